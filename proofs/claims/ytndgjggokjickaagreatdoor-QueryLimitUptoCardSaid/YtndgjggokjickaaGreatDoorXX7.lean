/- Parts of the proof. -/
import Derived.RangeFuncNested
import Derived.RangeFuncBound
import Derived.Shelf.RegionOpen
import Derived.OwnWalkIn
import Derived.LoopNIn
import Derived.LoopIn
import Derived.Test.YtndgjggokjickaaGreatDoorXX6
namespace Go.Proofs.YtndgjggokjickaaGreatDoor
variable{p:Prop}
set_option maxHeartbeats 90000000
set_option maxRecDepth 100000
open Go.ChangeShapes Go.WideShapes Go.ChangeAt Go.RowKit List
set_option linter.unusedVariables false
set_option linter.unusedSimpArgs false
theorem Es (gx:Nat)(A:Option Addr)(c:Nat)(args:List (Ex×Bool))(w:World)(hl:args.length<=1599289640356)(hA:RE w w.heap.size A (args.map (·.1)))(hE:∀a∈args,∀W,aj w W->ar 151 #[.agg (ay a.1),aw gx] W λ e w'=>e=.returned (.bool a.2)/\aj W w'):
  ar 150 #[.slice A args.length c,.func (.func 151) #[] #[.pointer (some ⟨gx,0,none⟩)]] w λ e w'=>e=.returned (.int .i64 (fQ (args.map (·.2))))/\aj w w':=by exact ZaO
theorem Jd (gx:Nat)(y x:Ex)(b:Bool)(w:World)(hg:aB w gx 46 (bH x).toArray)(h:mO w y x b):
  ar 151 #[.agg (ay y),aw gx] w λ e w'=>e=.returned (.bool b)/\aj w w':=by
 have hgx:=hg.lt;have bb:=ah w (.cells (ay y) 46);have hR:=aB.new w 46 (ay y);have HX:=hg.later bb;unfold bH at HX;have hs:=h _ bb;have zJ:=aa bb;have HS:=aa hs;have PY:=aa hgx;clear hs h bb hg hgx;go_enter Tryz.func151,Tryz.ntmps151;go_upto_region 1 with fail;have jk:=λ i=>HX.cell i
 have xS:=λ i=>hR.cell i
 have fx:=HX.frozen;generalize World.alloc w _=W at*;obtain⟨g2,Wl⟩:∃g2,g2=w.heap.size:=⟨_,rfl⟩;rw[<- Wl] at hR xS ⊢;clear Wl hR HX;have y0:=jk 0;have y1:=jk 1;have c2:=jk 2;have y3:=jk 3;have y4:=jk 4;have y5:=jk 5;have y6:=jk 6;have b0:=xS 0;have b1:=xS 1;have b2:=xS 2;have b3:=xS 3;have b4:=xS 4;have b5:=xS 5;have b6:=xS 6;clear jk xS fx;simp only[Uaa] at y0 y1 c2 y3 y4 y5 y6 b0 b1 b2 b3 b4 b5 b6;go_wp2_with fail;refine HS.ae.mono ?_;rintro e w1 ⟨rfl,b1⟩;have hb1:=ai.then zJ.ae b1;clear y0 y1 c2 y3 y4 y5 y6 b0 b1 b2 b3 b4 b5 b6;go_wp2_with fail;go_ret;exact⟨rfl,hb1⟩
variable{α:Type}
theorem nY(f:α->Bool):∀l:List α,fQ (l.map f)=match l.findIdx? f with | some k=>(k:Int)| none=> -1
 | []=>rfl
 | x::l=>by
   rw[map_cons,findIdx?_cons];unfold fQ;by_cases h:f x=true
   ·rw[if_pos h,if_pos h];rfl
   ·rw[if_neg h,if_neg h,nY f l];cases l.findIdx? f with
    | none=>rfl
    | some k=>show(if (k:Int)< 0 then(-1:Int)else(k:Int)+1)=((k+1:Nat):Int);rw[if_neg WC];rfl
theorem CD:∀(ts:List Tr) (ys:List Ex) (x:Tr) (z:Ex) (w:World),Tr.cN ts->x.ok->Tr.aO w (Old w) ts ys->x.at_ w (Old w) z->∃args:List (Ex×Bool),args.map (·.1)=ys/\args.map (·.2)=ts.map (λ g=>g.same x)/\∀a∈args,mO w a.1 z a.2
 | [],ys,x,z,w,_,_,hat,_=>by unfold Tr.aO at hat;subst hat;exact⟨[],rfl,rfl,by simp⟩
 | t::ts,ys,x,z,w,aZ,hx,hat,hz=>by
   unfold Tr.aO at hat;unfold Tr.cN at aZ;obtain⟨y,ys',rfl,h2,h3⟩:=hat;obtain⟨l,ft,hl2,ub⟩:=CD ts ys' x z w aZ.2 hx h3 hz;refine⟨(y,t.same x)::l,by simp[ft],by simp[hl2],λ a ha=>?_⟩;rcases List.mem_cons.1 ha with rfl | ha
   ·exact Tr.Ku t x y z w aZ.1 hx h2 hz
   ·exact ub a ha
variable{w w':World}{z:Ex}
theorem mO.later{y:Ex} {b:Bool}(h:mO w y z b)(hb:aj w w'):mO w' y z b:=λ W hW=>h W (ai.then hb hW)
theorem lF (aL:List Tr)(A:Option Addr)(n c gx:Nat)(x:Tr)(z:Ex)(w:World)(hl:aL.length<=1599289640356)(hG:gI w aL A n)(aZ:Tr.cN aL)(hx:x.ok)(hz:x.at_ w (Old w) z)(hg:aB w gx 46 (bH z).toArray):
  ar 150 #[.slice A n c,.func (.func 151) #[] #[.pointer (some ⟨gx,0,none⟩)]] w λ e w'=>e=.returned (.int .i64 (fQ (aL.map λ g=>g.same x)))/\aj w w':=by
 obtain⟨rfl,Kx,h1,h2⟩:=hG;obtain⟨ys,a1,a2,a3⟩:=CD aL Kx x z w aZ hx h2 hz;have B3:ys.length=aL.length:=by have:=congrArg List.length a2;simpa using this
 have k:=Es gx A c ys w WC (by rw[a1];exact h1.old) (λ a ha W hW=>Jd gx a.1 z a.2 W (hg.later hW) ((a3 a ha).later hW));rw[B3,a2] at k;exact k
theorem Tr.ind{P:Tr->Prop}(h:∀op v name width args,(∀a∈args,P a)->P (.mk op v name width args)):∀t,P t:=by
 intro t;exact Tr.rec (motive_1:=P) (motive_2:=λ ts=>∀a∈ts,P a) (λ op v name width args ih=>h op v name width args ih) (λ a ha=>by cases ha) (λ t ts h1 h2 a ha=>by
  rcases List.mem_cons.1 ha with rfl | ha
  ·exact h1
  ·exact h2 a ha) t
mutual
def Tr.nodes:Tr->Nat
 | .mk _ _ _ _ args=>Tr.aQ args+1
def Tr.aQ:List Tr->Nat
 | []=>0
 | t::ts=>t.nodes+Tr.aQ ts
end
theorem fT:∀ts:List Tr,Tr.aQ ts=(ts.map Tr.nodes).sum
 | []=>rfl
 | t::ts=>by unfold Tr.aQ;rw[fT ts];rfl
theorem dL:∀ {ts:List Tr},Tr.cN ts↔∀t∈ts,t.ok
 | []=>by unfold Tr.cN;simp
 | t::ts=>by unfold Tr.cN;rw[dL];simp
variable{ts us:List Tr}
theorem mq:Tr.cN (ts++us)↔Tr.cN ts/\Tr.cN us:=by
 rw[dL,dL,dL];constructor
 ·intro h;exact⟨λ t ht=>h t (List.mem_append.2 (.inl ht)),λ t ht=>h t (List.mem_append.2 (.inr ht))⟩
 ·rintro⟨h1,h2⟩ t ht;rcases List.mem_append.1 ht with h | h
  ·exact h1 t h
  ·exact h2 t h
theorem E9 (k:Nat):(Ed k).ok:=by unfold Ed Tr.ok;refine⟨⟨by decide,by decide⟩,by simp,by decide,by decide,by decide,?_⟩;unfold Tr.cN;trivial
theorem nZ (aL:List Tr)(cols:List aX)(s:dy):Tr.turns aL cols [] s=.ok ([],s):=by unfold Tr.turns;rfl
theorem jK (aL:List Tr)(cols:List aX)(t:Tr)(ts:List Tr)(s:dy):Tr.turns aL cols (t::ts) s=match Tr.turn aL cols t s with
  | .error e=> .error e
  | .ok (y,s')=>match Tr.turns aL cols ts s' with
    | .error e=> .error e
    | .ok (ys,Lb)=> .ok (y::ys,Lb):=by
 conv=>lhs;unfold Tr.turns
 rfl
theorem xY (aL:List Tr)(cols:List aX):∀(l m:List Tr) (s:dy),Tr.turns aL cols (l++m) s=match Tr.turns aL cols l s with
  | .error e=> .error e
  | .ok (y,s')=>match Tr.turns aL cols m s' with
    | .error e=> .error e
    | .ok (ys,Lb)=> .ok (y++ys,Lb)
 | [],m,s=>by
   rw[nil_append,nZ];dsimp only;cases Tr.turns aL cols m s with
   | error e=>rfl
   | ok x=>rfl
 | t::l,m,s=>by
   rw[cons_append,jK,jK];cases Tr.turn aL cols t s with
   | error e=>rfl
   | ok x=>
     obtain⟨y,s1⟩:=x;dsimp only;rw[xY aL cols l m s1];cases Tr.turns aL cols l s1 with
     | error e=>rfl
     | ok x=>
       obtain⟨ys,s2⟩:=x;dsimp only;cases Tr.turns aL cols m s2 with
       | error e=>rfl
       | ok x=>rfl
theorem Vt (aL:List Tr)(cols:List aX)(t:Tr)(s:dy):Tr.turns aL cols [t] s=match Tr.turn aL cols t s with
  | .error e=> .error e
  | .ok (y,s')=> .ok ([y],s'):=by
 rw[jK]
 cases Tr.turn aL cols t s with
 | error e=>rfl
 | ok x=>obtain⟨y,s1⟩:=x;dsimp only;rw[nZ]
variable{t:Tr}{s s1 s2:dy}
theorem PZ{aL:List Tr} {cols:List aX} {l:List Tr} {y:Tr}  {ys:List Tr}(h:Tr.turns aL cols l s=.ok (ys,s1))(k:Tr.turn aL cols t s1=.ok (y,s2)):Tr.turns aL cols (l++ [t]) s=.ok (ys++ [y],s2):=by rw[xY,h];dsimp only;rw[Vt,k]
variable{m:List Tr}
theorem Qa{aL:List Tr} {cols:List aX} {l:List Tr}   {ys:List Tr} {e:Int}(h:Tr.turns aL cols l s=.ok (ys,s1))(k:Tr.turn aL cols t s1=.error e):Tr.turns aL cols (l++t::m) s=.error e:=by rw[xY,h];dsimp only;rw[jK,k]
theorem sU{aL:List Tr} {cols:List aX}:∀ {l:List Tr} {s s1:dy} {ys:List Tr},Tr.turns aL cols l s=.ok (ys,s1)->ys.length=l.length
 | [],s,s1,ys,h=>by rw[nZ] at h;injection h with h;injection h with h1 h2;rw[<- h1]
 | t::l,s,s1,ys,h=>by
   rw[jK] at h;split at h
   ·cases h
   ·split at h
    ·cases h
    ·rename_i h2;injection h with h;injection h with h3 h4;rw[<- h3,length_cons,sU h2];rfl
theorem sV (aL:List Tr)(cols:List aX)(op:Int)(v:Val)(name:ByteArray)(width:Int)(args:List Tr)(s:dy):Tr.turn aL cols (.mk op v name width args) s=match aL.findIdx? (λ g=>g.same (.mk op v name width args))with
  | some k=> .ok (Ed k,s)
  | none=>
    if isAgg op=true then
     if (fS cols op args).2≠0 then .error (fS cols op args).2
     else .ok (Ed s.aL.length,⟨s.aJ++ [.mk op v name width args],s.aL++ [⟨iX s.aL.length,(fS cols op args).1⟩]⟩)
    else match Tr.turns aL cols args s with
     | .error e=> .error e
     | .ok (ys,s')=>
       if op=2 then .error (qW cols v name width ys.length)
       else if ((Tr.mk op v name width ys).type s'.aL).2≠0 then .error ((Tr.mk op v name width ys).type s'.aL).2
       else .ok (.mk op v name width ys,s'):=by
 conv=>lhs;unfold Tr.turn
 rfl
theorem F2 (cols:List aX)(v:Val)(name:ByteArray)(width:Int)(n:Nat):qW cols v name width n≠0:=by
 unfold qW;dsimp only;split
 ·assumption
 ·decide
structure Gh (t:Tr) (s:dy) (r:Except Int (Tr×dy)):Prop where
 err:∀e,r=.error e->e≠0
 ok:∀y s',r=.ok (y,s')->t.ok->y.ok
 len:∀y s',r=.ok (y,s')->s'.aL.length+s'.aJ.length<=s.aL.length+s.aJ.length+2*t.nodes
 aok:∀y s',r=.ok (y,s')->t.ok->Tr.cN s.aJ->Tr.cN s'.aJ
structure pF (ts:List Tr) (s:dy) (r:Except Int (List Tr×dy)):Prop where
 err:∀e,r=.error e->e≠0
 ok:∀y s',r=.ok (y,s')->Tr.cN ts->Tr.cN y
 len:∀y s',r=.ok (y,s')->s'.aL.length+s'.aJ.length<=s.aL.length+s.aJ.length+2*Tr.aQ ts
 aok:∀y s',r=.ok (y,s')->Tr.cN ts->Tr.cN s.aJ->Tr.cN s'.aJ
theorem ky{aL:List Tr} {cols:List aX}:∀ {ts:List Tr},(∀t∈ts,∀s,Gh t s (Tr.turn aL cols t s))->∀s,pF ts s (Tr.turns aL cols ts s)
 | [],_,s=>by rw[nZ];exact⟨λ e h=> Tae,λ y s' h _=>by injection h with h;injection h with h1 h2;rw[<- h1];unfold Tr.cN;trivial,λ y s' h=>by injection h with h;injection h with h1 h2;rw[<- h2];omega,λ y s' h _ ha=>by injection h with h;injection h with h1 h2;rw[<- h2];exact ha⟩
 | t::ts,H,s=>by
   have h1:=H t Tad s;rw[jK];cases hr:Tr.turn aL cols t s with
   | error e=>rw[hr] at h1;exact⟨λ e' h=>by injection h with h;rw[<- h];exact h1.err _ rfl,λ y s' h=> Tae,λ y s' h=> Tae,λ y s' h=> Tae⟩
   | ok x=>
     obtain⟨y1,s1⟩:=x;rw[hr] at h1;have h2:=ky (λ t ht=>H t (mem_cons_of_mem _ ht)) s1;dsimp only;cases hq:Tr.turns aL cols ts s1 with
     | error e=>rw[hq] at h2;exact⟨λ e' h=>by injection h with h;rw[<- h];exact h2.err _ rfl,λ y s' h=> Tae,λ y s' h=> Tae,λ y s' h=> Tae⟩
     | ok x=>
       obtain⟨ys,s2⟩:=x;rw[hq] at h2;have l1:=h1.len _ _ rfl;have l2:=h2.len _ _ rfl;refine⟨λ e' h=> Tae,λ y s' h aZ=>?_,λ y s' h=>?_,λ y s' h aZ ha=>?_⟩
       ·injection h with h;injection h with e1 e2;rw[<- e1];unfold Tr.cN at aZ ⊢;exact⟨h1.ok _ _ rfl aZ.1,h2.ok _ _ rfl aZ.2⟩
       ·injection h with h;injection h with e1 e2;rw[<- e2];have:Tr.aQ (t::ts)=t.nodes+Tr.aQ ts:=by rw[Tr.aQ]
        omega
       ·injection h with h;injection h with e1 e2;rw[<- e2];unfold Tr.cN at aZ;exact h2.aok _ _ rfl aZ.2 (h1.aok _ _ rfl aZ.1 ha)
theorem iD (aL:List Tr)(cols:List aX):∀(t:Tr) (s:dy),Gh t s (Tr.turn aL cols t s):=by
 refine Tr.ind ?_;intro op v name width args ih s;rw[sV];have hn:(Tr.mk op v name width args).nodes=Tr.aQ args+1:=by rw[Tr.nodes]
 cases hf:aL.findIdx? (λ g=>g.same (.mk op v name width args))with
 | some k=>dsimp only;exact⟨λ e h=> Tae,λ y s' h _=>by injection h with h;injection h with h1 h2;rw[<- h1];exact E9 k,λ y s' h=>by injection h with h;injection h with h1 h2;rw[<- h2];omega,λ y s' h _ ha=>by injection h with h;injection h with h1 h2;rw[<- h2];exact ha⟩
 | none=>
   dsimp only;by_cases ha:isAgg op=true
   ·rw[if_pos ha];by_cases ht:(fS cols op args).2≠0
    ·rw[if_pos ht];exact⟨λ e h=>by injection h with h;rw[<- h];exact ht,λ y s' h=> Tae,λ y s' h=> Tae,λ y s' h=> Tae⟩
    ·rw[if_neg ht];refine⟨λ e h=> Tae,λ y s' h aZ=>?_,λ y s' h=>?_,λ y s' h aZ hao=>?_⟩
     ·injection h with h;injection h with h1 h2;rw[<- h1];exact E9 _
     ·injection h with h;injection h with h1 h2;rw[<- h2];simp only[length_append,length_singleton];omega
     ·injection h with h;injection h with h1 h2;rw[<- h2,mq];refine⟨hao,?_⟩;unfold Tr.cN;refine⟨aZ,?_⟩;unfold Tr.cN;trivial
   ·rw[if_neg ha];have h2:=ky ih s
    cases hq:Tr.turns aL cols args s with
    | error e=>rw[hq] at h2;exact⟨λ e' h=>by injection h with h;rw[<- h];exact h2.err _ rfl,λ y s' h=> Tae,λ y s' h=> Tae,λ y s' h=> Tae⟩
    | ok x=>
      obtain⟨ys,s1⟩:=x;rw[hq] at h2;have hl:=sU hq;have l2:=h2.len _ _ rfl;dsimp only;by_cases ho:op=2
      ·rw[if_pos ho];exact⟨λ e' h=>by injection h with h;rw[<- h];exact F2 _ _ _ _ _,λ y s' h=> Tae,λ y s' h=> Tae,λ y s' h=> Tae⟩
      ·rw[if_neg ho];by_cases ht:((Tr.mk op v name width ys).type s1.aL).2≠0
       ·rw[if_pos ht];exact⟨λ e' h=>by injection h with h;rw[<- h];exact ht,λ y s' h=> Tae,λ y s' h=> Tae,λ y s' h=> Tae⟩
       ·rw[if_neg ht];refine⟨λ e' h=> Tae,λ y s' h aZ=>?_,λ y s' h=>?_,λ y s' h aZ hao=>?_⟩
        ·injection h with h;injection h with h1 h3;rw[<- h1];unfold Tr.ok at aZ ⊢;exact⟨aZ.1,by rw[hl];exact aZ.2.1,aZ.2.2.1,aZ.2.2.2.1,aZ.2.2.2.2.1,h2.ok _ _ rfl aZ.2.2.2.2.2⟩
        ·injection h with h;injection h with h1 h3;rw[<- h3];omega
        ·injection h with h;injection h with h1 h3;rw[<- h3];unfold Tr.ok at aZ;exact h2.aok _ _ rfl aZ.2.2.2.2.2 hao
variable{q B:Nat}
theorem xZ(h:w.grownBy w' (some q))(hB:B<=w.heap.size)(hq:B<=q):Below B w w':=
 ⟨h.os,h.tape,h.output,h.size,λ k hk=>h.block k WC λ e=>by injection e with e;omega⟩
variable{u v:Value}
theorem Mv.later(h:Mv w' u v)(hs:w.heap.size<=w'.heap.size):Mv w u v:=by
 rcases h with h | h
 ·exact .inl h
 ·exact .inr λ q hq=>Nat.le_trans hs (h q hq)
variable{f:α->List Value}{e:TypeId}{lv:Value}{l:List α}{P:Program}
theorem zdP.KaH(h:p:=by refine⟨v',w',hr,ho,ha,?_⟩;exact ZfO):p:=h
theorem eM{size:Nat} {base:Nat}   {y:α}  (t ty:TypeId)(z:Value)(bytes:Nat)(ht:P.underlying t=some (.slice e))(jm:(P.info? e).map (λ i=>(i.zero,i.size,i.bytes))=some (some z,size,bytes))(hzs:z.cells.size=size)(hsz:0 < size)
  (hf:∀x,(f x).length=size) (h1:∀u∈f y,u.oneCell'=true) (hown:aI f e size w base lv l)
  (g0:Nat) (hg0:aB w g0 e (f y).toArray) (hlen:(l.length+1)*bytes<=140737488355328) (mJ:l.length+1<=140737488355328) (hbase:base<=w.heap.size):
  ∃v' w',(Builtin.append_ #[t,t] ty #[lv,aH g0 1 1]).run P w=.ok v' w'/\aI f e size w' base v' (l++ [y])/\AR f e size base lv l y w w'/\Mv w lv v':=by
 open zdP in exact ZbG
structure PC where
 q0:Value
 q1:Value
 q2:Value
 q3:Value
 q5:Value
 q6:Value
 q7:Value
 gA:Option Addr
 gn:Nat
 gc:Nat
 cA:Option Addr
 cc:Nat
 aK:Bool
 aL:List Tr
 cols:List aX
structure Rest where
 h:Value
 i:Value
 j:Value
 o:Value
def PC.cells (c:PC)(r:Rest)(u v:Value):Array Value:= #[c.q0,c.q1,c.q2,c.q3,.slice c.gA c.gn c.gc,c.q5,c.q6,c.q7,.slice c.cA c.cols.length c.cc,u,v,.bool c.aK,r.h,r.i,r.j,r.o]
structure PC.Ok (c:PC) (w0:World):Prop where
 env:zH w0
 aL:gI w0 c.aL c.gA c.gn
 gok:Tr.cN c.aL
 gl:c.aL.length<=1000000
 cols:RC w0 w0.heap.size c.cA c.cols
 cl:c.cols.length<=1000000
structure eG (c:PC) (w0:World) (gp:Nat) (r:Rest) (w:World) (u v:Value) (ya:List Ex) (s:dy):Prop where
 low:w0.heap.size<=gp
 base:aj w0 w
 blk:aB w gp 81 (c.cells r u v)
 kU:aI bH 46 7 w w0.heap.size u ya
 dI:aI aS 113 2 w w0.heap.size v s.aL
 aJ:Tr.aO w0 (Old w0) s.aJ ya
section
variable {c:PC} {w0 w w':World} {gp:Nat} {r:Rest} {u v:Value} {ya:List Ex} {s:dy}
theorem eG.later (h:eG c w0 gp r w u v ya s)(hb:aj w w'):eG c w0 gp r w' u v ya s:=
 ⟨h.low,Below.trans h.base (hb.mono h.base.size),h.blk.later hb,h.kU.later hb,h.dI.later hb,h.aJ⟩
theorem eG.kp9 (h:eG c w0 gp r w u v ya s):∀q,u.ownBlock=some q->w0.heap.size<=q:=λ q hq=>(h.kU.lt hq).2.1
theorem eG.atO (h:eG c w0 gp r w u v ya s):∀q,v.ownBlock=some q->w0.heap.size<=q:=λ q hq=>(h.dI.lt hq).2.1
theorem eG.fresh (h:eG c w0 gp r w u v ya s) {w2:World} {g:Nat}(hg:w.heap.size<=g)(hg2:g < w2.heap.size):Kp w2 gp [u,v] g:=
 ew.2 ⟨hg2,by have:=h.blk.lt;omega,λ e=>by have:=(h.kU.lt e).1;omega,λ e=>by have:=(h.dI.lt e).1;omega⟩
theorem eG.aside (h:eG c w0 gp r w u v ya s) {q:Nat}(hg:w.grownBy w' (some q))(hq:Kp w gp [u,v] q)(hl:w0.heap.size<=q):eG c w0 gp r w' u v ya s:=by rw[ew] at hq;exact⟨h.low,Below.trans h.base (xZ hg h.base.size hl),h.blk.grown hg (λ e=>by injection e with e;exact hq.2.1 e.symm),h.kU.grown hg hq.2.2.1,h.dI.grown hg hq.2.2.2,h.aJ⟩
end
def rJ (c:PC)(w0:World)(gp:Nat)(r:Rest)(u v:Value)(w:World)(x:Except Int (Tr×dy))(e:Ending)(w':World):Prop:=
 match x with
 | .error er=>∃(y:Ex) (u' v':Value),e=.returned (.tuple #[.agg (ay y),af er])/\gK gp w u v w' u' v'
 | .ok (t,s)=>∃y u' v' ya,e=.returned (.tuple #[.agg (ay y),af 0])/\t.at_ w' (λ b=>w.heap.size<=b/\Kp w' gp [u',v'] b) y/\eG c w0 gp r w' u' v' ya s/\gK gp w u v w' u' v'
def F3 (c:PC)(w0:World)(gp:Nat)(r:Rest)(t:Tr):Prop:=∀(z:Ex) (s:dy) (u v:Value) (ya:List Ex) (w:World),t.ok->t.at_ w0 (Old w0) z->eG c w0 gp r w u v ya s->s.aL.length+s.aJ.length+2*t.nodes<=1000000->
 ar 99 #[aw gp,.agg (ay z)] w (rJ c w0 gp r u v w (t.turn c.aL c.cols s))
theorem BJ (k:Nat)(w:World)(S:Nat->Prop):(Ed k).at_ w S (KV k):=by unfold Ed Tr.at_ KV;exact Zhs
theorem zbL.Kal(h:p:=by
 refine bodyPost_ret (v:=.tuple #[.agg #[ag 2,ag 0,af 0,au,.string nm,af 0,az],af 0]) Tai rfl ?_;refine⟨⟨2,⟨0,0,⟨#[]⟩⟩,nm,0,none,0,0⟩,u,v,ya,rfl,by rw[Sz.ae];exact BJ k _ _,?_,?_⟩
 ·exact pG.ae.later hb9
 ·exact(gK.refl gp w u v).later hb9):p:=h
theorem zcu.Kau(h:p:=by
 have PL:=aa Mh;obtain⟨nm,iR⟩:∃nm,nm=iX k:=⟨_,rfl⟩;rw[<- iR];have Sz:=aa iR;clear iR Mh;go_wp2_with fail;clear y0 y1 c2 y3 y4 y5 y6 Gj;generalize uE:World.setCell _ _ _=W9;have hR:aB W9 g4 46 #[ag 2,ag 0,af 0,au,.string nm,af 0,az]:=by rw[<- uE];simpa using(((((((PL.ae.aT 0 _).aT 1 _).aT 2 _).aT 3 _).aT 4 _).aT 5 _).aT 6 _)
 have hb9:aj w W9:=by rw[<- uE];exact((((((((oB.ae).setCell (p:=⟨g4,0,none⟩) mF.ae _).setCell (p:=⟨g4,1,none⟩) mF.ae _).setCell (p:=⟨g4,2,none⟩) mF.ae _).setCell (p:=⟨g4,3,none⟩) mF.ae _).setCell (p:=⟨g4,4,none⟩) mF.ae _).setCell (p:=⟨g4,5,none⟩) mF.ae _).setCell (p:=⟨g4,6,none⟩) mF.ae _)
 open zbL in exact ZaD):p:=h
theorem za3.Kad(h:p:=by have Ob:=oY k WC WC;have eL:=aa hb1;have CF:=aa (sT.ae.later hb1);have Mh:=tD.ae.later hb1;have atP:=aa (gh.ae.env.later CF.ae.base);clear c4 c8 c10 hb1 Gi hf;go_wp2_with fail;refine(Ob w1 atP.ae).mono ?_;rintro e w2 ⟨rfl,hb2⟩;have oB:=aa (ai.then zJ.ae (ai.then eL.ae hb2));have uD:=aa (CF.ae.later hb2);replace Mh:=Mh.later hb2;have hz4:=Mh.lt;clear hb2 Ob;unfold mA KV;have Gj:=Mh.frozen;open zcu in exact Za9):p:=h
theorem Qb (c:PC)(w0:World)(gp:Nat)(r:Rest)(t:Tr)(z:Ex)(s:dy)(u v:Value)(ya:List Ex)(w:World)(k:Nat)(hf:c.aL.findIdx? (λ g=>g.same t)=some k)(aZ:c.Ok w0)(fU:t.ok)(hat:t.at_ w0 (Old w0) z)(nX:eG c w0 gp r w u v ya s):
  ar 99 #[aw gp,.agg (ay z)] w (rJ c w0 gp r u v w (.ok (Ed k,s))):=by
 have Ah:k < c.aL.length:=by obtain⟨h,_⟩:=List.findIdx?_eq_some_iff_getElem.1 hf;exact h
 have zA:k<=1000000:=by have:=aZ.gl;omega
 open za3 in exact Zas
theorem zbM.Kal(h:p:=by refine bodyPost_ret (v:=.tuple #[.agg dh,af er]) Tai rfl ?_;exact⟨⟨0,⟨0,0,⟨#[]⟩⟩,⟨#[]⟩,0,none,0,0⟩,u,v,rfl,(gK.refl gp w u v).later hb9⟩):p:=h
theorem zfb.Ka6(h:p:=by
 have hb9:aj w W9:=by rw[<- uE];exact((((((((oB.ae).setCell (p:=⟨g4,0,none⟩) mF.ae _).setCell (p:=⟨g4,1,none⟩) mF.ae _).setCell (p:=⟨g4,2,none⟩) mF.ae _).setCell (p:=⟨g4,3,none⟩) mF.ae _).setCell (p:=⟨g4,4,none⟩) mF.ae _).setCell (p:=⟨g4,5,none⟩) mF.ae _).setCell (p:=⟨g4,6,none⟩) mF.ae _)
 open zbM in exact ZaD):p:=h
theorem zg0.KbN(h:p:=by have PL:=aa Mh;clear Mh;open zfb in exact ZcO):p:=h
theorem zcs.Kat(h:p:=by
 have t1:(er != 0)=true:=by simp[her]
 have Gj:=Mh.frozen;open zg0 in exact ZeH):p:=h
theorem za4.Kad(h:p:=by open zcs in exact Za8):p:=h
theorem Jf (c:PC)(w0:World)(gp:Nat)(r:Rest)(t:Tr)(z:Ex)(s:dy)(u v:Value)(ya:List Ex)(w:World)(hf:c.aL.findIdx? (λ g=>g.same t)=none)(ha:isAgg t.op=true)(ty er:Int)(ht:fS c.cols t.op t.args=(ty,er))(her:er≠0)(aZ:c.Ok w0)(fU:t.ok)(hat:t.at_ w0 (Old w0) z)(nX:eG c w0 gp r w u v ya s):
  ar 99 #[aw gp,.agg (ay z)] w (rJ c w0 gp r u v w (.error er)):=by
 open za4 in exact Zas
theorem wF(w:World)(g q:Nat)(t ty:TypeId)(cur cells:Array Value)(hg:w.heap[g]?=some (.cells cur t (0,0)))(hi:(P.info? ty).map (·.size)=some cells.size)
  (pE:q+cells.size<=cur.size) (h1:cells.all (·.oneCell')=true):
  (storeVar ty ⟨g,q,none⟩ (.agg cells)).run P w=.ok () (w.setRow g (cur.toList.take q++cells.toList++cur.toList.drop (q+cells.size)).toArray):=by
 have:=run_storeCells_at P g q t cells.toList 0 cur w hg (by simpa using pE) (λ v hv=>(Array.all_eq_true_iff_forall_mem.1 h1) v (by simpa using hv));simp only[Nat.add_zero,Array.length_toList] at this
 cases hq:P.info? ty with
 | none=>simp[hq] at hi
 | some i=>
   have hs:cells.size=i.size:=by simp[hq] at hi;omega
   simp[storeVar,sizeOf,typeInfo,hq,Value.cells,hs] at this ⊢;rw[this]
theorem aI.block{size base:Nat}   (h:aI f e size w base v l)(hne:l≠ []):∃g c,v=aH g l.length c/\base<=g/\g < w.heap.size:=by
 rcases h.2 with ⟨_,h0⟩|⟨g,cap,cur,rfl,hb,hg,_⟩
 ·exact absurd (eq_nil_of_length_eq_zero h0) hne
 ·exact⟨g,cap,rfl,hb,(h.lt rfl).1⟩
theorem Gk{size:Nat}(hf:∀x,(f x).length=size):∀m:List α,(m.flatMap f).length=m.length*size:=by
 intro m
 induction m with
 | nil=>simp
 | cons x m ih=>rw[flatMap_cons,length_append,hf,ih,length_cons,Nat.add_mul,Nat.one_mul];omega
theorem Mi{size:Nat}(hf:∀x,(f x).length=size)(y:α):∀(l:List α) (i:Nat),i < l.length->(l.set i y).flatMap f=(l.flatMap f).take (i*size)++f y++(l.flatMap f).drop (i*size+size):=by
 intro l
 induction l with
 | nil=>intro i hi;simp at hi
 | cons x l ih=>
   intro i hi
   cases i with
   | zero=>simp only[set_cons_zero,flatMap_cons,Nat.zero_mul,take_zero,nil_append,Nat.zero_add];rw[drop_append_of_le_length (by rw[hf];exact Nat.le_refl _),<- hf x,drop_length,nil_append]
   | succ i=>
     simp only[set_cons_succ,flatMap_cons];rw[ih i TaE];have e1:(i+1)*size=(f x).length+i*size:=by rw[hf,Nat.add_mul,Nat.one_mul];omega
     rw[e1,take_length_add_append,Nat.add_assoc,drop_length_add_append];simp[append_assoc]
variable{ops:Array Oper}{rest:List Oper}{a:Act}{Q:Exit->Act->World->Prop}
theorem zeG.KaW(h:p:=by
 unfold Oper.wp execOp;simp only[ho,hp,hx,Instr.storeAt,Instr.sureAddr,Sem.run_bind,Sem.run_pure,Result.andThen_ok,hrun];refine hK _ _ (h _ ⟨?_,.inr ⟨q,c,_,?_,hb,setRow_heap w q cur _ e (0,0) hg,?_,hm,?_,?_⟩⟩ ⟨rfl,rfl,rfl,by simp[World.setRow],λ k hk hne=>setRow_other w q k _ (λ e=>hne Tbb)⟩)
 ·rw[Gk hf]
 ·rw[e2,length_set]
 ·rw[length_set];exact hn
 ·rw[<- hs];simp[hf];omega
 ·exact ZbJ):p:=h
theorem oa{size base:Nat}   {y:α}    {o:Oper}  (hgd:o.guard=none)(ty:TypeId)(p x:Operand)(ho:o.op=.store ty p x)
  (q n c i:Nat) (hf:∀x,(f x).length=size) (hown:aI f e size w base (aH q n c) l) (rZ:i < l.length) (hp:a.eval p=bh q (i*size)) (hx:a.eval x=.agg (f y).toArray)
  (hi:(P.info? ty).map (·.size)=some size) (h1:(f y).toArray.all (·.oneCell')=true)
  (h:∀w',aI f e size w' base (aH q n c) (l.set i y)->w.grownBy w' (some q)->wpList P ops Q rest (a.put o.dst undef) w'):wpList P ops Q (o::rest) a w:=by
 refine wpList_plain hgd λ K hK=>?_
 rcases hown.2 with ⟨hv,_⟩|⟨g,cap,cur,hv,hb,hg,hn,hm,hs,ht⟩
 ·cases hv
 ·open zeG in exact Zcr
theorem wG{size base:Nat}   {z y:α}    {o:Oper}  (hgd:o.guard=none)(ty:TypeId)(p x:Operand)(ho:o.op=.store ty p x)
  (q n c:Nat) (hf:∀x,(f x).length=size) (hown:aI f e size w base (aH q n c) (l++ [z])) (hp:a.eval p=bh q (l.length*size)) (hx:a.eval x=.agg (f y).toArray)
  (hi:(P.info? ty).map (·.size)=some size) (h1:(f y).toArray.all (·.oneCell')=true)
  (h:∀w',aI f e size w' base (aH q n c) (l++ [y])->w.grownBy w' (some q)->wpList P ops Q rest (a.put o.dst undef) w'):wpList P ops Q (o::rest) a w:=by
 refine oa hgd ty p x ho q n c l.length hf hown Tad hp hx hi h1 λ w' h1 h2=>h w' ?_ h2
 exact ZgX
section
variable {c:PC} {w0 w w':World} {gp:Nat} {r:Rest} {u v u' v':Value} {ya:List Ex} {s:dy}
theorem eG.ans (h:eG c w0 gp r w u v ya s)(hg:w.grownBy w' u.ownBlock):aj w0 w':=
 Below.trans h.base (br h.kU hg h.base.size)
theorem eG.afg (h:eG c w0 gp r w u v ya s)(hg:w.grownBy w' v.ownBlock):aj w0 w':=
 Below.trans h.base (br h.dI hg h.base.size)
theorem dA {α:Type} {f:α->List Value} {e:TypeId} {size base:Nat} {l:List α} {x:Value} {q:Nat} {t:TypeId} {cs:Array Value}(hq:aB w q t cs)(h:aI f e size w base x l)(ht:t≠e)(hg:w.grownBy w' x.ownBlock):aB w' q t cs:=hq.grown hg λ e=>h.other hq ht e.symm
theorem eG.ant (h:eG c w0 gp r w u v ya s) {t:Tr} {z:Ex}(ho:aI bH 46 7 w' w0.heap.size u' (ya++ [z]))(hg:w.grownBy w' u.ownBlock)(ht:t.at_ w0 (Old w0) z):
  eG c w0 gp r (w'.setCell ⟨gp,9,none⟩ u') u' v (ya++ [z]) ⟨s.aJ++ [t],s.aL⟩:=by
 have hb:=dA h.blk h.kU Tab hg;refine⟨h.low,(h.ans hg).setCell h.low _,hb.aT 9 u',ho.keep λ g hg2=>?_,(h.dI.past h.kU Tab hg).keep λ g hg2=>?_,Tr.all_append h.aJ (Tr.fL ht)⟩
 ·exact Below.heap_setCell w' ⟨gp,9,none⟩ u' g λ e=>ho.other hb Tab Tak
 ·exact Below.heap_setCell w' ⟨gp,9,none⟩ u' g λ e=>(h.dI.past h.kU Tab hg).other hb Tab Tak
theorem eG.Qc (h:eG c w0 gp r w u v ya s) {x:aX}(ho:aI aS 113 2 w' w0.heap.size v' (s.aL++ [x]))(hg:w.grownBy w' v.ownBlock):
  eG c w0 gp r (w'.setCell ⟨gp,10,none⟩ v') u v' ya ⟨s.aJ,s.aL++ [x]⟩:=by
 have hb:=dA h.blk h.dI Tab hg;refine⟨h.low,(h.afg hg).setCell h.low _,hb.aT 10 v',(h.kU.past h.dI Tab hg).keep λ g hg2=>?_,ho.keep λ g hg2=>?_,h.aJ⟩
 ·exact Below.heap_setCell w' ⟨gp,10,none⟩ v' g λ e=>(h.kU.past h.dI Tab hg).other hb Tab Tak
 ·exact Below.heap_setCell w' ⟨gp,10,none⟩ v' g λ e=>ho.other hb Tab Tak
theorem gK.anu (hg:w.grownBy w' u.ownBlock)(hm:Mv w u u')(x:Value)(i:Nat):gK gp w u v (w'.setCell ⟨gp,i,none⟩ x) u' v:=
 ⟨hg.os,hg.tape,hg.output,by rw[World.size_setCell];exact hg.size,λ k hk=>(Below.heap_setCell w' ⟨gp,i,none⟩ x k (ew.1 hk).2.1).trans (hg.block k hk.1 λ e=>(ew.1 hk).2.2.1 e.symm),hm,.inl rfl⟩
theorem gK.F4 (hg:w.grownBy w' v.ownBlock)(hm:Mv w v v')(x:Value)(i:Nat):gK gp w u v (w'.setCell ⟨gp,i,none⟩ x) u v':=
 ⟨hg.os,hg.tape,hg.output,by rw[World.size_setCell];exact hg.size,λ k hk=>(Below.heap_setCell w' ⟨gp,i,none⟩ x k (ew.1 hk).2.1).trans (hg.block k hk.1 λ e=>(ew.1 hk).2.2.2 e.symm),.inl rfl,hm⟩
theorem gK.in9 {q:Nat}(hg:w.grownBy w' (some q))(hq:u.ownBlock=some q):gK gp w u v w' u v:=
 ⟨hg.os,hg.tape,hg.output,hg.size,λ k hk=>hg.block k hk.1 λ e=>(ew.1 hk).2.2.1 (hq.trans e.symm),.inl rfl,.inl rfl⟩
end
def ahG (gp B:Nat)(w1:World)(u:Value)(l:List Ex)(z:Ex):Nat->World->Value->Prop
 | 0,_,v=>v=aw gp
 | 1,_,v=>v=aw gp
 | 2,_,v=>v=aw gp
 | 3,_,v=>v=bh gp 9
 | 4,_,v=>v=u
 | 5,_,v=>v=.agg (ay z)
 | 6,w,v=>∃q:Nat,v=aH q 1 1/\aB w q 46 (bH z).toArray/\u.ownBlock≠some q
 | 7,w,v=>∃q:Value,v=q/\aI bH 46 7 w B q (l++ [z])/\Mv w1 u q
 | 8,_,v=>v=aw gp
 | 9,_,v=>v=bh gp 9
 | _,_,_=>False
theorem Qd (gp B:Nat)(w1:World)(u:Value)(l:List Ex)(z:Ex):∀i w w' v,ahG gp B w1 u l z i w v->AR bH 46 7 B u l z w w'->ahG gp B w1 u l z i w' v:=by
 intro i w w' v h hl
 match i with
 | 0 | 1 | 2 | 3 | 4 | 5 | 8 | 9=>exact h
 | 6=>exact ZeF
 | 7=>exact ZfQ
 | n+10=>exact h
def acu (gp g9 B:Nat)(w1:World)(vv:Value)(l:List aX)(nm:ByteArray)(ty:Int):Nat->World->Value->Prop
 | 0,_,v=>v=aw gp
 | 1,_,v=>v=aw gp
 | 2,_,v=>v=aw gp
 | 3,_,v=>v=bh gp 10
 | 4,_,v=>v=vv
 | 5,_,v=>v=bh g9 4
 | 6,_,v=>v=.string nm
 | 7,_,v=>v=ag ty
 | 8,_,v=>v=.agg #[.string nm,ag ty]
 | 9,w,v=>∃q:Nat,v=aH q 1 1/\aB w q 113 (aS ⟨nm,ty⟩).toArray/\vv.ownBlock≠some q
 | 10,w,v=>∃q:Value,v=q/\aI aS 113 2 w B q (l++ [⟨nm,ty⟩])/\Mv w1 vv q
 | 11,_,v=>v=aw gp
 | 12,_,v=>v=bh gp 10
 | _,_,_=>False
theorem CH (gp g9 B:Nat)(w1:World)(vv:Value)(l:List aX)(nm:ByteArray)(ty:Int):∀i w w' x,acu gp g9 B w1 vv l nm ty i w x->AR aS 113 2 B vv l ⟨nm,ty⟩ w w'->acu gp g9 B w1 vv l nm ty i w' x:=by
 intro i w w' x h hl
 match i with
 | 0 | 1 | 2 | 3 | 4 | 5 | 6 | 7 | 8 | 11 | 12=>exact h
 | 9=>exact ZeF
 | 10=>exact ZfQ
 | n+13=>exact h
def wH:Ex:=⟨0,⟨0,0,⟨#[]⟩⟩,⟨#[]⟩,0,none,0,0⟩
theorem zct.Kat(h:p:=by
 have hy6:=Mh;have Ck:=aa Mh;clear Mh hy6 ht;obtain⟨UA,uc,hu,_⟩:=Mg.ae.kU.reads;obtain⟨VA,vc,hv,_⟩:=Mg.ae.dI.reads;have No:=aa (show ya.length=s.aJ.length from Mg.ae.aJ.length);subst hu hv;go_wp2_with fail;go_region
 ·generalize hW8:World.drew _=W8;have b7:aj w3 W8:=by rw[<- hW8];exact((Below.refl _ _).alloc (Nat.le_refl _) _).drew
  clear hW8;have pH:=aa (Mg.ae.later b7);have Mx:=aa (DR.ae.later b7);have My:=aa (Ck.ae.later b7);have Gl:=aa (ai.then oB.ae b7);clear b7 Mg DR Ck oB;have hk3:=pG.ae.fresh (w2:=W8) Je.ae Mx.ae.lt;have hk4:=pG.ae.fresh (w2:=W8) mF.ae My.ae.lt;have DJ:=aa (ew.1 hk3);have CI:=aa (ew.1 hk4);clear hk3 hk4;go_wp2_with fail;refine fu _ _ (take_append_drop 10 _).symm (AR bH 46 7 w0.heap.size (Value.slice UA ya.length uc) ya z) AR.refl (λ _ _ _=>AR.trans) AR.drew (ahG gp w0.heap.size W8 (Value.slice UA ya.length uc) ya z) (λ i w w' x h hr=>Qd _ _ _ _ _ _ _ _ _ _ h hr) Taa Taa Taa ?_ ?_
  ·simp only[take_succ_cons,take_zero];refine⟨ZaT,ZaT,ZaT,Zd4,?_,?_,?_,?_,ZaT,Zd4,trivial⟩
   ·intro ρ w3 hc hL hr;have h0:_=_:=hr.1;have jS:=dA pH.ae.blk pH.ae.kU Tab hL.grown;unfold PC.cells at jS;have c9:=jS.cell 9;simp only[Uaa] at c9;exact aq (w':=w3) (by simp[go_sem,h0,c9];done) ⟨AR.refl _,rfl⟩
   ·intro ρ w3 hc hL hr;have h0:_=_:=hr.1;have HX:=Mx.ae.grown hL.grown (Ne.symm DJ.ae.2.2.1);have z0:=HX.cell 0;have z1:=HX.cell 1;have x2:=HX.cell 2;have x3:=HX.cell 3;have x4:=HX.cell 4;have x5:=HX.cell 5;have x6:=HX.cell 6;simp only[Uaa] at z0 z1 x2 x3 x4 x5 x6;exact aq (w':=w3) (by simp[go_sem,h0,z0,z1,x2,x3,x4,x5,x6];done) ⟨AR.refl _,rfl⟩
   ·intro ρ w3 hc hL hr;have h0:_=_:=hr.1;refine aq (v:=.slice (some ⟨w3.heap.size,0,none⟩) 1 1) (w':=w3.alloc (.cells (ay z) 46)) Tar ⟨AR.later (ah w3 _),⟨_,rfl,aB.new w3 _ _,λ e=>?_⟩⟩;have:=((hL.old pH.ae.kU).lt e).1;omega
   ·intro ρ w3 hc hL hr;have h0:_=_:=hr.1;obtain⟨q1,h1,uF,Jg⟩:∃q:Nat,ρ (.tmp 60)=.slice (some ⟨q,0,none⟩) 1 1/\aB w3 q 46 (bH z).toArray/\(Value.slice UA ya.length uc).ownBlock≠some q:=hr.2.1;obtain⟨v',w',hrun,ho,yD,Ei⟩:=eM (P:=Tryz.prog) (w:=w3) 23 23 _ 88 Tryz.underlying23 fI rfl WC (λ _=>rfl) TaD (hL.old pH.ae.kU) q1 uF TaT TaT (Nat.le_trans pH.ae.base.size hL.grown.size);exact ZbQ
  intro W3 hL;simp only[Uab];rintro a0 - a1 - a2 - a3 - a4 - a5 - a6 - a7 ⟨q_7,rfl,R5,afT⟩ a8 - _ rfl;simp only[bE,Act.put,Uac];obtain⟨A4,Qg,hv4,_⟩:=R5.reads;rw[length_append,length_singleton] at hv4;subst hv4;have O4:=aa R5;have HM4:=aa afT;have F9:=aa hL.grown;have jS:=dA pH.ae.blk pH.ae.kU Tab hL.grown;have f9:=jS.frozen 9;unfold PC.cells at jS;have c9:=jS.cell 9;simp only[Uaa] at c9;clear R5 afT jS hL;go_upto_region 12 with fail;clear f9 c9;have HO:=aa (pH.ae.ant O4.ae F9.ae CE.ae);have K3:=aa ((gK.refl gp W8 (Value.slice UA ya.length uc) (Value.slice VA s.aL.length vc)).trans (gK.anu (gp:=gp) (v:=Value.slice VA s.aL.length vc) F9.ae HM4.ae (Value.slice A4 (ya.length+1) Qg) 9));have K6:=aa ((My.ae.grown F9.ae (Ne.symm CI.ae.2.2.1)).far (p:=⟨gp,9,none⟩) CI.ae.2.1 (Value.slice A4 (ya.length+1) Qg));clear pH Mx My O4 HM4 F9;generalize World.setCell W3 _ _=WA at*;obtain⟨UX,hUX⟩:∃UX,UX=Value.slice A4 (ya.length+1) Qg:=⟨_,rfl⟩;rw[<- hUX] at HO K3;clear hUX;exact Zab
 ·generalize hW8:World.drew _=W8;have b7:aj w3 W8:=by rw[<- hW8];exact((Below.refl _ _).alloc (Nat.le_refl _) _).drew
  clear hW8;have pH:=aa (Mg.ae.later b7);have Mx:=aa (DR.ae.later b7);have My:=aa (Ck.ae.later b7);have Gl:=aa (ai.then oB.ae b7);clear b7 Mg DR Ck oB;have hk3:=pG.ae.fresh (w2:=W8) Je.ae Mx.ae.lt;have hk4:=pG.ae.fresh (w2:=W8) mF.ae My.ae.lt;have DJ:=aa (ew.1 hk3);have CI:=aa (ew.1 hk4);clear hk3 hk4;have G1:=aa (ah W8 (.cells dh 46));have gX:=pH.ae.blk;unfold PC.cells at gX;have c9:=gX.cell 9;simp only[Uaa] at c9;clear gX;go_upto_region 10 with (first
   |(at_builtin
     refine nc (l:=ya) (y:=wH) rfl (.tmp 46) (.tmp 48) 23 rfl _ 88 Tryz.underlying23 fI rfl WC rfl (by simp[bH,wH,Value.oneCell']) rfl (pH.ae.kU.later G1.ae) W8.heap.size rfl (aB.new W8 _ _) TaT TaT (Nat.le_trans pH.ae.base.size G1.ae.size) ?_
     intro v4 w4 Ly gr4 m4
     obtain⟨Nm,MY,Kx,hq4,atV⟩:=Ly.block Tad
     rw[length_append,length_singleton] at Kx
     subst Kx
     have CM:=aa (pH.ae.later G1.ae)
     have hb4:=dA CM.ae.blk CM.ae.kU Tab gr4
     have f4:=hb4.frozen 9
     unfold PC.cells at hb4
     have cc9:=hb4.cell 9
     simp only[Uaa] at cc9
     have LE:=aa Ly
     have G4:=aa (show(W8.alloc (.cells dh 46)).grownBy w4 (Value.slice UA ya.length uc).ownBlock from gr4)
     have M4:=aa (show Mv (W8.alloc (.cells dh 46)) (Value.slice UA ya.length uc) (Value.slice (some ⟨Nm,0,none⟩) (ya.length+1) MY)from m4)
     clear Ly gr4 m4 hb4))
  clear cc9 f4 c9;have anA:=gK.anu (gp:=gp) (v:=Value.slice VA s.aL.length vc) G4.ae M4.ae (Value.slice (some ⟨Nm,0,none⟩) (ya.length+1) MY) 9;have anB:=aa (((gK.refl gp W8 (Value.slice UA ya.length uc) (Value.slice VA s.aL.length vc)).later G1.ae).trans anA);have rK:=aa ((CM.ae.ans G4.ae).setCell CM.ae.low (p:=⟨gp,9,none⟩) (Value.slice (some ⟨Nm,0,none⟩) (ya.length+1) MY));have hb4:=dA CM.ae.blk CM.ae.kU Tab G4.ae;have anC:=aa (show aB (w4.setCell ⟨gp,9,none⟩ (Value.slice (some ⟨Nm,0,none⟩) (ya.length+1) MY)) gp 81 (c.cells r (Value.slice (some ⟨Nm,0,none⟩) (ya.length+1) MY) (Value.slice VA s.aL.length vc))from hb4.aT 9 _);have HO5:=aa (LE.ae.keep λ g hg2=>Below.heap_setCell w4 ⟨gp,9,none⟩ (Value.slice (some ⟨Nm,0,none⟩) (ya.length+1) MY) g λ e=>LE.ae.other hb4 Tab Tak);have HV5:=aa ((CM.ae.dI.past CM.ae.kU Tab G4.ae).keep λ g hg2=>Below.heap_setCell w4 ⟨gp,9,none⟩ (Value.slice (some ⟨Nm,0,none⟩) (ya.length+1) MY) g λ e=>(CM.ae.dI.past CM.ae.kU Tab G4.ae).other hb4 Tab Tak);have Aw:=aa (((Mx.ae.later G1.ae).grown G4.ae (Ne.symm DJ.ae.2.2.1)).far (p:=⟨gp,9,none⟩) DJ.ae.2.1 (Value.slice (some ⟨Nm,0,none⟩) (ya.length+1) MY));have HZ5:=aa (((My.ae.later G1.ae).grown G4.ae (Ne.symm CI.ae.2.2.1)).far (p:=⟨gp,9,none⟩) CI.ae.2.1 (Value.slice (some ⟨Nm,0,none⟩) (ya.length+1) MY));have Ml:=aa pH.ae.aJ;have um:=aa pH.ae.low;have ahL:=aa (show Nm≠g4/\Nm≠gp from⟨λ e=>by
   rcases M4.ae with h | h
   ·exact CI.ae.2.2.1 (by rw[<- h,e];rfl)
   ·have h1:=h Nm rfl
    have h2:=CI.ae.1
    have h3:=G1.ae.size
    omega,λ e=>LE.ae.other hb4 Tab (by rw[e];rfl)⟩)
  clear anA hb4 CM pH Mx My LE G4 M4 hq4 atV;generalize World.setCell w4 _ _=w5 at*;have k1:=Aw.ae;have z0:=k1.cell 0;have z1:=k1.cell 1;have x2:=k1.cell 2;have x3:=k1.cell 3;have x4:=k1.cell 4;have x5:=k1.cell 5;have x6:=k1.cell 6
  simp only[Uaa] at z0 z1 x2 x3 x4 x5 x6;clear k1;go_upto_region 12 with (first
   |(refine wG rfl 46 (.tmp 53) (.tmp 52) rfl Nm (ya.length+1) MY (f:=bH) (y:=z) (l:=ya) (λ _=>rfl) HO5.ae rfl rfl Taa TaD ?_
     intro w6 ho6 rL
     have HO6:=aa ho6
     have xd:=aa rL
     clear ho6 rL))
  clear z0 z1 x2 x3 x4 x5 x6;have HO:=aa (show eG c w0 gp r w6 (Value.slice (some ⟨Nm,0,none⟩) (ya.length+1) MY) (Value.slice VA s.aL.length vc) (ya++ [z]) ⟨s.aJ++ [t],s.aL⟩from
   ⟨um.ae,Below.trans rK.ae (xZ xd.ae rK.ae.size (HO6.ae.lt rfl).2.1),anC.ae.grown xd.ae (λ e=>by injection e with e;exact ahL.ae.2 e.symm),HO6.ae,HV5.ae.grown xd.ae (λ e=>by
     obtain⟨_,_,cu,h1⟩:=HV5.ae.lt e
     obtain⟨_,_,cu2,h2⟩:=HO5.ae.lt (g:=Nm) rfl
     rw[h1] at h2
     injection h2 with h2
     injection h2 with _ h2 _
     exact absurd h2 Tab),Tr.all_append Ml.ae (Tr.fL CE.ae)⟩)
  have K3:=aa (anB.ae.trans (gK.in9 (gp:=gp) (u:=Value.slice (some ⟨Nm,0,none⟩) (ya.length+1) MY) (v:=Value.slice VA s.aL.length vc) xd.ae rfl));have K6:=aa (HZ5.ae.grown xd.ae (λ e=>by injection e with e;exact ahL.ae.1 e.symm));clear anB xd HO6 HO5 HV5 Aw HZ5 anC rK Ml um ahL;generalize w6=WA at*;obtain⟨A4,hv4⟩:∃A4,A4=Value.slice (some ⟨Nm,0,none⟩) (ya.length+1) MY:=⟨_,rfl⟩;rw[<- hv4] at HO K3;clear hv4;exact Zab):p:=h
theorem za5.Kad(h:p:=by open zct in exact Za8):p:=h
theorem Mj (c:PC)(w0:World)(gp:Nat)(r:Rest)(t:Tr)(z:Ex)(s:dy)(u v:Value)(ya:List Ex)(w:World)(hf:c.aL.findIdx? (λ g=>g.same t)=none)(ha:isAgg t.op=true)(ty:Int)(ht:fS c.cols t.op t.args=(ty,0))(hlen:s.aL.length+s.aJ.length<=999998)(aZ:c.Ok w0)(fU:t.ok)(hat:t.at_ w0 (Old w0) z)(nX:eG c w0 gp r w u v ya s):
  ar 99 #[.pointer (some ⟨gp,0,none⟩),.agg (ay z)] w (rJ c w0 gp r u v w (.ok (Ed s.aL.length,⟨s.aJ++ [t],s.aL++ [⟨iX s.aL.length,ty⟩]⟩))):=by
 open za5 in exact Zas
def Gn (gp k:Nat)(CA:Option Addr)(cn cc:Nat)(ty er:Int)(y:Ex):Nat->World->Value->Prop
 | 0,_,v=>v=.agg (ay y)
 | 1,_,v=>v=aw gp
 | 2,_,v=>v=aw gp
 | 3,_,v=>v=bh gp k
 | 4,_,v=>v=.slice CA cn cc
 | 5,_,v=>v=.tuple #[ag ty,af er]
 | 6,_,v=>v=.tuple #[ag ty,af er]
 | 7,_,v=>v=ag ty
 | 8,_,v=>v=af er
 | 9,_,v=>v=ag ty
 | 10,_,v=>v=af er
 | _,_,_=>False
theorem nk (gp k:Nat)(CA:Option Addr)(cn cc:Nat)(ty er:Int)(y:Ex):∀i w w' v,Gn gp k CA cn cc ty er y i w v->ai w w'->Gn gp k CA cn cc ty er y i w' v:=by exact Zdr
def Mm:Ex:=⟨1,⟨0,0,⟨#[]⟩⟩,⟨#[]⟩,0,none,0,0⟩
theorem Iy (w:World)(S:Nat->Prop):(Tr.mk 1 aN ByteArray.empty 0 []).at_ w S Mm:=by unfold Tr.at_ Mm;exact Zhs
theorem Ta (w:World)(S:Nat->Prop):∀n,Tr.aO w S (List.replicate n (.mk 1 aN ByteArray.empty 0 [])) (List.replicate n Mm)
 | 0=>by unfold List.replicate Tr.aO;rfl
 | n+1=>by rw[replicate_succ,replicate_succ];unfold Tr.aO;exact⟨_,_,rfl,Iy w S,Ta w S n⟩
theorem Tb:∀n,Tr.cN (List.replicate n (.mk 1 aN ByteArray.empty 0 []))
 | 0=>by unfold List.replicate Tr.cN;trivial
 | n+1=>by rw[replicate_succ];unfold Tr.cN;refine⟨?_,Tb n⟩;unfold Tr.ok;refine⟨⟨by decide,by decide⟩,by simp,by decide,by decide,by decide,?_⟩;unfold Tr.cN;trivial
variable{ys:List Ex}{S:Nat->Prop}
theorem pI{base:Nat}  (h:aI bH 46 7 w base v ys) (hS:∀q,v.ownBlock=some q->S q):∃A c,v=.slice A ys.length c/\ys.length<=c/\Yd w S A ys:=by
 obtain⟨A0,c0,e0,_,hle,_⟩:=h.reads;obtain⟨A,c,rfl,h1⟩:=ej (f:=bH) (size:=7) (λ _=>rfl) h;injection e0 with _ _ e0;refine⟨A,c,rfl,by rw[e0];exact hle,?_⟩;rcases h1 with h1 |⟨g,h1,h2,h3⟩
 ·exact .inl h1
 ·refine .inr ⟨g,0,h1,hS g (by rw[h1];rfl),λ i x hx=>?_⟩;have k:=λ j u hj hu=>h3 i x j u hx hj hu
  unfold cw;simp only[Nat.zero_add];exact⟨by simpa using k 0 _ WC rfl,k 1 _ WC rfl,k 2 _ WC rfl,k 3 _ WC rfl,k 4 _ WC rfl,k 5 _ WC rfl,k 6 _ WC rfl⟩
theorem zh2.Kcd(h:p:=by
 have xT:=aa hR;have GK:=aa Wl;clear hR Wl xS;go_wp2_with fail;clear z6;go_loopw [5,11] (λ _ i wr=>∃(k:Nat) (zs:List Ex),k<=n/\i=af k/\zs.length=n/\zs.take k=List.replicate k Mm/\aI bH 46 7 wr base (.slice A n c) zs/\W.grownBy wr (Value.slice A n c).ownBlock) (λ _ i _=>n - (intOf i).toNat);case atStart=>exact⟨0,ys,Nat.zero_le _,rfl,HN.ae.symm,rfl,HO.ae,World.grownBy.refl W _⟩
 case round=>
  obtain⟨k,zs,hk,rfl,hzl,Gp,ho,hg⟩:=hrel;have Xx:=aa Gp;have oz:=aa hzl;have Kx:=aa ho;have KK:=aa hg;clear Gp ho hg hzl;have hx:=aa (xT.ae.grown KK.ae (Ne.symm atX.ae));by_cases hlt:k < n
  ·obtain⟨q,Ly,Av,hbq,SL⟩:=Kx.ae.block (λ e=>by have:=oz.ae;rw[e] at this;simp at this;omega);injection Av with hA TU hc2;subst hA;have z6:=hx.ae.cell 6;simp only[Uaa] at z6;clear hc2 TU hbq SL Ur;go_wp2_with (first
    |(refine oa rfl 46 (.tmp 18) (.tmp 17) rfl q n c k (f:=bH) (y:=Mm) (λ _=>rfl) Kx.ae (by rw[oz.ae];exact hlt) rfl rfl Taa (by simp[bH,Mm,Value.oneCell']) ?_
      intro w4 ho4 hg4
      have HO4:=aa ho4
      have JO:=aa hg4
      clear ho4 hg4))
   go_roundw;case rel=>refine⟨k+1,zs.set k Mm,hlt,by go_num,by rw[length_set];exact oz.ae,?_,HO4.ae,aY KK.ae JO.ae⟩;have h1:=oz.ae;rw[take_add_one,take_set_of_le (Nat.le_refl _),Xx.ae,getElem?_set_self WC,replicate_succ'];rfl
   case measure=>exact Za1
  ·have fH:k=n:=by omega
   subst fH;have hzz:zs=List.replicate k Mm:=by have:=Xx.ae;rwa [take_of_length_le (by rw[oz.ae];exact Nat.le_refl _)] at this
   subst hzz;obtain⟨y,hy⟩:∃y:Ex,y=⟨2,v,name,width,A,k,c⟩:=⟨_,rfl⟩;have Gi:=aa (show aB wr g2 46 (ay y) by rw[hy];exact hx.ae);have afn:wr.heap[gp]?=W.heap[gp]?:=KK.ae.block gp JM.ae (Ne.symm nJ.ae);have Nw:=aa ((bI afn 8).trans Ur.ae);have Qi:=aa (Nat.lt_of_lt_of_le JM.ae KK.ae.size)
   have hC6:RC wr wr.heap.size CA cols:=by
    by_cases hc0:cols=[]
    ·exact .inl hc0
    rcases HC.ae with Lw |⟨b,off,h1,h2,h3⟩
    ·exact .inl Lw
    ·refine .inr ⟨b,off,h1,Nat.lt_of_lt_of_le h2 KK.ae.size,λ i x hx=>(h3 i x hx).keep λ o=>bI (KK.ae.block b h2 (Ne.symm (DL.ae hc0 _ h1))) o⟩
   obtain⟨A2,Ly,tO,_,hres⟩:=pI Kx.ae (S:=Old wr) (λ q hq=>(Kx.ae.lt hq).1);injection tO with e1 e2 e3;subst e1 e3;clear e2;have kN:=HN.ae;have hat:(Tr.mk 2 v name width (List.replicate k (.mk 1 aN ByteArray.empty 0 []))).at_ wr (Old wr) y:=by unfold Tr.at_;rw[hy];exact⟨rfl,rfl,rfl,rfl,by simp,_,hres,Ta _ _ _⟩
   have ND:=gh.ae;rw[<- kN] at ND;have xa:=aa (Tr.oO (cols:=cols) (CA:=CA) (cc:=cc) WC _ y wr ND hat hC6);have Qj:=aa kN;have xp:qW cols v name width k=if ((Tr.mk 2 v name width (List.replicate k (.mk 1 aN ByteArray.empty 0 []))).type cols).2≠0 then((Tr.mk 2 v name width (List.replicate k (.mk 1 aN ByteArray.empty 0 []))).type cols).2 else 42:=rfl;generalize (Tr.mk 2 v name width (List.replicate k (.mk 1 aN ByteArray.empty 0 []))).type cols=r at*;obtain⟨ty,e0⟩:=r;dsimp only at xp xa;have Ai:=aa xp;have jI:=aa (Below.trans (zJ.ae.mono G3.ae) (br HO.ae KK.ae afl.ae));clear afn hC6 hres hat ND xp kN hlt hy hx Kx KK HC Ur;go_upto_region 6 with fail;refine bC 11 (Gn gp 8 CA cols.length cc ty e0 y) (nk _ _ _ _ _ _ _ _) Taa Taa Taa ?_ ?_
   ·simp only[take_succ_cons,take_zero];refine⟨Zg0,Zaa,Zaa,Zaa,Zcd,?_,Zaa,Zaa,Zaa,Zaa,Zaa,trivial⟩
    ·intro ρ w3 hc hL hr;have h0:_=_:=hr.1;have h1:_=_:=hr.2.1;have e1:=hc.func 59;refine bj (f:=59) (args:= #[.agg (ay y),.slice CA cols.length cc]) (w':=w3) Tas ?_;exact Zf6
   intro W3 hL;simp only[Uab];rintro a0 - a1 - a2 - a3 - a4 - a5 - a6 - a7 - a8 - _ rfl _ rfl;simp only[bE,Act.put,Uac];have HBX:=aa (jI.ae.trans (hL.mono (Nat.le_trans G3.ae jI.ae.size)));clear hL jI Gi Nw xa;by_cases h:e0=0
   ·subst h;go_wp2_with fail;go_ret;exact⟨by rw[Ai.ae];rfl,HBX.ae⟩
   ·have t1:(e0 != 0)=true:=by simp[h]
    have H:=aa h;clear h;go_wp2_with fail;go_ret;exact⟨by rw[Ai.ae,if_pos H.ae];rfl,HBX.ae⟩):p:=h
theorem Qh (gp:Nat)(v:Val)(name:ByteArray)(width:Int)(ys:List Ex)(av:Value)(base:Nat)(cols:List aX)(CA:Option Addr)(cc:Nat)(w:World)
  (aZ:(Tr.mk 2 v name width (List.replicate ys.length (.mk 1 aN ByteArray.empty 0 []))).ok) (hn:ys.length<=1000000) (hO:aI bH 46 7 w base av ys) (sF:gp < w.heap.size) (YV:w.cell? ⟨gp,8,none⟩=some (.slice CA cols.length cc)) (hC:RC w w.heap.size CA cols) (cf:cols.length<=1000000) (hne:av.ownBlock≠some gp) (hCA:cols≠ []->∀a,CA=some a->av.ownBlock≠some a.block) (hbase:base<=w.heap.size):
  ar 154 #[aw gp,.agg #[ag 2,ag v.k,af v.n,.string v.s,.string name,af width,av]] w λ e w'=>e=.returned (af (qW cols v name width ys.length))/\Below base w w':=by
 obtain⟨A,c,rfl,hle,_⟩:=pI hO (S:=λ _=>True) (λ _ _=>trivial);have hR:=aB.new w 46 #[ag 2,ag v.k,af v.n,.string v.s,.string name,af width,.slice A ys.length c];have bb:=ah w (.cells #[ag 2,ag v.k,af v.n,.string v.s,.string name,af width,.slice A ys.length c] 46);have HO:=aa (hO.later bb);have Ur:=aa ((bb.cell (p:=⟨gp,8,none⟩) sF).trans YV);have HC:=aa (hC.later bb);have JM:=aa (Nat.lt_of_lt_of_le sF bb.size);have zJ:=aa bb;have gh:=aa aZ;have nJ:=aa hne;have DL:=aa hCA;have afl:=aa (Nat.le_trans hbase bb.size);have G3:=aa hbase;have xS:(Value.slice A ys.length c).ownBlock≠some w.heap.size:=λ e=>by have:=(hO.lt e).1;omega
 obtain⟨n,ug⟩:∃n,n=ys.length:=⟨_,rfl⟩;have HN:=aa ug;rw[<- ug] at hn hle hR xS nJ DL HO Ur HC JM zJ afl ⊢;clear hO YV hC sF bb aZ hne hCA hbase ug;go_enter Tryz.func154,Tryz.ntmps154;go_upto_region 1 with fail;generalize World.alloc w _=W at*;obtain⟨g2,Wl⟩:∃g2,g2=w.heap.size:=⟨_,rfl⟩;rw[<- Wl] at hR xS ⊢;have atX:=aa xS;open zh2 in exact Zgp
variable{gp b:Nat}
theorem Kp.size{us:List Value}(h:Kp w gp us b)(hs:w.heap.size<=w'.heap.size):Kp w' gp us b:=⟨Nat.lt_of_lt_of_le h.1 hs,h.2⟩
variable{w1 w2:World}{u1 v1:Value}
theorem gK.below(h:gK gp w u v w1 u1 v1)(hb:Below B w1 w2)(hB:w.heap.size<=B):gK gp w u v w2 u1 v1:=
 ⟨hb.os.trans h.os,hb.tape.trans h.tape,hb.output.trans h.output,Nat.le_trans h.size hb.size,λ k hk=>(hb.block k (Nat.lt_of_lt_of_le hk.1 hB)).trans (h.block k hk),h.mu,h.mv⟩
structure CN (c:PC) (w0:World) (gp:Nat) (r:Rest) (w:World) (u0 v0:Value) (g3 g4 g10 B1:Nat) (z:Ex) (wr:World) (a u v:Value) (ys ya:List Ex) (ts:List Tr) (s:dy):Prop where
 ps:eG c w0 gp r wr u v ya s
 stp:gK gp w u0 v0 wr u v
 x:aB wr g3 46 (ay z)
 res:aB wr g4 46 dh
 y:aB wr g10 46 #[ag z.op,ag z.v.k,af z.v.n,.string z.v.s,.string z.name,af z.width,a]
 k3:Kp wr gp [u,v] g3
 k4:Kp wr gp [u,v] g4
 k10:Kp wr gp [u,v] g10
 own:aI bH 46 7 wr B1 a ys
 ka:∀q,a.ownBlock=some q->Kp wr gp [u,v] q
 trees:Tr.aO wr (λ b=>(B1<=b/\a.ownBlock≠some b)/\Kp wr gp [u,v] b) ts ys
 size:B1<=wr.heap.size
 low:w.heap.size<=g3/\g3 < g4/\g4 < g10/\g10 < B1
 base:w0.heap.size<=w.heap.size
variable{S':Nat->Prop}
theorem Tr.yj(hk:∀b,S b->(∀o,w'.cell? ⟨b,o,none⟩=w.cell? ⟨b,o,none⟩)/\S' b)(h:Tr.aO w S ts ys):Tr.aO w' S' ts ys:=Tr.aO.keep hk ts ys h
section
variable {c:PC} {w0 w wr w':World} {gp g3 g4 g10 B1:Nat} {r:Rest} {u0 v0 a u v a' u' v':Value} {z:Ex} {ys ya ql:List Ex} {ts:List Tr} {s s':dy}
theorem CN.call (h:CN c w0 gp r w u0 v0 g3 g4 g10 B1 z wr a u v ys ya ts s)(hs:gK gp wr u v w' u' v')(hp:eG c w0 gp r w' u' v' ql s'):CN c w0 gp r w u0 v0 g3 g4 g10 B1 z w' a u' v' ys ql ts s':=
 ⟨hp,h.stp.trans hs,hs.blk h.x h.k3,hs.blk h.res h.k4,hs.blk h.y h.k10,hs.kp h.k3,hs.kp h.k4,hs.kp h.k10,hs.atD h.own h.ka,λ q hq=>hs.kp (h.ka q hq),hs.trees h.trees,Nat.le_trans h.size hs.size,h.low,h.base⟩
theorem CN.later (h:CN c w0 gp r w u0 v0 g3 g4 g10 B1 z wr a u v ys ya ts s)(hb:aj wr w'):CN c w0 gp r w u0 v0 g3 g4 g10 B1 z w' a u v ys ya ts s:=
 h.call ((gK.refl gp wr u v).later hb) (h.ps.later hb)
theorem eG.ahM (h:eG c w0 gp r w u v ya s) {o:Option Nat}(hg:w.grownBy w' o)(hq:∀q,o=some q->Kp w gp [u,v] q/\w0.heap.size<=q):eG c w0 gp r w' u v ya s:=by
 cases o with
 | none=>exact h.later (pC hg)
 | some q=>exact h.aside hg (hq q rfl).1 (hq q rfl).2
theorem CN.push (h:CN c w0 gp r w u0 v0 g3 g4 g10 B1 z wr a u v ys ya ts s) {t:Tr} {y:Ex}(hy:t.at_ wr (λ b=>(B1<=b/\a.ownBlock≠some b)/\Kp wr gp [u,v] b) y)
  (ho:aI bH 46 7 w' B1 a' (ys++ [y])) (hg:wr.grownBy w' a.ownBlock) (hm:Mv wr a a'):
  CN c w0 gp r w u0 v0 g3 g4 g10 B1 z (w'.setCell ⟨g10,6,none⟩ a') a' u v (ys++ [y]) ya (ts++ [t]) s:=by
 have hl:=h.low;have hab:∀q,a.ownBlock=some q->B1<=q:=λ q hq=>(h.own.lt hq).2.1
 have NT:∀q,a'.ownBlock=some q->B1<=q:=λ q hq=>(ho.lt hq).2.1
 have nX:eG c w0 gp r w' u v ya s:=h.ps.ahM hg λ q hq=>⟨h.ka q hq,by have:=hab q hq;have:=h.base;omega⟩
 have hx:=h.x.grown hg (λ e=>by have:=hab g3 e.symm;omega);have hr:=h.res.grown hg (λ e=>by have:=hab g4 e.symm;omega);have Jh:=h.y.grown hg (λ e=>by have:=hab g10 e.symm;omega);have k3:=h.k3.size hg.size;have k4:=h.k4.size hg.size;have k10:=h.k10.size hg.size
 have ka:∀q,a'.ownBlock=some q->Kp w' gp [u,v] q:=λ q hq=>by
  rcases hm with hm | hm
  ·exact(h.ka q (by rw[<- hm];exact hq)).size hg.size
  ·exact h.ps.fresh (hm q hq) (ho.lt hq).1
 have htr:Tr.aO w' (λ b=>(B1<=b/\a'.ownBlock≠some b)/\Kp w' gp [u,v] b) (ts++ [t]) (ys++ [y]):=by refine Tr.yj ?_ (Tr.all_append h.trees (Tr.fL hy));rintro b ⟨⟨h1,h2⟩,h3⟩;exact⟨λ o=>bI (hg.block b h3.1 (Ne.symm h2)) o,⟨h1,hm.ne h3.1 h2⟩,h3.size hg.size⟩
 have pV:w'.grownBy (w'.setCell ⟨g10,6,none⟩ a') (some g10):=aC (aR (Below.refl _ _)) _ _;refine⟨nX.aside pV k10 (by have:=h.base;omega),?_,hx.far (p:=⟨g10,6,none⟩) (by show g3≠g10;omega) _,hr.far (p:=⟨g10,6,none⟩) (by show g4≠g10;omega) _,by simpa using Jh.aT 6 a',k3.size pV.size,k4.size pV.size,k10.size pV.size,ho.keep λ q hq=>Below.heap_setCell w' ⟨g10,6,none⟩ a' q (λ e=>by have:=NT q hq;have e2:q=g10:=e;omega),λ q hq=>(ka q hq).size pV.size,?_,Nat.le_trans h.size (Nat.le_trans hg.size pV.size),hl,h.base⟩
 ·exact(h.stp.atC hg λ q hq=>by have:=hab q hq;omega).own pV WC
 ·refine Tr.yj ?_ htr;rintro b ⟨⟨h1,h2⟩,h3⟩;exact⟨λ o=>bI (Below.heap_setCell w' ⟨g10,6,none⟩ a' b (λ e=>by have e2:b=g10:=e;omega)) o,⟨h1,h2⟩,h3.size pV.size⟩
end
variable{A:Option Addr}{c:Nat}
theorem G5{base:Nat}   {l:List aX}(h:aI aS 113 2 w base (.slice A l.length c) l):RC w w.heap.size A l:=by
 obtain⟨A2,c2,hv,h1⟩:=ej (f:=aS) (size:=2) (λ _=>rfl) h;injection hv with e1 e2 e3;subst e1;rcases h1 with h1 |⟨g,h1,h2,h3⟩
 ·exact .inl h1
 ·refine .inr ⟨g,0,h1,h2,λ i x hx=>?_⟩;have k:=λ j u hj hu=>h3 i x j u hx hj hu
  unfold pS;simp only[Nat.zero_add];exact⟨by simpa using k 0 _ WC rfl,k 1 _ WC rfl⟩
theorem pJ:∀ {ts:List Tr} {ys:List Ex} {k:Nat} (h:k < ts.length),Tr.aO w S ts ys->∃y,ys[k]?=some y/\ts[k].at_ w S y
 | t::ts,ys,0,h,ha=>by unfold Tr.aO at ha;obtain⟨y,ys',rfl,h1,h2⟩:=ha;exact⟨y,rfl,h1⟩
 | t::ts,ys,k+1,h,ha=>by unfold Tr.aO at ha;obtain⟨y,ys',rfl,h1,h2⟩:=ha;obtain⟨x,hx,hx2⟩:=pJ (k:=k) Tal h2;exact⟨x,by simpa using hx,hx2⟩
theorem zbN.Kal(h:p:=by refine bodyPost_ret (v:=.tuple #[.agg dh,af er]) Tai rfl ?_;exact Zf2):p:=h
theorem zbO.Kal(h:p:=by refine bodyPost_ret (v:=.tuple #[.agg dh,af al]) Tai rfl ?_;exact Zf2):p:=h
theorem zbP.Kal(h:p:=by
 refine bodyPost_ret (v:=.tuple #[.agg (ay Kx),af er]) Tai rfl ?_;by_cases her:er=0
 ·subst her;have Mq:=uY.ae;rw[if_neg Tab] at Mq;rw[Mq];have h4:=Aa.ae.k4;refine⟨Kx,u1,_,Ji,rfl,?_,Aa.ae.ps.aside kK h4 (by have:=Aa.ae.base;have:=mF.ae;omega),Aa.ae.stp.own kK mF.ae⟩;have hl:=Aa.ae.low;exact Tr.at_.keep (λ b LT=>⟨λ o=>bI (kK.block b LT.2.1 (λ e=>by injection e with e;have:=LT.1;omega)) o,by have:=LT.1;omega,LT.2.size kK.size⟩) _ Kx aug.ae
 ·have Mq:=uY.ae;rw[if_pos her] at Mq;rw[Mq];exact⟨Kx,_,_,rfl,Aa.ae.stp.own kK mF.ae⟩):p:=h
theorem zfc.Ka6(h:p:=by
 have kK:WD.grownBy W9 (some g4):=by rw[<- uE];exact aC (aC (aC (aC (aC (aC (aC (aR (Below.refl _ _)) _ _) _ _) _ _) _ _) _ _) _ _) _ _
 open zbN in exact ZaD):p:=h
theorem zcv.Kau(h:p:=by have PL:=aa Mh;clear Ly Mh bg anI;go_upto_region 21 with fail;generalize w6.alloc (.cells (ay Kx) 46)=WD at*;open zfc in exact ZcO):p:=h
theorem zfd.Ka6(h:p:=by
 have kK:w7.grownBy W9 (some g4):=by rw[<- uE];exact aC (aC (aC (aC (aC (aC (aC (aR (Below.refl _ _)) _ _) _ _) _ _) _ _) _ _) _ _) _ _
 open zbO in exact ZaD):p:=h
theorem zcw.Kau(h:p:=by
 have PL:=aa Mh;clear Mh Nv gX c8 lU hz2;have xf:X=.error (qW c.cols z.v z.name z.width ys.length):=by have h1:=xN.ae;rw[if_pos Hm.ae] at h1;have h2:=HZE.ae;have h3:=HE4.ae;have h4:=Nm.ae;rw[h1,h2.2.1,h2.2.2,h3,h4]
 have uY:=aa xf;clear xf;obtain⟨al,xp⟩:∃al,al=qW c.cols z.v z.name z.width ys.length:=⟨_,rfl⟩;rw[<- xp] at uY ⊢;clear xp;open zfd in exact ZcO):p:=h
theorem zcx.Kau(h:p:=by
 clear Jh Mh;go_wp2_with fail;clear z0 z1 x2 x3 x4 x5 x6 y0 y1 c2 y3 y4 y5 y6 Gj;generalize uE:World.setCell _ _ _=W9;have hR:aB W9 g4 46 (ay Kx):=by rw[<- uE];simpa using(((((((Aa.ae.res.aT 0 _).aT 1 _).aT 2 _).aT 3 _).aT 4 _).aT 5 _).aT 6 _)
 have kK:W3.grownBy W9 (some g4):=by rw[<- uE];exact aC (aC (aC (aC (aC (aC (aC (aR (Below.refl _ _)) _ _) _ _) _ _) _ _) _ _) _ _) _ _
 open zbP in exact ZaD):p:=h
theorem zgC.KbF(h:p:=by have Mh:=Aa.ae.res;have Gj:=Mh.frozen;open zcx in exact Za9):p:=h
theorem zeB.KaU(h:p:=by have aug:=aa (((gK.refl gp wr u1 (.slice VA s1.aL.length vc)).later hL).tree anM.ae);clear hL VH HP anM Nw xa jH afr;open zgC in exact Zeu):p:=h
theorem zee.KaN(h:p:=by
 have hz:=at_root CE.ae;rw[HHT.ae] at hz;have HZE:=aa (show z.op=op/\z.v=xv/\z.name=name from hz);clear hz;go_upto_region 16 with fail;have Vy:=aB.new w2 46 (ay z);have G6:=ah w2 (.cells (ay z) 46);generalize w2.alloc (.cells (ay z) 46)=Nx at*;obtain⟨g10,afp⟩:∃g10,g10=w2.heap.size:=⟨_,rfl⟩;rw[<- afp] at Vy ⊢;have zX:=aa (show g3 < g4/\g4 < g10/\g10 < Nx.heap.size from⟨by have:=HI.ae;have:=JO.ae;omega,by have:=Xu.ae.lt;omega,Vy.lt⟩);have afq:=aa (uD.ae.later G6);have ahO:=aa (Aw.ae.later G6);have anG:=aa (Xu.ae.later G6);have tG:=aa (ai.then fE.ae G6);have Et:=aa Vy;have hc6:=Vy.cell 6;have hf6:=Vy.frozen 6;simp only[Uaa] at hc6;have hx6:=ahO.ae.cell 6;simp only[Uaa] at hx6;clear z0 z1 x2 x3 x4 x5 x6 Vy G6 afp uD Aw Xu fE;go_upto_region 17 with fail;have pV:Nx.grownBy (Nx.setCell ⟨g10,6,none⟩ (az)) (some g10):=aC (aR (Below.refl _ _)) _ _;have fH:=λ g (h1:w.heap.size<=g) (h2:g < Nx.heap.size)=>pG.ae.fresh (w2:=Nx) h1 h2
 have HP:=aa (show CN c w0 gp r w u v g3 g4 g10 Nx.heap.size z (Nx.setCell ⟨g10,6,none⟩ (az)) (az) u v [] ya [] s from
  ⟨afq.ae.aside pV (fH g10 TaS zX.ae.2.2) (by have:=pG.ae.base.size;have:=mF.ae;have:=zX.ae;omega),((gK.refl gp w u v).later tG.ae).own pV TaS,ahO.ae.far (p:=⟨g10,6,none⟩) (by show g3≠g10;have:=zX.ae;omega) _,anG.ae.far (p:=⟨g10,6,none⟩) (by show g4≠g10;have:=zX.ae;omega) _,by simpa using Et.ae.aT 6 (az),
    (fH g3 Je.ae (by have:=zX.ae;omega)).size pV.size,(fH g4 mF.ae (by have:=zX.ae;omega)).size pV.size,(fH g10 TaS zX.ae.2.2).size pV.size,aI.nil,λ q hq=>by simp[Value.ownBlock] at hq,by unfold Tr.aO;rfl,pV.size,⟨Je.ae,zX.ae⟩,pG.ae.base.size⟩)
 have anH:=HP.ae.x.cell 6;simp only[Uaa] at anH;obtain⟨B1,Kd⟩:∃B1,B1=Nx.heap.size:=⟨_,rfl⟩;rw[<- Kd] at HP;clear pV fH afq ahO anG tG Et hc6 hf6 hx6 Kd zX;generalize World.setCell Nx _ _=WL at*;have nR:=CE.ae;rw[HHT.ae] at nR;unfold Tr.at_ at nR;obtain⟨e1,e2,e3,e4,hzn,zs,hzr,hza⟩:=nR;have HE4:=aa e4;clear e1 e2 e3 e4;have HZN:=aa hzn;have HF:=aa hzr;have HZA:=aa hza;clear hzn hzr hza;have ahP:=aa (show(Tr.mk op xv name width args).nodes=Tr.aQ args+1 by rw[Tr.nodes])
 have hnz:args.length<=1000000:=by
  have h1:∀l:List Tr,l.length<=Tr.aQ l:=by
   intro l
   induction l with
   | nil=>exact Nat.zero_le _
   | cons t l ih=>
     have h2:1<=t.nodes:=by cases t;rw[Tr.nodes];omega
     rw[Tr.aQ,length_cons];omega
  have:=h1 args;have:=ahP.ae;have:=HLEN.ae;omega
 go_wp2_with fail;clear anH;rw[HZN.ae];go_loopw [89] (λ i wr=>∃(k:Nat) (a u1 v1:Value) (ys Ji:List Ex) (ts:List Tr) (s1:dy),k<=args.length/\i=af k/\Tr.turns c.aL c.cols (args.take k) s=.ok (ts,s1)/\CN c w0 gp r w u v g3 g4 g10 B1 z wr a u1 v1 ys Ji ts s1) (λ i _=>args.length - (intOf i).toNat);case atStart=>exact⟨0,_,u,v,[],ya,[],s,Nat.zero_le _,rfl,by rw[take_zero,nZ],HP.ae⟩
 case round=>
  clear HP;obtain⟨k,a,u1,v1,ys,Ji,ts,s1,hk,rfl,hturn,htu⟩:=hrel;have HT:=aa hturn;have HP:=aa htu;clear hturn htu;by_cases hlt:k < args.length
  ·obtain⟨y,Y0,rM⟩:=pJ hlt HZA.ae
   obtain⟨b,off,hzA,Ch,hex⟩:∃b off,z.A=some ⟨b,off,none⟩/\b < w0.heap.size/\cw w0 b (off+k*7) y:=by
    rcases HF.ae with h |⟨b,off,h1,h2,h3⟩
    ·rw[h] at Y0;simp at Y0
    ·exact⟨b,off,h1,h2,h3 k y Y0⟩
   have iB:=hex.keep (λ o=>HP.ae.ps.base.cell (p:=⟨b,o,none⟩) Ch);unfold cw at iB;have xe:=aa rM;have aBc:=aa hzA;rw[hzA];clear hex Y0 rM Ch hzA;go_upto_region 20 with fail;have k1:=aB.new wr 46 (ay y);have Mn:=ah wr (.cells (ay y) 46);generalize wr.alloc (.cells (ay y) 46)=W2 at*;have Mo:=aa (HP.ae.later Mn);clear Mn HP iB;generalize wr.heap.size=g12 at*;have z0:=k1.cell 0;have z1:=k1.cell 1;have x2:=k1.cell 2;have x3:=k1.cell 3;have x4:=k1.cell 4;have x5:=k1.cell 5;have x6:=k1.cell 6
   simp only[Uaa] at z0 z1 x2 x3 x4 x5 x6;clear k1;go_wp2_with fail;have PX:=getElem_mem hlt;have hrun:=HIH.ae args[k] PX y s1 u1 v1 Ji W2 (by
    have h1:=kz.ae
    rw[HHT.ae] at h1
    unfold Tr.ok at h1
    exact dL.1 h1.2.2.2.2.2 _ PX) xe.ae Mo.ae.ps (by
    have h1:=(ky (λ t _ s=>iD c.aL c.cols t s) s:pF (args.take k) s (Tr.turns c.aL c.cols (args.take k) s))
    have h2:=h1.len _ _ HT.ae
    have h3:=HLEN.ae
    have h4:=ahP.ae
    have h5:Tr.aQ (args.take k)+args[k].nodes<=Tr.aQ args:=by
     rw[fT,fT]
     have e:args=args.take k++args[k]::args.drop (k+1):=by rw[<- drop_eq_getElem_cons hlt,take_append_drop]
     conv=>rhs;rw[e]
     rw[map_append,sum_append,map_cons,sum_cons]
     omega
    omega)
   refine hrun.mono ?_;clear hrun;intro e w6 hp;clear z0 z1 x2 x3 x4 x5 x6;have vg:=aa (iD c.aL c.cols args[k] s1)
   cases hr:Tr.turn c.aL c.cols args[k] s1 with
   | error er=>
     rw[hr] at hp vg;obtain⟨Kx,u',v',rfl,hst⟩:=hp;have her:=vg.ae.err _ rfl
     have xf:X=.error er:=by
      have h1:=HX_.ae;have e2:args=args.take k++args[k]::args.drop (k+1):=by rw[<- drop_eq_getElem_cons hlt,take_append_drop]
      have h2:Tr.turns c.aL c.cols args s=.error er:=by
       conv=>lhs;rw[e2]
       exact Qa HT.ae hr
      rw[h2] at h1;exact h1
     have uY:=aa xf;have d0:(er != 0)=true:=by simp[her]
     have Ly:=hst.blk Mo.ae.res Mo.ae.k4;have anI:=aa (Mo.ae.stp.trans hst);clear xf hr her hst HX_;have bg:=ah w6 (.cells (ay Kx) 46);have Mh:=Ly.later bg;have wI:=aa (anI.ae.later bg);have Gj:=Mh.frozen;open zcv in exact Za9
   | ok q=>
     obtain⟨y1,s2⟩:=q;rw[hr] at hp;obtain⟨Kx,u',v',G7,rfl,uH,pK,hst⟩:=hp;have anJ:=aa uH;have HTS:=aa (PZ HT.ae hr);have hab:∀q,a.ownBlock=some q->q < W2.heap.size:=λ q hq=>(Mo.ae.own.lt hq).1
     have HAB:=aa hab;have auc:=aa Mo.ae.size;have G8:=aa (Mo.ae.call hst pK);clear hr uH pK hst hab Mo vg HT;obtain⟨aA,ac,rfl,aud,_⟩:=pI G8.ae.own (S:=λ _=>True) (λ _ _=>trivial);have bg:=ah w6 (.cells (ay Kx) 46);have HX:=aB.new w6 46 (ay Kx);have Aa:=aa (G8.ae.later bg);have aue:=aa (show y1.at_ (w6.alloc (.cells (ay Kx) 46)) (λ b=>(B1<=b/\(Value.slice aA ys.length ac).ownBlock≠some b)/\Kp (w6.alloc (.cells (ay Kx) 46)) gp [u',v'] b) Kx from
      Tr.at_.keep (λ b LT=>⟨λ o=>bg.cell (p:=⟨b,o,none⟩) LT.2.1,⟨Nat.le_trans auc.ae LT.1,λ e=>by have:=HAB.ae b e;have:=LT.1;omega⟩,LT.2.size bg.size⟩) y1 Kx anJ.ae)
     have Nm:=aa (show ys.length=k by
      have h1:=G8.ae.trees.length
      have h2:=sU HTS.ae
      have h3:=G8.ae.trees.length
      rw[length_append,length_singleton,length_append,length_singleton,length_take] at h2
      omega)
     clear bg G8 anJ HAB;go_upto_region 21 with fail;generalize w6.alloc (.cells (ay Kx) 46)=WD at*;generalize w6.heap.size=gY at*;have zW:=aa HX;have z0:=HX.cell 0;have z1:=HX.cell 1;have x2:=HX.cell 2;have x3:=HX.cell 3;have x4:=HX.cell 4;have x5:=HX.cell 5;have x6:=HX.cell 6
     simp only[Uaa] at z0 z1 x2 x3 x4 x5 x6;clear HX;have hy:=Aa.ae.y;have yf:=hy.frozen 6;have y6:=hy.cell 6;simp only[Uaa] at y6;clear hy;have G9:=aa (ah WD (.cells (ay Kx) 46));go_wp2_with (first
      |(at_builtin
        refine nc (f:=bH) (l:=ys) (y:=Kx) rfl (.tmp 104) (.tmp 106) 23 rfl _ 88 Tryz.underlying23 fI rfl WC rfl TaD rfl (Aa.ae.own.later G9.ae) WD.heap.size rfl (aB.new WD _ _) (by have:=Nm.ae;omega) (by have:=Nm.ae;omega) (Nat.le_trans Aa.ae.size G9.ae.size) ?_
        intro v4 w4 R5 gr4 m4
        obtain⟨A4,Qg,hv4,_⟩:=R5.reads
        rw[length_append,length_singleton] at hv4
        subst hv4
        have H7:=Aa.ae.later G9.ae
        have anK:(Value.slice aA ys.length ac).ownBlock≠some g10:=λ e=>by have:=(H7.own.lt e).2.1;have:=H7.low.2.2.2;omega
        have hb4:=H7.y.grown gr4 (λ e=>anK e.symm)
        have f4:=hb4.frozen 6
        have cc6:=hb4.cell 6
        simp only[Uaa] at cc6
        have anL:y1.at_ (WD.alloc (.cells (ay Kx) 46)) (λ b=>(B1<=b/\(Value.slice aA ys.length ac).ownBlock≠some b)/\Kp (WD.alloc (.cells (ay Kx) 46)) gp [u',v'] b) Kx:=
         Tr.at_.keep (λ b LT=>⟨λ o=>G9.ae.cell (p:=⟨b,o,none⟩) LT.2.1,LT.1,LT.2.size G9.ae.size⟩) y1 Kx aue.ae
        have auf:=aa (H7.push anL R5 (show(WD.alloc (.cells (ay Kx) 46)).grownBy w4 (Value.slice aA ys.length ac).ownBlock from gr4) (show Mv (WD.alloc (.cells (ay Kx) 46)) (Value.slice aA ys.length ac) (Value.slice A4 (ys.length+1) Qg)from m4))
        clear R5 gr4 m4 hb4 anL H7 anK))
     go_roundw;case rel=>exact⟨k+1,_,u',v',ys++ [Kx],G7,ts++ [y1],s2,hlt,by go_num,by rw[take_add_one,getElem?_eq_getElem hlt];exact HTS.ae,auf.ae⟩
     case measure=>exact Za1
  ·have fH:k=args.length:=by omega
   subst fH;rw[take_length] at HT;have PK:=HX_.ae;rw[HT.ae] at PK;dsimp only at PK;have xN:=aa PK;have qE:=aa (sU HT.ae);have Nm:=aa (HP.ae.trees.length);clear PK hlt HX_;have x7:=HP.ae.x.cell 0;simp only[Uaa] at x7;obtain⟨aA,ac,rfl,aud,hres⟩:=pI HP.ae.own (S:=λ b=>B1<=b/\Kp wr gp [u1,v1] b) (λ q hq=>⟨(HP.ae.own.lt hq).2.1,HP.ae.ka q hq⟩);have jH:=aa hres;have afr:=aa (show Tr.aO wr (λ b=>B1<=b/\Kp wr gp [u1,v1] b) ts ys from Tr.yj (λ b LT=>⟨λ _=>rfl,LT.1.1,LT.2⟩) HP.ae.trees);have Jh:=HP.ae.y;have y0:=Jh.cell 0;have y1:=Jh.cell 1;have c2:=Jh.cell 2;have y3:=Jh.cell 3;have y4:=Jh.cell 4;have y5:=Jh.cell 5;have y6:=Jh.cell 6;simp only[Uaa] at y0 y1 c2 y3 y4 y5 y6;clear hres Jh;by_cases oI:op=2
   ·have d0:(z.op==2)=true:=by rw[HZE.ae.1];simp[oI]
    have Hm:=aa oI;clear oI;go_wp2_with fail;clear y0 y1 c2 y3 y4 y5 y6 x7 d0;have hz2:z.op=2:=HZE.ae.1.trans Hm.ae;rw[hz2];have gX:=HP.ae.ps.blk;unfold PC.cells at gX;have c8:=gX.cell 8;simp only[Uaa] at c8;have lU:=kz.ae;rw[HHT.ae] at lU;unfold Tr.ok at lU;refine(Qh gp z.v z.name z.width ys (.slice aA ys.length ac) B1 c.cols c.cA c.cc wr (by
     unfold Tr.ok
     have h1:=HZE.ae
     have h2:=HE4.ae
     refine⟨by rw[h1.2.1];exact lU.1,by rw[length_replicate];have:=Nm.ae;have:=qE.ae;omega,by decide,by rw[h2];exact lU.2.2.2.1,by rw[h1.2.1];exact lU.2.2.2.2.1,Tb _⟩) (by have:=Nm.ae;have:=qE.ae;omega) HP.ae.own gX.lt c8 (gh.ae.cols.later HP.ae.ps.base) (by exact gh.ae.cl) (λ e=>(ew.1 (HP.ae.ka gp e)).2.1 rfl) (λ hc0 a ha e=>by
     rcases gh.ae.cols with h |⟨b,off,h1,h2,h3⟩
     ·exact hc0 h
     ·rw[h1] at ha
      injection ha with ha
      have h4:=(HP.ae.own.lt e).2.1
      have h5:=HP.ae.low
      have h6:=HP.ae.base
      rw[<- ha] at h4
      have h7:B1<=b:=h4
      omega) HP.ae.size).mono ?_
    rintro e w7 ⟨rfl,Nv⟩;have wI:=aa (HP.ae.stp.below Nv (by have:=HP.ae.low;omega));have Mh:=HP.ae.res.below Nv (by have:=HP.ae.low;omega);have Gj:=Mh.frozen;open zcw in exact Za9
   ·have d0:(z.op==2)=false:=by rw[HZE.ae.1];simp[oI]
    have Hm:=aa oI;clear oI y0 y1 c2 y3 y4 y5 y6;go_upto_region 27 with fail
    clear x7 d0;obtain⟨Kx,hy⟩:∃Kx:Ex,Kx=⟨z.op,z.v,z.name,z.width,aA,ys.length,ac⟩:=⟨_,rfl⟩;have VH:=aa (show aB wr g10 46 (ay Kx) by rw[hy];exact HP.ae.y);obtain⟨VA,vc,NL,_⟩:=HP.ae.ps.dI.reads;subst NL;have gX:=HP.ae.ps.blk;unfold PC.cells at gX;have Nw:=aa (show wr.cell? ⟨gp,10,none⟩=some (.slice VA s1.aL.length vc)from by
     have:=gX.cell 10
     simpa using this)
    have Qi:=aa gX.lt;have ahQ:(Tr.mk op xv name width ts).at_ wr (λ b=>B1<=b/\Kp wr gp [u1,.slice VA s1.aL.length vc] b) Kx:=by have h2:=HZE.ae;have h3:=HE4.ae;unfold Tr.at_;rw[hy];exact⟨h2.1,h2.2.1,h2.2.2,h3,Nm.ae,ys,jH.ae,afr.ae⟩
    have anM:=aa ahQ;have Ny:(Tr.mk op xv name width ts).ok:=by have h1:=kz.ae;rw[HHT.ae] at h1;unfold Tr.ok at h1 ⊢;exact⟨h1.1,by rw[qE.ae];exact h1.2.1,h1.2.2.1,h1.2.2.2.1,h1.2.2.2.2.1,((ky (λ t _ s=>iD c.aL c.cols t s) s:pF args s (Tr.turns c.aL c.cols args s)).ok _ _ HT.ae) h1.2.2.2.2.2⟩
    have zT:s1.aL.length<=140737488355328:=by have h1:=((ky (λ t _ s=>iD c.aL c.cols t s) s:pF args s (Tr.turns c.aL c.cols args s)).len _ _ HT.ae);have h2:=HLEN.ae;have h3:=ahP.ae;omega
    have xa:=aa (Tr.oO (cols:=s1.aL) (CA:=VA) (cc:=vc) zT _ Kx wr Ny (D8 ahQ) (G5 HP.ae.ps.dI));have hXN:=xN.ae;rw[if_neg Hm.ae] at hXN;generalize LE:(Tr.mk op xv name width ts).type s1.aL=R at*;obtain⟨ty,er⟩:=R;dsimp only at hXN xa;have uY:=aa hXN;clear ahQ Ny zT hXN LE hy gX xN Hm;open zeB in exact Zcn):p:=h
theorem zf0.Kbr(h:p:=by rw[CG,show t.op=op from ahN,ha] at py;have HIS:=aa py;have UT:=aa CG;clear c4 c8 c10 hb1 hf py CG Gi tD;go_wp2_with fail;have Vg:=aa kG;have KK:=aa Lw;have hop:=UT.ae;rw[hop,ahN];refine(HIS.ae w1).mono ?_;rintro e w2 ⟨rfl,hb2⟩;rw[<- ahN,<- hop];have uD:=aa (CF.ae.later hb2);have hb:=Vg.ae.later hb2;have Xu:=aa (KK.ae.later hb2);have fE:=aa (ai.then zJ.ae (ai.then eL.ae hb2));clear hxo kG Lw hb2 hop Vg KK eL CF;open zee in exact Zb0):p:=h
theorem za6.Kad(h:p:=by open zf0 in exact ZdY):p:=h
theorem Vx (c:PC)(w0:World)(gp:Nat)(r:Rest)(op:Int)(xv:Val)(name:ByteArray)(width:Int)(args:List Tr)(z:Ex)(s:dy)(u v:Value)(ya:List Ex)(w:World)(hf:c.aL.findIdx? (λ g=>g.same (.mk op xv name width args))=none)(ha:isAgg op=false)(ih:∀a∈args,F3 c w0 gp r a)(aZ:c.Ok w0)(fU:(Tr.mk op xv name width args).ok)(hat:(Tr.mk op xv name width args).at_ w0 (Old w0) z)(nX:eG c w0 gp r w u v ya s)(hlen:s.aL.length+s.aJ.length+2*(Tr.mk op xv name width args).nodes<=1000000):
  ar 99 #[aw gp,.agg (ay z)] w (rJ c w0 gp r u v w ((Tr.mk op xv name width args).turn c.aL c.cols s)):=by
 obtain⟨t,ht⟩:∃t,t=Tr.mk op xv name width args:=⟨_,rfl⟩;have ahN:t.op=op:=by rw[ht];rfl
 have HIH:=aa ih;have HLEN:=aa hlen;have HHT:=aa ht;obtain⟨X,hX⟩:∃X,X=t.turn c.aL c.cols s:=⟨_,rfl⟩;have hXn:=hX;rw[ht,sV,hf] at hXn;dsimp only at hXn;rw[if_neg (by rw[ha];decide)] at hXn;have HX_:=aa hXn;have MY:=aa (iD c.aL c.cols t s);rw[<- hX] at MY;rw[<- ht] at hf fU hat ⊢;rw[<- hX];clear ht hX hXn ih hlen;open za6 in exact Zas
theorem acA (c:PC)(w0:World)(gp:Nat)(r:Rest)(aZ:c.Ok w0):∀t,F3 c w0 gp r t:=by
 refine Tr.ind ?_;intro op xv name width args ih z s u v ya w fU hat nX hlen
 cases hf:c.aL.findIdx? (λ g=>g.same (.mk op xv name width args))with
 | some k=>have h:=Qb c w0 gp r _ z s u v ya w k hf aZ fU hat nX;rw[sV,hf];exact h
 | none=>
   have hn:1<=(Tr.mk op xv name width args).nodes:=by rw[Tr.nodes];omega
   cases ha:isAgg op with
   | false=>exact Vx c w0 gp r op xv name width args z s u v ya w hf ha ih aZ fU hat nX hlen
   | true=>
     obtain⟨q,hq⟩:∃q,q=fS c.cols op args:=⟨_,rfl⟩;obtain⟨ty,er⟩:=q;rw[sV,hf];dsimp only;rw[if_pos ha,<- hq];dsimp only;by_cases her:er=0
     ·subst her;rw[if_neg Tab];exact Mj c w0 gp r _ z s u v ya w hf ha ty hq.symm WC aZ fU hat nX
     ·rw[if_pos her];exact Jf c w0 gp r _ z s u v ya w hf ha ty er hq.symm her aZ fU hat nX
def ownPost (c:PC)(w0:World)(gp:Nat)(r:Rest)(u v:Value)(w:World)(x:Except Int (Tr×Int×dy))(e:Ending)(w':World):Prop:=
 match x with
 | .error er=>∃(y:Ex) (ty:Int) (u' v':Value),e=.returned (.tuple #[.agg (ay y),ag ty,af er])/\gK gp w u v w' u' v'
 | .ok (t,ty,s)=>∃y u' v' ya,e=.returned (.tuple #[.agg (ay y),ag ty,af 0])/\t.at_ w' (λ b=>(b < w0.heap.size\/w.heap.size<=b)/\Kp w' gp [u',v'] b) y/\eG c w0 gp r w' u' v' ya s/\gK gp w u v w' u' v'
variable{w0:World}{ya:List Ex}
theorem eG.H8{c:PC}   {r:Rest}   (h:eG c w0 gp r w u v ya s)  (hat:t.at_ w0 (Old w0) z):t.at_ w (λ b=>b < w0.heap.size/\Kp w gp [u,v] b) z:=
 Tr.at_.keep (λ b hb=>⟨λ o=>h.base.cell (p:=⟨b,o,none⟩) hb,hb,ew.2 ⟨Nat.lt_of_lt_of_le hb h.base.size,λ e=>by have:=h.low;have:b < w0.heap.size:=hb;omega,λ e=>by have:=h.kp9 b e;have:b < w0.heap.size:=hb;omega,λ e=>by have:=h.atO b e;have:b < w0.heap.size:=hb;omega⟩⟩) t z hat
theorem zbQ.Kal(h:p:=by
 refine bodyPost_ret (v:=.tuple #[.agg (ay z),ag ty,af er]) Tav rfl ?_;by_cases her:er=0
 ·subst her;have Mq:=uY.ae;rw[if_neg Tab] at Mq;rw[Mq];refine⟨z,u,v,ya,rfl,?_,JP.ae.aside kK Mr.ae Tbc,((gK.refl gp w u v).later anN.ae).own kK mF.ae⟩;exact Tr.at_.keep (λ b hb=>⟨λ o=>bI (kK.block b hb.2.1 (λ e=>by injection e with e;have:=hb.1;have:=pG.ae.base.size;have:=mF.ae;omega)) o,.inl hb.1,hb.2.size kK.size⟩) t z (JP.ae.H8 CE.ae)
 ·have Mq:=uY.ae;rw[if_pos her] at Mq;rw[Mq];exact⟨z,ty,_,_,rfl,((gK.refl gp w u v).later anN.ae).own kK mF.ae⟩):p:=h
theorem zcy.Kau(h:p:=by
 have Gj:=Mh.frozen;clear k1 Mh;go_wp2_with fail;clear z0 z1 x2 x3 x4 x5 x6 y0 y1 c2 y3 y4 y5 y6 Gj;generalize uE:World.setCell _ _ _=W9;have hR:aB W9 g4 46 (ay z):=by rw[<- uE];simpa using(((((((HP.ae.aT 0 _).aT 1 _).aT 2 _).aT 3 _).aT 4 _).aT 5 _).aT 6 _)
 have kK:W3.grownBy W9 (some g4):=by rw[<- uE];exact aC (aC (aC (aC (aC (aC (aC (aR (Below.refl _ _)) _ _) _ _) _ _) _ _) _ _) _ _) _ _
 open zbQ in exact ZaD):p:=h
theorem zbm.Kag(h:p:=by have Mh:=HP.ae;open zcy in exact Za9):p:=h
theorem zf2.Kbs(h:p:=by refine bodyPost_ret (v:=.tuple #[.agg (ay Kx),ag 0,af er]) Tav rfl ?_;rw[acB.ae];exact⟨Kx,0,_,_,rfl,HG.ae.own kK mF.ae⟩):p:=h
theorem zcz.Kau(h:p:=by
 have Gj:=Mh.frozen;clear k1 Mh HX;go_wp2_with fail;clear z0 z1 x2 x3 x4 x5 x6 y0 y1 c2 y3 y4 y5 y6 Gj hne;generalize hWX:World.setCell _ _ _=WX;have hR:aB WX g4 46 (ay Kx):=by rw[<- hWX];simpa using(((((((HP.ae.aT 0 _).aT 1 _).aT 2 _).aT 3 _).aT 4 _).aT 5 _).aT 6 _)
 have kK:W9.grownBy WX (some g4):=by rw[<- hWX];exact aC (aC (aC (aC (aC (aC (aC (aR (Below.refl _ _)) _ _) _ _) _ _) _ _) _ _) _ _) _ _
 open zf2 in exact Zd0):p:=h
theorem zf3.Kbs(h:p:=by
 refine bodyPost_ret (v:=.tuple #[.agg (ay Kx),ag ty,af er]) Tav rfl ?_;by_cases her:er=0
 ·subst her;have Mq:=acB.ae;rw[if_neg Tab] at Mq;rw[Mq];refine⟨Kx,u',_,G7,rfl,?_,Qt.ae.aside kK HK8.ae Tbc,ve.ae.own kK mF.ae⟩;exact Tr.at_.keep (λ b hb=>⟨λ o=>bI (kK.block b hb.2.1 (λ e=>by injection e with e;have:=hb.1;have:=HWS.ae;omega)) o,.inr (by have:=hb.1;have:=HWS.ae;omega),hb.2.size kK.size⟩) t1 Kx aui.ae
 ·have Mq:=acB.ae;rw[if_pos her] at Mq;rw[Mq];exact⟨Kx,ty,_,_,rfl,ve.ae.own kK mF.ae⟩):p:=h
theorem zcA.Kau(h:p:=by
 have Gj:=Mh.frozen;clear k1 Mh;go_wp2_with fail;clear z0 z1 x2 x3 x4 x5 x6 y0 y1 c2 y3 y4 y5 y6 Gj hne;generalize hWX:World.setCell _ _ _=WX;have hR:aB WX g4 46 (ay Kx):=by rw[<- hWX];simpa using(((((((Aa.ae.aT 0 _).aT 1 _).aT 2 _).aT 3 _).aT 4 _).aT 5 _).aT 6 _)
 have kK:W3.grownBy WX (some g4):=by rw[<- hWX];exact aC (aC (aC (aC (aC (aC (aC (aR (Below.refl _ _)) _ _) _ _) _ _) _ _) _ _) _ _) _ _
 open zf3 in exact Zd0):p:=h
theorem zeA.KaU(h:p:=by have Qt:=aa (JP.ae.later hL);have ve:=aa (HG.ae.later hL);have aui:=aa (((gK.refl gp W9 u' (.slice VA s1.aL.length vc)).later hL).tree HYA.ae);have HK8:=aa (Mr.ae.size hL.size);clear hL VH HP JP HG HYA Mr Nw xa;have hne:=nJ.ae;have k1:=SV.ae;have z0:=k1.cell 0;have z1:=k1.cell 1;have x2:=k1.cell 2;have x3:=k1.cell 3;have x4:=k1.cell 4;have x5:=k1.cell 5;have x6:=k1.cell 6;simp only[Uaa] at z0 z1 x2 x3 x4 x5 x6;have Mh:=Aa.ae;open zcA in exact Za9):p:=h
theorem zbn.Kag(h:p:=by
 clear k1;go_wp2_with fail;clear z0 z1 x2 x3 x4 x5 x6 c10;refine(acA c w0 gp r gh.ae t z s u v ya W kz.ae CE.ae sT.ae HLEN.ae).mono ?_;intro e w6 hp;have vg:=aa (iD c.aL c.cols t s)
 cases hr:Tr.turn c.aL c.cols t s with
 | error er=>
   have jV:=uY.ae;rw[hr] at hp vg jV;obtain⟨Kx,u',v',rfl,hst⟩:=hp;have her:=vg.ae.err _ rfl;have acB:=aa (show X=.error er from jV);have t1:(er != 0)=true:=by simp[her]
   have bg:=ah w6 (.cells (ay Kx) 46);have HX:=aB.new w6 46 (ay Kx);have HP:=aa ((hst.blk tD.ae CI.ae).later bg);have HG:=aa ((((gK.refl gp w u v).later zJ.ae).trans hst).later bg);have nJ:=aa (show g4≠w6.heap.size by have:=tD.ae.lt;have:=hst.size;omega);clear jV hr her hst uY bg;go_upto_region 5 with fail;generalize w6.alloc (.cells (ay Kx) 46)=W9 at*;generalize w6.heap.size=g9 at*;have hne:=nJ.ae;have k1:=HX;have z0:=k1.cell 0;have z1:=k1.cell 1;have x2:=k1.cell 2;have x3:=k1.cell 3;have x4:=k1.cell 4;have x5:=k1.cell 5;have x6:=k1.cell 6;simp only[Uaa] at z0 z1 x2 x3 x4 x5 x6;have Mh:=HP.ae;open zcz in exact Za9
 | ok q=>
   obtain⟨t1,s1⟩:=q;have jV:=uY.ae;rw[hr] at hp vg jV;obtain⟨Kx,u',v',G7,rfl,uH,pK,hst⟩:=hp;have bg:=ah w6 (.cells (ay Kx) 46);have HX:=aB.new w6 46 (ay Kx);have HP:=aa ((hst.blk tD.ae CI.ae).later bg);have Mr:=aa ((hst.kp CI.ae).size bg.size);have HG:=aa ((((gK.refl gp w u v).later zJ.ae).trans hst).later bg);have JP:=aa (pK.later bg);have HYA:=aa (((gK.refl gp w6 u' v').later bg).tree uH);have nJ:=aa (show g4≠w6.heap.size by have:=tD.ae.lt;have:=hst.size;omega);have HWS:=aa (show g4 < W.heap.size/\w.heap.size<=W.heap.size from⟨tD.ae.lt,zJ.ae.size⟩);clear hr hst pK uH bg;go_upto_region 5 with fail
   generalize w6.alloc (.cells (ay Kx) 46)=W9 at*;generalize w6.heap.size=g9 at*;have VH:=aa HX;clear HX;obtain⟨VA,vc,NL,_⟩:=JP.ae.dI.reads;subst NL;have gX:=JP.ae.blk;unfold PC.cells at gX;have Nw:=aa (show W9.cell? ⟨gp,10,none⟩=some (.slice VA s1.aL.length vc)from by
    have:=gX.cell 10
    simpa using this)
   have Qi:=aa gX.lt;have zT:s1.aL.length<=140737488355328:=by have h1:=vg.ae.len _ _ rfl;have h2:=HLEN.ae;omega
   have xa:=aa (Tr.oO (cols:=s1.aL) (CA:=VA) (cc:=vc) zT t1 Kx W9 (vg.ae.ok _ _ rfl kz.ae) (D8 HYA.ae) (G5 JP.ae.dI));generalize KK:t1.type s1.aL=R at*;obtain⟨ty,er⟩:=R;dsimp only at jV xa;have acB:=aa jV;clear KK jV gX zT uY;go_wp2_with fail;open zeA in exact Zcn):p:=h
theorem zeI.KaX(h:p:=by
 have hk4:=pG.ae.fresh (w2:=W) mF.ae tD.ae.lt;have CI:=aa hk4;have uI:=aa (pG.ae.fresh (w2:=W) Je.ae Gi.ae.lt);clear hk4
 cases hg:c.aK with
 | false=>
   rw[hg] at c10;have jV:=HX_.ae;unfold pd at jV;rw[hg,if_pos rfl] at jV;have Nw:=aa c4;have Qi:=aa sT.ae.blk.lt;have xa:=aa (Tr.oO (cols:=c.cols) (CA:=c.cA) (cc:=c.cc) (by have:=gh.ae.cl;omega) t z W kz.ae (CE.ae.later sT.ae.base) (gh.ae.cols.later sT.ae.base));generalize KK:t.type c.cols=R at*;obtain⟨ty,er⟩:=R;dsimp only at jV xa;have uY:=aa jV;clear KK jV c4 c8 hg;go_wp2_with fail;clear c10;refine bC 11 (Gn gp 8 c.cA c.cols.length c.cc ty er z) (nk _ _ _ _ _ _ _ _) Taa Taa Taa ?_ ?_
   ·simp only[take_succ_cons,take_zero];refine⟨Zg0,Zaa,Zaa,Zaa,Zcd,?_,Zaa,Zaa,Zaa,Zaa,Zaa,trivial⟩
    ·intro ρ w3 hc hL hr;have h0:_=_:=hr.1;have h1:_=_:=hr.2.1;have e1:=hc.func 59;refine bj (f:=59) (args:= #[.agg (ay z),.slice c.cA c.cols.length c.cc]) (w':=w3) Tas ?_;exact Zf6
   intro W3 hL;simp only[Uab];rintro a0 - a1 - a2 - a3 - a4 - a5 - a6 - a7 - a8 - _ rfl _ rfl;simp only[bE,Act.put,Uac];have Aw:=aa (Gi.ae.later hL);have HP:=aa (tD.ae.later hL);have JP:=aa (sT.ae.later hL);have anN:=aa (ai.then zJ.ae hL);have Mr:=aa (CI.ae.size hL.size);clear hL Gi tD sT zJ Nw xa CI uI;have k1:=Aw.ae;open zbm in exact Zax
 | true=>rw[hg] at c10;have jV:=HX_.ae;unfold pd at jV;rw[hg,if_neg Tab] at jV;have uY:=aa jV;clear jV c4 c8 hg HX_;have k1:=Gi.ae;open zbn in exact Zax):p:=h
theorem zhT.Kca(h:p:=by go_enter Tryz.func61,Tryz.ntmps61;open zeI in exact Zcs):p:=h
theorem zfn.Kbb(h:p:=by have c4:=gX.cell 8;have c10:=gX.cell 11;have c8:=gX.cell 10;open zhT in exact Zgh):p:=h
theorem CO (c:PC)(w0:World)(gp:Nat)(r:Rest)(t:Tr)(z:Ex)(s:dy)(u v:Value)(ya:List Ex)(w:World)(aZ:c.Ok w0)(fU:t.ok)(hat:t.at_ w0 (Old w0) z)(nX:eG c w0 gp r w u v ya s)(hlen:s.aL.length+s.aJ.length+2*t.nodes<=1000000):
  ar 61 #[aw gp,.agg (ay z)] w (ownPost c w0 gp r u v w (pd c.aK c.aL c.cols t s)):=by have HLEN:=aa hlen;clear hlen;obtain⟨X,hX⟩:∃X,X=pd c.aK c.aL c.cols t s:=⟨_,rfl⟩;rw[<- hX];have HX_:=aa hX;clear hX;open zfn in exact Zc3
variable{ρ:Operand->Value}{T:Value->World->Prop}
theorem zeH.KaW(h:p:=by
 unfold xi execOp;simp only[ho,hp,hx,Instr.storeAt,Instr.sureAddr,Sem.run_bind,Sem.run_pure,Result.andThen_ok,hrun];refine h _ ⟨?_,.inr ⟨q,c,_,?_,hb,setRow_heap w q cur _ e (0,0) hg,?_,hm,?_,?_⟩⟩ ⟨rfl,rfl,rfl,by simp[World.setRow],λ k hk hne=>setRow_other w q k _ (λ e=>hne Tbb)⟩
 ·rw[Gk hf]
 ·rw[e2,length_set]
 ·rw[length_set];exact hn
 ·rw[<- hs];simp[hf];omega
 ·exact ZbJ):p:=h
theorem Eu{size base:Nat}   {y:α}  {o:Oper}  (ty:TypeId)(p x:Operand)(ho:o.op=.store ty p x)
  (q n c i:Nat) (hf:∀x,(f x).length=size) (hown:aI f e size w base (aH q n c) l) (rZ:i < l.length) (hp:ρ p=bh q (i*size)) (hx:ρ x=.agg (f y).toArray)
  (hi:(P.info? ty).map (·.size)=some size) (h1:(f y).toArray.all (·.oneCell')=true)
  (h:∀w',aI f e size w' base (aH q n c) (l.set i y)->w.grownBy w' (some q)->T undef w'):xi P o ρ w T:=by
 rcases hown.2 with ⟨hv,_⟩|⟨g,cap,cur,hv,hb,hg,hn,hm,hs,ht⟩
 ·cases hv
 ·open zeH in exact Zcr
theorem CP{size base:Nat}   {z y:α}  {o:Oper}  (ty:TypeId)(p x:Operand)(ho:o.op=.store ty p x)
  (q n c:Nat) (hf:∀x,(f x).length=size) (hown:aI f e size w base (aH q n c) (l++ [z])) (hp:ρ p=bh q (l.length*size)) (hx:ρ x=.agg (f y).toArray)
  (hi:(P.info? ty).map (·.size)=some size) (h1:(f y).toArray.all (·.oneCell')=true)
  (h:∀w',aI f e size w' base (aH q n c) (l++ [y])->w.grownBy w' (some q)->T undef w'):xi P o ρ w T:=by
 refine Eu ty p x ho q n c l.length hf hown Tad hp hx hi h1 λ w' h1 h2=>h w' ?_ h2
 exact ZgX
variable{V V':Nat->World->Value->Prop}{K:Act->World->Prop}
theorem bE.weaken:∀ {l:List Oper} {k:Nat} {a:Act} {w:World},(∀i w v,V' i w v->V i w v)->bE V K l k a w->bE V' K l k a w:=by
 intro l
 induction l with
 | nil=>intro k a w _ h;exact h
 | cons o l ih=>
   intro k a w hv h;unfold bE at h ⊢;revert h
   cases o.dst with
   | none=>intro h;exact ih hv h
   | some d=>intro h;exact λ x hx=>ih hv (h x (hv _ _ _ hx))
structure LaA (W:World) (z:Option Value) (w:World):Prop where
 below:aj W w
 zero:∀x,z=some x->∃g0,x=aH g0 1 1/\aB w g0 46 (bH wH).toArray
structure LaB (gp k B:Nat) (W:World) (cs:Array Value) (r:Value) (ys:List Ex) (y:Ex) (a:Value) (s p:Bool) (w:World):Prop where
 row:∃q c,a=aH q (ys.length+1) c/\q≠gp
 own:aI bH 46 7 w B a (ys++ [if s=true then y else wH])
 blk:aB w gp 81 (if p=true then cs.setIfInBounds k a else cs)
 far:∀b,b < W.heap.size->b≠gp->r.ownBlock≠some b->w.heap[b]?=W.heap[b]?
 os:w.os=W.os
 tape:w.tape=W.tape
 output:w.output=W.output
 size:W.heap.size<=w.heap.size
 mv:Mv W r a
variable{k:Nat}{W:World}{cs:Array Value}{r:Value}
theorem LaB.later{a:Value}  {y:Ex} {s p:Bool}(h:LaB gp k B W cs r ys y a s p w)(hb:aj w w'):LaB gp k B W cs r ys y a s p w':=
 ⟨h.row,h.own.later hb,h.blk.later hb,λ b h1 h2 h3=>(hb.block b (Nat.lt_of_lt_of_le h1 h.size)).trans (h.far b h1 h2 h3),hb.os.trans h.os,hb.tape.trans h.tape,hb.output.trans h.output,Nat.le_trans h.size hb.size,h.mv⟩
def anQ (o0 o1 o2 o3 o4 o5 o6 o7 o8 o9 qB xg vh:Oper)(s0 s1 d0 d1 d2 d3 d4 d5 d6 d7 d8 d10 d11:Tmp):Bool:=
 (tmpsOf o0== [s0])&&(cT [o0,o1,o2,o3,o4,o5,o6,o7,o8,o9,qB,xg,vh] o0 s0==none)&&(tmpsOf o1== [d0])&&(cT [o0,o1,o2,o3,o4,o5,o6,o7,o8,o9,qB,xg,vh] o1 d0==some 0)&&(tmpsOf o2== [d1])&&(cT [o0,o1,o2,o3,o4,o5,o6,o7,o8,o9,qB,xg,vh] o2 d1==some 1)&&(tmpsOf o3== [d2])&&(cT [o0,o1,o2,o3,o4,o5,o6,o7,o8,o9,qB,xg,vh] o3 d2==some 2)&&(tmpsOf o4== [s1])&&(cT [o0,o1,o2,o3,o4,o5,o6,o7,o8,o9,qB,xg,vh] o4 s1==none)&&(tmpsOf o5== [d3])&&(cT [o0,o1,o2,o3,o4,o5,o6,o7,o8,o9,qB,xg,vh] o5 d3==some 3)&&(tmpsOf o6== [])&&(tmpsOf o7== [d3,d6])&&(cT [o0,o1,o2,o3,o4,o5,o6,o7,o8,o9,qB,xg,vh] o7 d3==some 3)&&(cT [o0,o1,o2,o3,o4,o5,o6,o7,o8,o9,qB,xg,vh] o7 d6==some 6)&&(tmpsOf o8== [d7,d5])&&(cT [o0,o1,o2,o3,o4,o5,o6,o7,o8,o9,qB,xg,vh] o8 d7==some 7)&&(cT [o0,o1,o2,o3,o4,o5,o6,o7,o8,o9,qB,xg,vh] o8 d5==some 5)&&(tmpsOf o9== [d8,d4])&&(cT [o0,o1,o2,o3,o4,o5,o6,o7,o8,o9,qB,xg,vh] o9 d8==some 8)&&(cT [o0,o1,o2,o3,o4,o5,o6,o7,o8,o9,qB,xg,vh] o9 d4==some 4)&&(tmpsOf qB== [d0])&&(cT [o0,o1,o2,o3,o4,o5,o6,o7,o8,o9,qB,xg,vh] qB d0==some 0)&&(tmpsOf xg== [d10])&&(cT [o0,o1,o2,o3,o4,o5,o6,o7,o8,o9,qB,xg,vh] xg d10==some 10)&&(tmpsOf vh== [d11,d7])&&(cT [o0,o1,o2,o3,o4,o5,o6,o7,o8,o9,qB,xg,vh] vh d11==some 11)&&(cT [o0,o1,o2,o3,o4,o5,o6,o7,o8,o9,qB,xg,vh] vh d7==some 7)&& o0.guard.isNone && o1.guard.isNone && o2.guard.isNone && o3.guard.isNone && o4.guard.isNone && o5.guard.isNone && o6.guard.isNone && o7.guard.isNone && o8.guard.isNone && o9.guard.isNone && qB.guard.isNone && xg.guard.isNone && vh.guard.isNone && ij o7 3 && ij o7 6 && ij o8 7 && ij o9 7 && ij vh 7
def zY (gp k B:Nat)(W:World)(cs:Array Value)(r:Value)(ys:List Ex)(y:Ex)(σ:Nat->Option Value)(w:World):Prop:=
 match σ 7 with
 | none=>σ 8=none/\σ 9=none/\σ 12=none/\(∀x,σ 3=some x->x=r)/\LaA W (σ 6) w
 | some a=>(σ 3).isSome=true/\(σ 6).isSome=true/\(∀x,σ 3=some x->x=r)/\LaB gp k B W cs r ys y a (σ 9).isSome (σ 12).isSome w/\∀x,σ 8=some x->∃G cap,a=.slice (some ⟨G,0,none⟩) (ys.length+1) cap/\x=.pointer (some ⟨G,ys.length*7,none⟩)
theorem I0{y:Ex}(σ:Nat->Option Value)(w:World)(h:zY gp k B W cs r ys y σ w):zY gp k B W cs r ys y σ w.drew:=by
 have hb:aj w w.drew:=(Below.refl _ _).drew;unfold zY at*
 cases ha:σ 7 with
 | none=>rw[ha] at h;obtain⟨h1,h2,h3,h4,h5⟩:=h;exact⟨h1,h2,h3,h4,⟨Below.trans h5.below (hb.mono h5.below.size),λ x hx=>by obtain⟨g0,k1,k2⟩:=h5.zero x hx;exact⟨g0,k1,k2.later hb⟩⟩⟩
 | some a=>rw[ha] at h;obtain⟨h1,h2,h3,h4,h5⟩:=h;exact⟨h1,h2,h3,h4.later hb,h5⟩
section
variable {gp k B gx:Nat} {W:World} {cs:Array Value} {r:Value} {ys:List Ex} {y:Ex} {Q:Exit->Act->World->Prop} {a0:Act} {id:Nat} {o0 o1 o2 o3 o4 o5 o6 o7 o8 o9 qB xg vh:Oper} {s0 s1 d0 d1 d2 d3 d4 d5 d6 d7 d8 d10 d11:Tmp}
theorem zhQ.Kb9(h:p:=by rw[ha] at r0;injection r0 with r0;refine aq (h8 ρ w q c (r0.symm.trans e1) r1) ?_;show zY gp k B W cs r ys y _ _;unfold zY;simp only[gC,ha,jZ,Nat.reduceEqDiff,if_true,if_false];exact⟨k1,k2,k3,zg,λ x e=>by injection e with e;exact⟨q,c,e1,e.symm⟩⟩):p:=h
theorem zhR.Kb9(h:p:=by
 obtain⟨G2,agq,e7,e8⟩:=k5 _ r0;rw[jZ] at zg;have ho:=zg.own;rw[e7] at ho e1;injection e1 with e1 _ e3;injection e1 with e1;injection e1 with e1 _ _;subst e1 e3;refine CP 46 (.tmp d8) (.tmp d4) h9 G2 (ys.length+1) agq (f:=bH) (y:=y) (l:=ys) (λ _=>rfl) ho e8 r1 Taa TaD ?_;intro w' AP Rq;show zY gp k B W cs r ys y _ _;unfold zY;simp only[gC,ha,Nat.reduceEqDiff,if_true,if_false,Option.isSome_some];refine⟨k1,k2,k3,⟨⟨G2,agq,e7,e2⟩,by rw[e7];exact AP,zg.blk.grown Rq (λ e=>by injection e with e;exact e2 e.symm),λ b h1 h2 h3=>?_,Rq.os.trans zg.os,Rq.tape.trans zg.tape,Rq.output.trans zg.output,Nat.le_trans zg.size Rq.size,zg.mv⟩,k5⟩;refine(Rq.block b (Nat.lt_of_lt_of_le h1 zg.size) λ e=>?_).trans (zg.far b h1 h2 h3);injection e with e;rcases zg.mv with h | h
 ·rw[e7] at h;exact h3 (by rw[<- h,e];rfl)
 ·have:=h G2 (by rw[e7];rfl);omega):p:=h
theorem zhS.Kb9(h:p:=by rw[ha] at r1;injection r1 with r1;rw[jZ] at zg;have jS:aB w gp 81 cs:=zg.blk;have hrun:=h12 ρ w (some ⟨q,0,none⟩) (ys.length+1) c r0 (r1.symm.trans e1) (by rw[jS.cell];exact hcs) (jS.frozen _);unfold xi;rw[hrun];show zY gp k B W cs r ys y _ _;unfold zY;simp only[gC,ha,Nat.reduceEqDiff,if_true,if_false,Option.isSome_some];have anX:=zg.own;refine⟨k1,k2,k3,⟨⟨q,c,e1,e2⟩,anX.keep λ g hg2=>Below.heap_setCell w ⟨gp,k,none⟩ _ g λ e=>?_,by have:=jS.aT k a;rw[e1] at this ⊢;exact this,λ b h1 h2 h3=>(Below.heap_setCell w ⟨gp,k,none⟩ _ b h2).trans (zg.far b h1 h2 h3),zg.os,zg.tape,zg.output,by rw[World.size_setCell];exact zg.size,zg.mv⟩,k5⟩;rw[e1] at hg2;injection hg2 with hg2;exact e2 (hg2.trans e)):p:=h
theorem Gq (hm:Tryz.prog.follows .mixedOrders=true)(aZ:dM [o0,o1,o2,o3,o4,o5,o6,o7,o8,o9,qB,xg,vh] a0.tmps.size [o0,o1,o2,o3,o4,o5,o6,o7,o8,o9,qB,xg,vh] 0=true)(BX:anQ o0 o1 o2 o3 o4 o5 o6 o7 o8 o9 qB xg vh s0 s1 d0 d1 d2 d3 d4 d5 d6 d7 d8 d10 d11=true)
  (es0:a0.eval (.tmp s0)=.pointer (some ⟨gp,0,none⟩)) (es1:a0.eval (.tmp s1)=.pointer (some ⟨gx,0,none⟩))
  (h0:∀ρ w,ρ (.tmp s0)=.pointer (some ⟨gp,0,none⟩)->(execOp ρ o0).run Tryz.prog w=.ok (.value (.pointer (some ⟨gp,0,none⟩))) w)
  (h1:∀ρ w,ρ (.tmp d0)=.pointer (some ⟨gp,0,none⟩)->(execOp ρ o1).run Tryz.prog w=.ok (.value (.pointer (some ⟨gp,0,none⟩))) w)
  (h2:∀ρ w,ρ (.tmp d1)=.pointer (some ⟨gp,0,none⟩)->(execOp ρ o2).run Tryz.prog w=.ok (.value (.pointer (some ⟨gp,k,none⟩))) w)
  (h3:∀ρ w,ρ (.tmp d2)=.pointer (some ⟨gp,k,none⟩)->w.cell? ⟨gp,k,none⟩=some r->(execOp ρ o3).run Tryz.prog w=.ok (.value (r)) w)
  (h4:∀ρ w,ρ (.tmp s1)=.pointer (some ⟨gx,0,none⟩)->aB w gx 46 (bH y).toArray->(execOp ρ o4).run Tryz.prog w=.ok (.value (.agg (bH y).toArray)) w)
  (h5:∀ρ w,ρ (.tmp d3)=r->(execOp ρ o5).run Tryz.prog w=.ok (.value (.int .i64 (ys.length:Int))) w)
  (h6:∀ρ w,oC ρ->(execOp ρ o6).run Tryz.prog w=.ok (.value (.slice (some ⟨w.heap.size,0,none⟩) 1 1)) (w.alloc (.cells (bH wH).toArray 46)))
  (h7:∀ρ w x v' w',ρ (.tmp d3)=r->ρ (.tmp d6)=x->(Builtin.append_ #[23,23] 23 #[r,x]).run Tryz.prog w=.ok v' w'->(execOp ρ o7).run Tryz.prog w=.ok (.value v') w')
  (h8:∀ρ w G cap,ρ (.tmp d7)=.slice (some ⟨G,0,none⟩) (ys.length+1) cap->ρ (.tmp d5)=.int .i64 (ys.length:Int)->(execOp ρ o8).run Tryz.prog w=.ok (.value (.pointer (some ⟨G,ys.length*7,none⟩))) w)
  (h9:o9.op=.store 46 (.tmp d8) (.tmp d4))
  (h10:∀ρ w,ρ (.tmp d0)=.pointer (some ⟨gp,0,none⟩)->(execOp ρ qB).run Tryz.prog w=.ok (.value (.pointer (some ⟨gp,0,none⟩))) w)
  (h11:∀ρ w,ρ (.tmp d10)=.pointer (some ⟨gp,0,none⟩)->(execOp ρ xg).run Tryz.prog w=.ok (.value (.pointer (some ⟨gp,k,none⟩))) w)
  (h12:∀ρ w A m c,ρ (.tmp d11)=.pointer (some ⟨gp,k,none⟩)->ρ (.tmp d7)=.slice A m c->w.cell? ⟨gp,k,none⟩=some r->w.frozen? ⟨gp,k,none⟩=false->(execOp ρ vh).run Tryz.prog w=.ok .skip (w.setCell ⟨gp,k,none⟩ (.slice A m c)))
  (hcs:cs[k]?=some r) (hB:B<=W.heap.size) (hblk:aB W gp 81 cs) (hown:aI bH 46 7 W B r ys) (hlen:ys.length<=1000000)
  (hgx:aB W gx 46 (bH y).toArray) (hxg:gx≠gp) (hxr:r.ownBlock≠some gx)
  (mh:∀a w,LaB gp k B W cs r ys y a true true w->bE (λ _ _ _=>True) (λ a w=>wpList Tryz.prog [o0,o1,o2,o3,o4,o5,o6,o7,o8,o9,qB,xg,vh].toArray Q [] a w) [o0,o1,o2,o3,o4,o5,o6,o7,o8,o9,qB,xg,vh] 0 a0 w):
  (Code.region id [o0,o1,o2,o3,o4,o5,o6,o7,o8,o9,qB,xg,vh].toArray true).wp Tryz.prog Q a0 W:=by
 simp only[anQ,Bool.and_eq_true,beq_iff_eq,Option.isNone_iff_eq_none] at BX;obtain⟨⟨⟨⟨⟨⟨⟨⟨⟨⟨⟨⟨⟨⟨⟨⟨⟨⟨⟨⟨⟨⟨⟨⟨⟨⟨⟨⟨⟨⟨⟨⟨⟨⟨⟨⟨⟨⟨⟨⟨⟨⟨⟨⟨⟨⟨t0,auk⟩,t1⟩,aul⟩,t2⟩,aum⟩,t3⟩,aun⟩,t4⟩,auo⟩,t5⟩,aup⟩,t6⟩,t7⟩,auq⟩,aur⟩,t8⟩,aus⟩,aut⟩,t9⟩,auu⟩,auv⟩,t10⟩,anS⟩,t11⟩,anT⟩,t12⟩,anU⟩,anV⟩,g0⟩,g1⟩,g2⟩,g3⟩,g4⟩,g5⟩,g6⟩,g7⟩,g8⟩,g9⟩,g10⟩,g11⟩,g12⟩,auw⟩,aBi⟩,auy⟩,auz⟩,anW⟩:=BX;refine mS [] [o0,o1,o2,o3,o4,o5,o6,o7,o8,o9,qB,xg,vh] Tad (λ i=>if i=0 then .pointer (some ⟨gp,0,none⟩)else if i=1 then .pointer (some ⟨gp,0,none⟩)else if i=2 then .pointer (some ⟨gp,k,none⟩)else if i=4 then(.agg (bH y).toArray)else if i=5 then .int .i64 (ys.length:Int)else if i=10 then .pointer (some ⟨gp,0,none⟩)else if i=11 then .pointer (some ⟨gp,k,none⟩)else undef) [3,6,7,8,9,12] (zY gp k B W cs r ys y) I0 ⟨rfl,rfl,rfl,(λ x e=>by cases e),⟨Below.refl _ _,λ x e=>by cases e⟩⟩ hm aZ rfl rfl ?_ ?_
 ·refine⟨?_,?_,?_,?_,?_,?_,?_,?_,?_,?_,?_,?_,?_,trivial⟩
  ·intro ρ w σ hc hG hr he hno;rw[t0] at hr;have r0:=hr.1;simp only[auk] at r0;refine⟨g0,?_⟩;exact h0 ρ w (r0.trans es0)
  ·intro ρ w σ hc hG hr he hno;rw[t1] at hr;have r0:=hr.1;simp only[aul] at r0;unfold nA at r0;rw[if_neg Tab] at r0;refine⟨g1,?_⟩;exact h1 ρ w r0
  ·intro ρ w σ hc hG hr he hno;rw[t2] at hr;have r0:=hr.1;simp only[aum] at r0;unfold nA at r0;rw[if_neg Tab] at r0;refine⟨g2,?_⟩;exact h2 ρ w r0
  ·intro ρ w σ hc hG hr he hno;rw[t3] at hr;have r0:=hr.1;simp only[aun] at r0;unfold nA at r0;rw[if_neg Tab] at r0;refine⟨g3,?_⟩;rw[if_pos Tab];have jZ:=hno Tab;unfold zY at hG
   have ha:σ 7=none:=by
    cases ha:σ 7 with
    | none=>rfl
    | some a=>rw[ha] at hG;have:=hG.1;rw[jZ] at this;cases this
   rw[ha] at hG;obtain⟨k1,k2,k3,k4,hA⟩:=hG;refine aq (h3 ρ w r0 ?_) ?_
   ·rw[(hblk.later hA.below).cell];exact hcs
   show zY gp k B W cs r ys y _ _;unfold zY;simp only[gC,ha,k1,k2,k3,Nat.reduceEqDiff,if_true,if_false];exact⟨trivial,trivial,trivial,λ x e=>by injection e with e;exact e.symm,hA⟩
  ·intro ρ w σ hc hG hr he hno;rw[t4] at hr;have r0:=hr.1;simp only[auo] at r0;refine⟨g4,?_⟩;refine h4 ρ w (r0.trans es1) ?_;unfold zY at hG
   cases ha:σ 7 with
   | none=>rw[ha] at hG;exact hgx.later hG.2.2.2.2.below
   | some a=>rw[ha] at hG;exact(hG.2.2.2.1.far gx hgx.lt hxg hxr).trans hgx
  ·intro ρ w σ hc hG hr he hno;rw[t5] at hr;have r0:=hr.1;simp only[aup] at r0;unfold nA at r0;rw[if_pos Tab] at r0;refine⟨g5,?_⟩;refine h5 ρ w ?_;unfold zY at hG
   cases ha:σ 7 with
   | none=>rw[ha] at hG;exact hG.2.2.2.1 _ r0
   | some a=>rw[ha] at hG;exact hG.2.2.1 _ r0
  ·intro ρ w σ hc hG hr he hno;rw[t6] at hr;refine⟨g6,?_⟩;rw[if_pos Tab];have jZ:=hno Tab;unfold zY at hG
   have ha:σ 7=none:=by
    cases ha:σ 7 with
    | none=>rfl
    | some a=>rw[ha] at hG;have:=hG.2.1;rw[jZ] at this;cases this
   rw[ha] at hG;obtain⟨k1,k2,k3,k4,hA⟩:=hG;refine aq (h6 ρ w hc) ?_;show zY gp k B W cs r ys y _ _;unfold zY;simp only[gC,ha,k1,k2,k3,Nat.reduceEqDiff,if_true,if_false];exact⟨trivial,trivial,trivial,k4,⟨hA.below.alloc hA.below.size _,λ x e=>by injection e with e;exact⟨w.heap.size,e.symm,aB.new w _ _⟩⟩⟩
  ·intro ρ w σ hc hG hr he hno;rw[t7] at hr;have r0:=hr.1;simp only[auq] at r0;unfold nA at r0;rw[if_pos Tab] at r0;have r1:=hr.2.1;simp only[aur] at r1;unfold nA at r1;rw[if_pos Tab] at r1;refine⟨g7,?_⟩;rw[if_pos Tab];have jZ:=hno Tab;unfold zY at hG;rw[jZ] at hG;obtain⟨k1,k2,k3,k4,hA⟩:=hG;have auA:=he 3 (cK.1 auw) Tab;obtain⟨lv,hlv⟩:=Option.isSome_iff_exists.1 auA;obtain⟨z0,hz1,hz2⟩:=hA.zero _ r1;obtain⟨v',w',hrun,ho,yD,Ei⟩:=eM (P:=Tryz.prog) (w:=w) 23 23 _ 88 Tryz.underlying23 fI rfl WC (λ _=>rfl) (y:=wH) (by simp[bH,wH,Value.oneCell']) (hown.later hA.below) z0 hz2 WC WC (Nat.le_trans hB hA.below.size);rw[<- hz1] at hrun;refine aq (h7 ρ w _ v' w' (k4 _ r0) rfl hrun) ?_;show zY gp k B W cs r ys y _ _;unfold zY;simp only[gC,hlv,k1,k2,k3,r1,Nat.reduceEqDiff,if_true,if_false,Option.isSome_some,Option.isSome_none];have nK:=hblk.later hA.below;have hb2:=dA nK (hown.later hA.below) Tab yD.grown;obtain⟨q,c,hq,_,_⟩:=ho.block Tad;refine⟨trivial,trivial,λ x e=>k4 x (hlv.trans e),⟨⟨q,c,by rw[hq,length_append];rfl,λ e=>ho.other hb2 Tab (by rw[hq,e];rfl)⟩,ho,hb2,λ b h1 h2 h3=>(yD.grown.block b (Nat.lt_of_lt_of_le h1 hA.below.size) (Ne.symm h3)).trans (hA.below.block b h1),yD.grown.os.trans hA.below.os,yD.grown.tape.trans hA.below.tape,yD.grown.output.trans hA.below.output,Nat.le_trans hA.below.size yD.grown.size,Ei.later hA.below.size⟩,λ x e=>by cases e⟩
  ·intro ρ w σ hc hG hr he hno;rw[t8] at hr;have r0:=hr.1;simp only[aus] at r0;unfold nA at r0;rw[if_pos Tab] at r0;have r1:=hr.2.1;simp only[aut] at r1;unfold nA at r1;rw[if_neg Tab] at r1;refine⟨g8,?_⟩;rw[if_pos Tab];have jZ:=hno Tab;unfold zY at hG;have ha:=he 7 (cK.1 auy) Tab;open zhQ in exact Zf5
  ·intro ρ w σ hc hG hr he hno;rw[t9] at hr;have r0:=hr.1;simp only[auu] at r0;unfold nA at r0;rw[if_pos Tab] at r0;have r1:=hr.2.1;simp only[auv] at r1;unfold nA at r1;rw[if_neg Tab] at r1;refine⟨g9,?_⟩;rw[if_pos Tab];have jZ:=hno Tab;unfold zY at hG;have ha:=he 7 (cK.1 auz) Tab;open zhR in exact Zf5
  ·intro ρ w σ hc hG hr he hno;rw[t10] at hr;have r0:=hr.1;simp only[anS] at r0;unfold nA at r0;rw[if_neg Tab] at r0;refine⟨g10,?_⟩;exact h10 ρ w r0
  ·intro ρ w σ hc hG hr he hno;rw[t11] at hr;have r0:=hr.1;simp only[anT] at r0;unfold nA at r0;rw[if_neg Tab] at r0;refine⟨g11,?_⟩;exact h11 ρ w r0
  ·intro ρ w σ hc hG hr he hno;rw[t12] at hr;have r0:=hr.1;simp only[anU] at r0;unfold nA at r0;rw[if_neg Tab] at r0;have r1:=hr.2.1;simp only[anV] at r1;unfold nA at r1;rw[if_pos Tab] at r1;refine⟨g12,?_⟩;rw[if_pos Tab];have jZ:=hno Tab;unfold zY at hG;have ha:=he 7 (cK.1 anW) Tab;open zhS in exact Zf5
 ·intro σ w hall hG;have ha:=hall 7 Tab;obtain⟨a,ha⟩:=Option.isSome_iff_exists.1 ha;have h9:=hall 9 Tab;have h12:=hall 12 Tab;unfold zY at hG;rw[ha,h9,h12] at hG;exact bE.weaken (λ _ _ _ _=>trivial) (mh a w hG.2.2.2.1)
end
open Go.Shelf
attribute [local go_sem] Oper.semAt_some
theorem Qk{p:Addr}(h:w'.heap[p.block]?=w.heap[p.block]?):w'.cell? p=w.cell? p:=by unfold World.cell?;rw[h]
structure Fr (w w':World):Prop where
 size:w.heap.size<=w'.heap.size
 cell:∀p v,w.cell? p=some v->w'.cell? p=some v
theorem Fr.refl (w:World):Fr w w:=⟨Nat.le_refl _,λ _ _ h=>h⟩
theorem Fr.trans{a b c:World}(h:Fr a b)(k:Fr b c):Fr a c:=⟨Nat.le_trans h.size k.size,λ p v hv=>k.cell p v (h.cell p v hv)⟩
theorem Ql{p:Addr} (h:w.cell? p=some v):p.block < w.heap.size:=by
 rcases Nat.lt_or_ge p.block w.heap.size with h1 | h1
 ·exact h1
 ·unfold World.cell? at h;rw[Array.getElem?_eq_none h1] at h;simp at h
theorem Fr.below(h:aj w w'):Fr w w':=⟨h.size,λ p v hv=>(h.cell (Ql hv)).trans hv⟩
theorem Fr.putObj (w:World)(l:Nat)(ob ob':Obj)(h:w.heap[l]?=some ob)(hc:ob.isCells=false):Fr w (w.putObj l ob'):=
 ⟨by simp,λ p v hv=>by
   obtain⟨o2,ho,hc2⟩:=cells_of_cell hv
   have hne:p.block≠l:=λ e=>by rw[e,h] at ho;injection ho with ho;rw[ho,hc2] at hc;cases hc
   exact(Qk (World.putObj_heap_other hne)).trans hv⟩
variable{off:Nat}
theorem cw.fr{x:Ex}(h:cw w b off x)(hf:Fr w w'):cw w' b off x:=by unfold cw at*;exact⟨hf.cell _ _ h.1,hf.cell _ _ h.2.1,hf.cell _ _ h.2.2.1,hf.cell _ _ h.2.2.2.1,hf.cell _ _ h.2.2.2.2.1,hf.cell _ _ h.2.2.2.2.2.1,hf.cell _ _ h.2.2.2.2.2.2⟩
theorem RE.fr{l:List Ex}(h:RE w B A l)(hf:Fr w w'):RE w' B A l:=by
 rcases h with h |⟨b,off,h1,h2,h3⟩
 ·exact .inl h
 ·exact .inr ⟨b,off,h1,h2,λ i x hx=>(h3 i x hx).fr hf⟩
abbrev QE (w0:World):= { x:Ex×Tr // x.2.ok/\x.2.at_ w0 (Old w0) x.1 }
theorem AB:∀(ts:List Tr) (ys:List Ex),Tr.cN ts->Tr.aO w0 (Old w0) ts ys->∃L:List (QE w0),L.map (λ x=>x.1.1)=ys/\L.map (λ x=>x.1.2)=ts
 | [],ys,_,h=>by unfold Tr.aO at h;subst h;exact⟨[],rfl,rfl⟩
 | t::ts,ys,aZ,h=>by unfold Tr.aO at h;unfold Tr.cN at aZ;obtain⟨y,ys',rfl,h1,h2⟩:=h;obtain⟨L,e1,e2⟩:=AB ts ys' aZ.2 h2;exact⟨⟨(y,t),aZ.1,h1⟩::L,by rw[map_cons,e1],by rw[map_cons,e2]⟩
def Qm(x:QE w0):Array Value:= #[.agg (ay x.1.1)]
theorem nG(h:aj w w'):w.grownBy w' none:=⟨h.os,h.tape,h.output,h.size,λ k hk _=>h.block k hk⟩
theorem ziv.Kcq(h:p:=by
 have HA_:=aa hA;clear hR hJ1 hLk fG hex h7 iR KK hA;gi_wp2;refine HR.ae.mono ?_;rintro e W3 (⟨rfl,hJ3,hk3⟩|⟨rfl,CQ⟩)
 ·rw[<- oZ.ae] at hJ3;have HJ3:=aa hJ3;have HF3:=aa ((Lw.ae.trans (Fr.below (ah wr (.cells #[ag y.op,ag y.v.k,af y.v.n,.string y.v.s,.string y.name,af y.width,.slice y.A y.n y.c,.string nm] 48)))).trans hk3);clear hJ3 hk3 HR HP;exact ZdN
 ·rw[<- oZ.ae] at CQ;have HJX:=aa CQ;clear CQ HR HP;gi_wp2;refine bodyPost_ret (results_none rfl _ _ _) rfl ?_;exact⟨⟨_,rfl⟩,.inr ⟨_,by rw[append_assoc];exact(take_prefix _ _).trans (prefix_append _ _),HJX.ae⟩⟩):p:=h
theorem ziw.Kcq(h:p:=by
 clear hR hJ1 hLk fG hex KK;gi_wp2;refine HR.ae.mono ?_;rintro e W3 (⟨rfl,hJ3,hk3⟩|⟨rfl,CQ⟩)
 ·rw[<- oZ.ae] at hJ3;have HJ3:=aa hJ3;have HF3:=aa ((Lw.ae.trans (Fr.below (ah wr (.cells (ay y) 46)))).trans hk3);clear hJ3 hk3 HR HP iB hy;exact ZdN
 ·rw[<- oZ.ae] at CQ;have HJX:=aa CQ;clear CQ HR HP iB hy;gi_wp2;refine bodyPost_ret (results_none rfl _ _ _) rfl ?_;exact⟨⟨_,rfl⟩,.inr ⟨_,((prefix_append_right_inj Li).2 (take_prefix _ _)).trans (prefix_append _ _),HJX.ae⟩⟩):p:=h
theorem zix.Kcq(h:p:=by
 clear hR hJ1 hLk fG hex h7 iR KK hA;gi_wp2;refine HR.ae.mono ?_;rintro e W3 (⟨rfl,hJ3,hk3⟩|⟨rfl,CQ⟩)
 ·rw[<- oZ.ae] at hJ3;have HJ3:=aa hJ3;have HF3:=aa ((Lw.ae.trans (Fr.below (ah wr (.cells #[ag y.op,ag y.v.k,af y.v.n,.string y.v.s,.string y.name,af y.width,.slice y.A y.n y.c,.bool nm] 117)))).trans hk3);clear hJ3 hk3 HR HP iB h72 hy;exact ZdN
 ·rw[<- oZ.ae] at CQ;have HJX:=aa CQ;clear CQ HR HP iB h72 hy;gi_wp2;refine bodyPost_ret (results_none rfl _ _ _) rfl ?_;exact⟨⟨_,rfl⟩,.inr ⟨_,(prefix_append_right_inj (Li++Lc)).2 (take_prefix _ _),HJX.ae⟩⟩):p:=h
theorem zcQ.Kax(h:p:=by
 have jI:=aa Gp;obtain⟨ft,hl2,ub⟩:=hlen;have HN:=aa (And.intro nw (And.intro ng nh));unfold eJ at k1;have q0:=k1.cell 0;have x3:=k1.cell 3;have x4:=k1.cell 4;have x5:=k1.cell 5;have x6:=k1.cell 6;simp only[Uaa] at q0 x3 x4 x5 x6;rw[ni] at q0;rw[no] at x6;have HQ:=aa (And.intro q0 (And.intro x3 (And.intro x4 (And.intro x5 x6))));clear ih q1 hF q2 q3 q4 q5 Av Tp B3 hz Nk Gp ni no nw ng nh x3 x4 x5 x6 k1;refine callsIn_of_wp Tryz.func96 rfl trivial ?_ rfl;simp only[Tryz.ntmps96,size_toArray,length_cons,length_nil,Nat.reduceAdd,Nat.reduceSub,Array.replicate_succ,Array.replicate_zero,push_toArray,append_toArray,nil_append,cons_append];gi_wp2;clear q0;gi_loopw [12] (λ i wr=>∃k:Nat,k<=zi.length/\i=af k/\J (Li.take k) wr/\Fr W wr) (λ i _=>zi.length - (intOf i).toNat);case atStart=>exact⟨0,Nat.zero_le _,rfl,h0,Fr.refl _⟩
 case round=>
  clear h0;obtain⟨k,hk,rfl,hp,hb⟩:=hrel;have HP:=aa hp;have Lw:=aa hb;clear hp hb;by_cases hlt:k < zi.length
  ·obtain⟨b,off,hA,KK,hex,h7⟩:=HF.ae.at_ hlt;obtain⟨nm,iR⟩:=IH.ae _ (getElem_mem hlt);rw[iR] at h7;have iB:=hex.fr (jI.ae.trans Lw.ae);have h72:=(jI.ae.trans Lw.ae).cell _ _ h7;have fG:k < Li.length:=by have:=congrArg List.length oz.ae;simp only[length_map] at this;omega
   have hLk:(Li[k]'fG).1.1=zi[k].1:=by have h1:=congrArg (λ l=>l[k]?) oz.ae;simp only[getElem?_map,getElem?_eq_getElem hlt,getElem?_eq_getElem fG,Option.map_some] at h1;injection h1
   have oZ:=aa (show Li.take (k+1)=Li.take k++ [Li[k]'fG] by rw[take_add_one,getElem?_eq_getElem fG];rfl);have zL:=aa (show(Li.take k).length <(Li++Lc++Lo).length by rw[length_take,length_append,length_append];omega);generalize Li[k]'fG=x at*;rw[hA];generalize zi[k].1=y at*;unfold cw at iB;have hJ1:=GI.ae _ _ (wr.alloc (.cells #[ag y.op,ag y.v.k,af y.v.n,.string y.v.s,.string y.name,af y.width,.slice y.A y.n y.c,.string nm] 48)) none HP.ae (World.grownBy_alloc wr _ none) (λ r e=>by cases e);open ziv in exact Zhz
  ·have fH:k=zi.length:=by omega
   subst fH;have aob:Li.take zi.length=Li:=take_of_length_le (by
    have:=congrArg List.length oz.ae
    simp only[length_map] at this
    omega)
   rw[aob] at HP;have Kx:=Lw.ae;have x3:=Kx.cell _ _ HQ.ae.2.1;have x4:=Kx.cell _ _ HQ.ae.2.2.1;have x5:=Kx.cell _ _ HQ.ae.2.2.2.1;have zP:=aa (Kx.cell _ _ HQ.ae.2.2.2.2);obtain⟨nw,ng,nh⟩:=HN.ae;rw[nw] at x3;rw[ng] at x4;rw[nh] at x5;clear Kx aob hlt nw ng nh;have aoc:=aa (And.intro x3 (And.intro x4 x5));gi_wp2;have G1:=aa (ah wr (.cells #[.slice L.w.A yw.length L.w.c,.slice L.g.A yg.length L.g.c,.slice L.h.A yh.length L.h.c] 23));have PA:=aa (aB.new wr 23 #[.slice L.w.A yw.length L.w.c,.slice L.g.A yg.length L.g.c,.slice L.h.A yh.length L.h.c])
   have hRL:RL (wr.alloc (.cells #[.slice L.w.A yw.length L.w.c,.slice L.g.A yg.length L.g.c,.slice L.h.A yh.length L.h.c] 23)) (wr.alloc (.cells #[.slice L.w.A yw.length L.w.c,.slice L.g.A yg.length L.g.c,.slice L.h.A yh.length L.h.c] 23)).heap.size (some ⟨wr.heap.size,0,none⟩) [⟨L.w.A,L.w.c,yw⟩,⟨L.g.A,L.g.c,yg⟩,⟨L.h.A,L.h.c,yh⟩]:=by
    refine⟨wr.heap.size,0,rfl,PA.ae.lt,λ i x hx=>?_⟩;have hb:=(jI.ae.trans Lw.ae).trans (Fr.below G1.ae)
    match i,hx with
    | 0,hx=>simp at hx;subst hx;exact⟨by rw[PA.ae.cell];rfl,(Q3.ae.fr hb).more hb.size⟩
    | 1,hx=>simp at hx;subst hx;exact⟨by rw[PA.ae.cell];rfl,(Q4.ae.fr hb).more hb.size⟩
    | 2,hx=>simp at hx;subst hx;exact⟨by rw[PA.ae.cell];rfl,(Q5.ae.fr hb).more hb.size⟩
    | i+3,hx=>simp at hx
   refine⟨trivial,(callsIn_wide.2 (uz _ 3 _ _ Tad (by simpa [lC] using ub) hRL)).mono ?_⟩;rintro e w5 ⟨v,rfl,hO,Il⟩;obtain⟨lc,hlc⟩:∃lc,lc=yw++(yg++yh):=⟨_,rfl⟩;have dR:aI bH 46 7 w5 (wr.alloc (.cells #[.slice L.w.A yw.length L.w.c,.slice L.g.A yg.length L.g.c,.slice L.h.A yh.length L.h.c] 23)).heap.size v lc:=by rw[hlc];simpa using hO
   obtain⟨CA,cc,rfl,_,hres⟩:=pI dR (S:=Old w5) (λ q k1=>(dR.lt k1).1);have HRE:=aa (show RE w5 w5.heap.size CA lc from hres);have rK:=aa (ai.then G1.ae Il);have KZ:=aa (GI.ae _ _ _ none HP.ae (nG rK.ae) (λ r e=>by cases e));have HF5:=aa (Lw.ae.trans (Fr.below rK.ae));have HQ7:=aa ((Fr.below rK.ae).cell _ _ zP.ae);have ahU:=aa (show Lc.map (λ x=>x.1.1)=lc by rw[Ai.ae,hlc,append_assoc]);have hl4:lc.length<=1000000:=by rw[hlc,<- append_assoc];exact ub
   clear hRL hO dR hres Il hlc HP Lw zP G1 PA rK x3 x4 x5 aoc;gi_wp2;gi_loopw [31] (λ i wr2=>∃k:Nat,k<=lc.length/\i=af k/\J (Li++Lc.take k) wr2/\Fr w5 wr2) (λ i _=>lc.length - (intOf i).toNat);case atStart=>exact⟨0,Nat.zero_le _,rfl,by rw[take_zero,append_nil];exact KZ.ae,Fr.refl _⟩
   case round=>
    clear KZ;obtain⟨k,hk,rfl,hp,hb⟩:=hrel;have HP:=aa hp;have Lw:=aa hb;clear hp hb;by_cases hlt:k < lc.length
    ·obtain⟨b,off,hA,KK,hex⟩:=HRE.ae.at_ hlt;have iB:=hex.fr Lw.ae;have fG:k < Lc.length:=by have:=congrArg List.length ahU.ae;simp only[length_map] at this;omega
     have hLk:(Lc[k]'fG).1.1=lc[k]:=by have h1:=congrArg (λ l=>l[k]?) ahU.ae;simp only[getElem?_map,getElem?_eq_getElem hlt,getElem?_eq_getElem fG,Option.map_some] at h1;injection h1
     have oZ:=aa (show Li++Lc.take (k+1)=(Li++Lc.take k)++ [Lc[k]'fG] by rw[take_add_one,getElem?_eq_getElem fG,append_assoc];rfl);have zL:=aa (show(Li++Lc.take k).length <(Li++Lc++Lo).length by rw[length_append,length_take,length_append,length_append];omega);generalize Lc[k]'fG=x at*;subst hA;generalize lc[k]=y at*;unfold cw at iB;have hJ1:=GI.ae _ _ (wr.alloc (.cells (ay y) 46)) none HP.ae (World.grownBy_alloc wr _ none) (λ r e=>by cases e);open ziw in exact Zhz
    ·have fH:k=lc.length:=by omega
     subst fH;have aod:Lc.take lc.length=Lc:=take_of_length_le (by
      have:=congrArg List.length ahU.ae
      simp only[length_map] at this
      omega)
     rw[aod] at HP;have x6:=Lw.ae.cell _ _ HQ7.ae;have HF0:=aa (jI.ae.trans (HF5.ae.trans Lw.ae));clear aod hlt HF5 Lw HQ7;gi_wp2;clear x6;gi_loopw [43] (λ i wr2=>∃k:Nat,k<=zo.length/\i=af k/\J (Li++Lc++Lo.take k) wr2/\Fr w0 wr2) (λ i _=>zo.length - (intOf i).toNat);case atStart=>exact⟨0,Nat.zero_le _,rfl,by rw[take_zero,append_nil];exact HP.ae,HF0.ae⟩
     case round=>
      clear HP HF0;obtain⟨k,hk,rfl,hp,hb⟩:=hrel;have HP:=aa hp;have Lw:=aa hb;clear hp hb;by_cases hlt:k < zo.length
      ·obtain⟨b,off,hA,KK,hex,h7⟩:=HFN.ae.at_ hlt;obtain⟨nm,iR⟩:=Q1.ae _ (getElem_mem hlt);rw[iR] at h7;have iB:=hex.fr Lw.ae;have h72:=Lw.ae.cell _ _ h7;have fG:k < Lo.length:=by have:=congrArg List.length E1.ae;simp only[length_map] at this;omega
       have hLk:(Lo[k]'fG).1.1=zo[k].1:=by have h1:=congrArg (λ l=>l[k]?) E1.ae;simp only[getElem?_map,getElem?_eq_getElem hlt,getElem?_eq_getElem fG,Option.map_some] at h1;injection h1
       have oZ:=aa (show Li++Lc++Lo.take (k+1)=(Li++Lc++Lo.take k)++ [Lo[k]'fG] by rw[take_add_one,getElem?_eq_getElem fG,<- append_assoc];rfl);have zL:=aa (show(Li++Lc++Lo.take k).length <(Li++Lc++Lo).length by simp only[length_append,length_take];omega);generalize Lo[k]'fG=x at*;rw[hA];generalize zo[k].1=y at*;unfold cw at iB;have hJ1:=GI.ae _ _ (wr.alloc (.cells #[ag y.op,ag y.v.k,af y.v.n,.string y.v.s,.string y.name,af y.width,.slice y.A y.n y.c,.bool nm] 117)) none HP.ae (World.grownBy_alloc wr _ none) (λ r e=>by cases e);open zix in exact Zhz
      ·have fH:k=zo.length:=by omega
       subst fH;have aoe:Lo.take zo.length=Lo:=take_of_length_le (by
        have:=congrArg List.length E1.ae
        simp only[length_map] at this
        omega)
       rw[aoe] at HP;clear aoe hlt Lw;gi_wp2;go_end0;exact⟨⟨_,rfl⟩,.inl ⟨_,rfl,HP.ae⟩⟩):p:=h
theorem acC (w0:World)(n:Nat)(hn:1<=n)(l gq:Nat)(q:Qy)(L:QL)(zi zo:List (Ex×Value))(yw yg yh:List Ex)(Li Lc Lo:List (QE w0))
  (hF:RI w0 w0.heap.size L.i.A zi) (q2:RI w0 w0.heap.size L.o.A zo) (q3:RE w0 w0.heap.size L.w.A yw) (q4:RE w0 w0.heap.size L.g.A yg) (q5:RE w0 w0.heap.size L.h.A yh)
  (ni:L.i.n=zi.length) (no:L.o.n=zo.length) (nw:L.w.n=yw.length) (ng:L.g.n=yg.length) (nh:L.h.n=yh.length)
  (Av:Li.map (λ x=>x.1.1)=zi.map (·.1)) (Tp:Lo.map (λ x=>x.1.1)=zo.map (·.1)) (B3:Lc.map (λ x=>x.1.1)=yw++yg++yh) (ih:∀z∈zi,∃s,z.2=.string s) (q1:∀z∈zo,∃s,z.2=.bool s) (hlen:zi.length<=1000000/\zo.length<=1000000/\(yw++yg++yh).length<=1000000)
  (J Jx:List (QE w0)->World->Prop) (W:World) (hz:AbidesFrom W.heap.size J)
  (Nk:∀pre x W1,J pre W1->pre.length <(Li++Lc++Lo).length->YieldAt Fence.wide (n - 1) Tryz.prog l (Qm x) W1 λ e W'=>(e=.returned (.bool true)/\J (pre++ [x]) W'/\Fr W1 W')\/(e=.returned (.bool false)/\Jx (pre++ [x]) W'))
  (k1:aB W gq 27 (eJ q L)) (Gp:Fr w0 W) (h0:J [] W):
  CallsIn Fence.wide n Tryz.prog 96 #[.func (.yield l) #[] #[],.pointer (some ⟨gq,0,none⟩)] W λ e W'=>(∃v,e=.returned v)/\((∃ys,ys=Li++Lc++Lo/\J ys W')\/(∃pre,pre <+: Li++Lc++Lo/\Jx pre W')):=by
 open zcQ in exact Zbd
end Go.Proofs.YtndgjggokjickaaGreatDoor
