/- Parts of the proof. -/
import Derived.RangeFuncNested
import Derived.RangeFuncBound
import Derived.Shelf.RegionOpen
import Derived.OwnWalkIn
import Derived.LoopNIn
import Derived.LoopIn
import Derived.Test.YtndgjggokjickaaGreatDoorXG6
namespace Go.Proofs.YtndgjggokjickaaGreatDoor
variable{p:Prop}
set_option maxHeartbeats 90000000
set_option maxRecDepth 100000
open Go.ChangeShapes Go.WideShapes Go.ChangeAt Go.RowKit List
set_option linter.unusedVariables false
set_option linter.unusedSimpArgs false
theorem EH (gx:Nat)(A:z_)(c:Nat)(args:List (Ex×Bool))(w:rQ)(hl:args.length<=1599289640356)(hA:RE w w.heap.size A (args.map (·.1)))(hE:∀a∈args,∀W,aj w W->ar 151 #[.agg (az a.1),aw gx] W λ e w'=>e=.returned (.bool a.2)/\aj W w'):
  ar 150 #[.slice A args.length c,.func (.func 151) #[] #[.pointer (some ⟨gx,0,none⟩)]] w λ e w'=>e=.returned (.int .i64 (gL (args.map (·.2))))/\aj w w':=by exact ZaL
theorem Jo (gx:Nat)(y x:Ex)(b:Bool)(w:rQ)(hg:aB w gx 46 (bD x).toArray)(h:mQ w y x b):
  ar 151 #[.agg (az y),aw gx] w λ e w'=>e=.returned (.bool b)/\aj w w':=by
 have hgx:=hg.lt;have bb:=ah w (.cells (az y) 46);have hR:=aB.new w 46 (az y);have HX:=hg.later bb;unfold bD at HX;have hs:=h _ bb;have zX:=aa bb;have HS:=aa hs;have QD:=aa hgx;clear hs h bb hg hgx;go_enter Tryz.func151,Tryz.ntmps151;go_upto_region 1 with fail;have jy:=λ i=>HX.cell i
 have ym:=λ i=>hR.cell i
 have fx:=HX.frozen;generalize World.alloc w _=W at*;obtain⟨g2,Xd⟩:∃g2,g2=w.heap.size:=⟨_,rfl⟩;rw[<- Xd] at hR ym ⊢;clear Xd hR HX;have y0:=jy 0;have y1:=jy 1;have c2:=jy 2;have y3:=jy 3;have y4:=jy 4;have y5:=jy 5;have y6:=jy 6;have b0:=ym 0;have b1:=ym 1;have b2:=ym 2;have b3:=ym 3;have b4:=ym 4;have b5:=ym 5;have b6:=ym 6;clear jy ym fx;simp only[Uaa] at y0 y1 c2 y3 y4 y5 y6 b0 b1 b2 b3 b4 b5 b6;go_wp2_with fail;refine HS.ae.mono ?_;rintro e w1 ⟨rfl,b1⟩;have hb1:=ai.then zX.ae b1;clear y0 y1 c2 y3 y4 y5 y6 b0 b1 b2 b3 b4 b5 b6;go_wp2_with fail;go_ret;exact⟨rfl,hb1⟩
variable{α:Type}
theorem om(f:α->Bool):∀l:List α,gL (l.map f)=match l.findIdx? f with | some k=>(k:Int)| none=> -1
 | []=>rfl
 | x::l=>by
   rw[map_cons,findIdx?_cons];unfold gL;by_cases h:f x=true
   ·rw[if_pos h,if_pos h];rfl
   ·rw[if_neg h,if_neg h,om f l];cases l.findIdx? f with
    | none=>rfl
    | some k=>show(if (k:Int)< 0 then(-1:Int)else(k:Int)+1)=((k+1:Nat):Int);rw[if_neg TD];rfl
theorem CQ:∀(ts:uF) (ys:u_) (x:Tr) (z:Ex) (w:rQ),Tr.cH ts->x.ok->Tr.aM w (Old w) ts ys->x.at_ w (Old w) z->∃args:List (Ex×Bool),args.map (·.1)=ys/\args.map (·.2)=ts.map (λ g=>g.same x)/\∀a∈args,mQ w a.1 z a.2
 | [],ys,x,z,w,_,_,hat,_=>by unfold Tr.aM at hat;subst hat;exact⟨[],rfl,rfl,by simp⟩
 | t::ts,ys,x,z,w,aZ,hx,hat,hz=>by
   unfold Tr.aM at hat;unfold Tr.cH at aZ;obtain⟨y,ys',rfl,h2,h3⟩:=hat;obtain⟨l,fJ,hl2,ud⟩:=CQ ts ys' x z w aZ.2 hx h3 hz;refine⟨(y,t.same x)::l,by simp[fJ],by simp[hl2],λ a ha=>?_⟩;rcases List.mem_cons.1 ha with rfl | ha
   ·exact Tr.KV t x y z w aZ.1 hx h2 hz
   ·exact ud a ha
variable{w w':rQ}{z:Ex}
theorem mQ.later{y:Ex} {b:Bool}(h:mQ w y z b)(hb:aj w w'):mQ w' y z b:=λ W hW=>h W (ai.then hb hW)
theorem lH (aF:uF)(A:z_)(n c gx:Nat)(x:Tr)(z:Ex)(w:rQ)(hl:aF.length<=1599289640356)(hG:fT w aF A n)(aZ:Tr.cH aF)(hx:x.ok)(hz:x.at_ w (Old w) z)(hg:aB w gx 46 (bD z).toArray):
  ar 150 #[.slice A n c,.func (.func 151) #[] #[.pointer (some ⟨gx,0,none⟩)]] w λ e w'=>e=.returned (.int .i64 (gL (aF.map λ g=>g.same x)))/\aj w w':=by
 obtain⟨rfl,Kx,h1,h2⟩:=hG;obtain⟨ys,a1,a2,a3⟩:=CQ aF Kx x z w aZ hx h2 hz;have G3:ys.length=aF.length:=by have:=congrArg List.length a2;simpa using this
 have k:=EH gx A c ys w TD (by rw[a1];exact h1.old) (λ a ha W hW=>Jo gx a.1 z a.2 W (hg.later hW) ((a3 a ha).later hW));rw[G3,a2] at k;exact k
theorem Tr.ind{P:Tr->Prop}(h:∀op v name width args,(∀a∈args,P a)->P (.mk op v name width args)):∀t,P t:=by
 intro t;exact Tr.rec (motive_1:=P) (motive_2:=λ ts=>∀a∈ts,P a) (λ op v name width args ih=>h op v name width args ih) (λ a ha=>by cases ha) (λ t ts h1 h2 a ha=>by
  rcases List.mem_cons.1 ha with rfl | ha
  ·exact h1
  ·exact h2 a ha) t
mutual
def Tr.nodes:Tr->Nat
 | .mk _ _ _ _ args=>Tr.aN args+1
def Tr.aN:uF->Nat
 | []=>0
 | t::ts=>t.nodes+Tr.aN ts
end
theorem gO:∀ts:uF,Tr.aN ts=(ts.map Tr.nodes).sum
 | []=>rfl
 | t::ts=>by unfold Tr.aN;rw[gO ts];rfl
theorem dO:∀ {ts:uF},Tr.cH ts↔∀t∈ts,t.ok
 | []=>by unfold Tr.cH;simp
 | t::ts=>by unfold Tr.cH;rw[dO];simp
variable{ts us:uF}
theorem my:Tr.cH (ts++us)↔Tr.cH ts/\Tr.cH us:=by
 rw[dO,dO,dO];constructor
 ·intro h;exact⟨λ t ht=>h t (List.mem_append.2 (.inl ht)),λ t ht=>h t (List.mem_append.2 (.inr ht))⟩
 ·rintro⟨h1,h2⟩ t ht;rcases List.mem_append.1 ht with h | h
  ·exact h1 t h
  ·exact h2 t h
theorem K9 (k:Nat):(ma k).ok:=by unfold ma Tr.ok;refine⟨⟨by decide,by decide⟩,by simp,by decide,by decide,by decide,?_⟩;unfold Tr.cH;trivial
theorem oq (aF:uF)(cols:List aV)(s:dp):Tr.turns aF cols [] s=.ok ([],s):=by unfold Tr.turns;rfl
theorem jT (aF:uF)(cols:List aV)(t:Tr)(ts:uF)(s:dp):Tr.turns aF cols (t::ts) s=match Tr.turn aF cols t s with
  | .error e=> .error e
  | .ok (y,s')=>match Tr.turns aF cols ts s' with
    | .error e=> .error e
    | .ok (ys,LC)=> .ok (y::ys,LC):=by
 conv=>lhs;unfold Tr.turns
 rfl
theorem yz (aF:uF)(cols:List aV):∀(l m:uF) (s:dp),Tr.turns aF cols (l++m) s=match Tr.turns aF cols l s with
  | .error e=> .error e
  | .ok (y,s')=>match Tr.turns aF cols m s' with
    | .error e=> .error e
    | .ok (ys,LC)=> .ok (y++ys,LC)
 | [],m,s=>by
   rw[nil_append,oq];dsimp only;cases Tr.turns aF cols m s with
   | error e=>rfl
   | ok x=>rfl
 | t::l,m,s=>by
   rw[cons_append,jT,jT];cases Tr.turn aF cols t s with
   | error e=>rfl
   | ok x=>
     obtain⟨y,s1⟩:=x;dsimp only;rw[yz aF cols l m s1];cases Tr.turns aF cols l s1 with
     | error e=>rfl
     | ok x=>
       obtain⟨ys,s2⟩:=x;dsimp only;cases Tr.turns aF cols m s2 with
       | error e=>rfl
       | ok x=>rfl
theorem Wl (aF:uF)(cols:List aV)(t:Tr)(s:dp):Tr.turns aF cols [t] s=match Tr.turn aF cols t s with
  | .error e=> .error e
  | .ok (y,s')=> .ok ([y],s'):=by
 rw[jT]
 cases Tr.turn aF cols t s with
 | error e=>rfl
 | ok x=>obtain⟨y,s1⟩:=x;dsimp only;rw[oq]
variable{t:Tr}{s s1 s2:dp}
theorem QF{aF:uF} {cols:List aV} {l:uF} {y:Tr}  {ys:uF}(h:Tr.turns aF cols l s=.ok (ys,s1))(k:Tr.turn aF cols t s1=.ok (y,s2)):Tr.turns aF cols (l++ [t]) s=.ok (ys++ [y],s2):=by rw[yz,h];dsimp only;rw[Wl,k]
variable{m:uF}
theorem QG{aF:uF} {cols:List aV} {l:uF}   {ys:uF} {e:Int}(h:Tr.turns aF cols l s=.ok (ys,s1))(k:Tr.turn aF cols t s1=.error e):Tr.turns aF cols (l++t::m) s=.error e:=by rw[yz,h];dsimp only;rw[jT,k]
theorem sR{aF:uF} {cols:List aV}:∀ {l:uF} {s s1:dp} {ys:uF},Tr.turns aF cols l s=.ok (ys,s1)->ys.length=l.length
 | [],s,s1,ys,h=>by rw[oq] at h;injection h with h;injection h with h1 h2;rw[<- h1]
 | t::l,s,s1,ys,h=>by
   rw[jT] at h;split at h
   ·cases h
   ·split at h
    ·cases h
    ·rename_i h2;injection h with h;injection h with h3 h4;rw[<- h3,length_cons,sR h2];rfl
theorem sS (aF:uF)(cols:List aV)(op:Int)(v:Val)(name:t_)(width:Int)(args:uF)(s:dp):Tr.turn aF cols (.mk op v name width args) s=match aF.findIdx? (λ g=>g.same (.mk op v name width args))with
  | some k=> .ok (ma k,s)
  | none=>
    if isAgg op=true then
     if (fZ cols op args).2≠0 then .error (fZ cols op args).2
     else .ok (ma s.aF.length,⟨s.aD++ [.mk op v name width args],s.aF++ [⟨di s.aF.length,(fZ cols op args).1⟩]⟩)
    else match Tr.turns aF cols args s with
     | .error e=> .error e
     | .ok (ys,s')=>
       if op=2 then .error (qT cols v name width ys.length)
       else if ((Tr.mk op v name width ys).type s'.aF).2≠0 then .error ((Tr.mk op v name width ys).type s'.aF).2
       else .ok (.mk op v name width ys,s'):=by
 conv=>lhs;unfold Tr.turn
 rfl
theorem L0 (cols:List aV)(v:Val)(name:t_)(width:Int)(n:Nat):qT cols v name width n≠0:=by
 unfold qT;dsimp only;split
 ·assumption
 ·decide
structure Gn (t:Tr) (s:dp) (r:tE (Tr×dp)):Prop where
 err:∀e,r=.error e->e≠0
 ok:∀y s',r=.ok (y,s')->t.ok->y.ok
 len:∀y s',r=.ok (y,s')->s'.aF.length+s'.aD.length<=s.aF.length+s.aD.length+2*t.nodes
 aok:∀y s',r=.ok (y,s')->t.ok->Tr.cH s.aD->Tr.cH s'.aD
structure pE (ts:uF) (s:dp) (r:tE (uF×dp)):Prop where
 err:∀e,r=.error e->e≠0
 ok:∀y s',r=.ok (y,s')->Tr.cH ts->Tr.cH y
 len:∀y s',r=.ok (y,s')->s'.aF.length+s'.aD.length<=s.aF.length+s.aD.length+2*Tr.aN ts
 aok:∀y s',r=.ok (y,s')->Tr.cH ts->Tr.cH s.aD->Tr.cH s'.aD
theorem kH{aF:uF} {cols:List aV}:∀ {ts:uF},(∀t∈ts,∀s,Gn t s (Tr.turn aF cols t s))->∀s,pE ts s (Tr.turns aF cols ts s)
 | [],_,s=>by rw[oq];exact⟨λ e h=> Tac,λ y s' h _=>by injection h with h;injection h with h1 h2;rw[<- h1];unfold Tr.cH;trivial,λ y s' h=>by injection h with h;injection h with h1 h2;rw[<- h2];omega,λ y s' h _ ha=>by injection h with h;injection h with h1 h2;rw[<- h2];exact ha⟩
 | t::ts,H,s=>by
   have h1:=H t Taa s;rw[jT];cases hr:Tr.turn aF cols t s with
   | error e=>rw[hr] at h1;exact⟨λ e' h=>by injection h with h;rw[<- h];exact h1.err _ rfl,λ y s' h=> Tac,λ y s' h=> Tac,λ y s' h=> Tac⟩
   | ok x=>
     obtain⟨y1,s1⟩:=x;rw[hr] at h1;have h2:=kH (λ t ht=>H t (mem_cons_of_mem _ ht)) s1;dsimp only;cases hq:Tr.turns aF cols ts s1 with
     | error e=>rw[hq] at h2;exact⟨λ e' h=>by injection h with h;rw[<- h];exact h2.err _ rfl,λ y s' h=> Tac,λ y s' h=> Tac,λ y s' h=> Tac⟩
     | ok x=>
       obtain⟨ys,s2⟩:=x;rw[hq] at h2;have l1:=h1.len _ _ rfl;have l2:=h2.len _ _ rfl;refine⟨λ e' h=> Tac,λ y s' h aZ=>?_,λ y s' h=>?_,λ y s' h aZ ha=>?_⟩
       ·injection h with h;injection h with e1 e2;rw[<- e1];unfold Tr.cH at aZ ⊢;exact⟨h1.ok _ _ rfl aZ.1,h2.ok _ _ rfl aZ.2⟩
       ·injection h with h;injection h with e1 e2;rw[<- e2];have:Tr.aN (t::ts)=t.nodes+Tr.aN ts:=by rw[Tr.aN]
        omega
       ·injection h with h;injection h with e1 e2;rw[<- e2];unfold Tr.cH at aZ;exact h2.aok _ _ rfl aZ.2 (h1.aok _ _ rfl aZ.1 ha)
theorem iT (aF:uF)(cols:List aV):∀(t:Tr) (s:dp),Gn t s (Tr.turn aF cols t s):=by
 refine Tr.ind ?_;intro op v name width args ih s;rw[sS];have hn:(Tr.mk op v name width args).nodes=Tr.aN args+1:=by rw[Tr.nodes]
 cases hf:aF.findIdx? (λ g=>g.same (.mk op v name width args))with
 | some k=>dsimp only;exact⟨λ e h=> Tac,λ y s' h _=>by injection h with h;injection h with h1 h2;rw[<- h1];exact K9 k,λ y s' h=>by injection h with h;injection h with h1 h2;rw[<- h2];omega,λ y s' h _ ha=>by injection h with h;injection h with h1 h2;rw[<- h2];exact ha⟩
 | none=>
   dsimp only;by_cases ha:isAgg op=true
   ·rw[if_pos ha];by_cases ht:(fZ cols op args).2≠0
    ·rw[if_pos ht];exact⟨λ e h=>by injection h with h;rw[<- h];exact ht,λ y s' h=> Tac,λ y s' h=> Tac,λ y s' h=> Tac⟩
    ·rw[if_neg ht];refine⟨λ e h=> Tac,λ y s' h aZ=>?_,λ y s' h=>?_,λ y s' h aZ hao=>?_⟩
     ·injection h with h;injection h with h1 h2;rw[<- h1];exact K9 _
     ·injection h with h;injection h with h1 h2;rw[<- h2];simp only[length_append,length_singleton];omega
     ·injection h with h;injection h with h1 h2;rw[<- h2,my];refine⟨hao,?_⟩;unfold Tr.cH;refine⟨aZ,?_⟩;unfold Tr.cH;trivial
   ·rw[if_neg ha];have h2:=kH ih s
    cases hq:Tr.turns aF cols args s with
    | error e=>rw[hq] at h2;exact⟨λ e' h=>by injection h with h;rw[<- h];exact h2.err _ rfl,λ y s' h=> Tac,λ y s' h=> Tac,λ y s' h=> Tac⟩
    | ok x=>
      obtain⟨ys,s1⟩:=x;rw[hq] at h2;have hl:=sR hq;have l2:=h2.len _ _ rfl;dsimp only;by_cases ho:op=2
      ·rw[if_pos ho];exact⟨λ e' h=>by injection h with h;rw[<- h];exact L0 _ _ _ _ _,λ y s' h=> Tac,λ y s' h=> Tac,λ y s' h=> Tac⟩
      ·rw[if_neg ho];by_cases ht:((Tr.mk op v name width ys).type s1.aF).2≠0
       ·rw[if_pos ht];exact⟨λ e' h=>by injection h with h;rw[<- h];exact ht,λ y s' h=> Tac,λ y s' h=> Tac,λ y s' h=> Tac⟩
       ·rw[if_neg ht];refine⟨λ e' h=> Tac,λ y s' h aZ=>?_,λ y s' h=>?_,λ y s' h aZ hao=>?_⟩
        ·injection h with h;injection h with h1 h3;rw[<- h1];unfold Tr.ok at aZ ⊢;exact⟨aZ.1,by rw[hl];exact aZ.2.1,aZ.2.2.1,aZ.2.2.2.1,aZ.2.2.2.2.1,h2.ok _ _ rfl aZ.2.2.2.2.2⟩
        ·injection h with h;injection h with h1 h3;rw[<- h3];omega
        ·injection h with h;injection h with h1 h3;rw[<- h3];unfold Tr.ok at aZ;exact h2.aok _ _ rfl aZ.2.2.2.2.2 hao
variable{q B:Nat}
theorem yB(h:w.grownBy w' (some q))(hB:B<=w.heap.size)(hq:B<=q):Below B w w':=
 ⟨h.os,h.tape,h.output,h.size,λ k hk=>h.block k TD λ e=>by injection e with e;omega⟩
variable{u v:Value}
theorem Mv.later(h:Mv w' u v)(hs:w.heap.size<=w'.heap.size):Mv w u v:=by
 rcases h with h | h
 ·exact .inl h
 ·exact .inr λ q hq=>Nat.le_trans hs (h q hq)
variable{f:α->wL}{e:TypeId}{lv:Value}{l:List α}{P:Program}
theorem zdm.KaG(h:p:=by refine⟨v',w',hr,ho,ha,?_⟩;exact ZfA):p:=h
theorem eY{size:Nat} {base:Nat}   {y:α}  (t ty:TypeId)(z:Value)(bytes:Nat)(ht:P.underlying t=some (.slice e))(jB:(P.info? e).map (λ i=>(i.zero,i.size,i.bytes))=some (some z,size,bytes))(hzs:z.cells.size=size)(hsz:0 < size)
  (hf:∀x,(f x).length=size) (h1:∀u∈f y,u.oneCell'=true) (hown:aH f e size w base lv l)
  (g0:Nat) (hg0:aB w g0 e (f y).toArray) (hlen:(l.length+1)*bytes<=140737488355328) (mL:l.length+1<=140737488355328) (hbase:base<=w.heap.size):
  ∃v' w',(Builtin.append_ #[t,t] ty #[lv,aL g0 1 1]).run P w=.ok v' w'/\aH f e size w' base v' (l++ [y])/\AR f e size base lv l y w w'/\Mv w lv v':=by
 open zdm in exact Zbz
structure PC where
 q0:Value
 q1:Value
 q2:Value
 q3:Value
 q5:Value
 q6:Value
 q7:Value
 gA:z_
 gn:Nat
 gc:Nat
 cA:z_
 cc:Nat
 aI:Bool
 aF:uF
 cols:List aV
structure Rest where
 h:Value
 i:Value
 j:Value
 o:Value
def PC.cells (c:PC)(r:Rest)(u v:Value):x_:= #[c.q0,c.q1,c.q2,c.q3,.slice c.gA c.gn c.gc,c.q5,c.q6,c.q7,.slice c.cA c.cols.length c.cc,u,v,.bool c.aI,r.h,r.i,r.j,r.o]
structure PC.Ok (c:PC) (w0:rQ):Prop where
 env:xI w0
 aF:fT w0 c.aF c.gA c.gn
 gok:Tr.cH c.aF
 gl:c.aF.length<=1000000
 cols:RC w0 w0.heap.size c.cA c.cols
 cl:c.cols.length<=1000000
structure eQ (c:PC) (w0:rQ) (gp:Nat) (r:Rest) (w:rQ) (u v:Value) (ya:u_) (s:dp):Prop where
 low:w0.heap.size<=gp
 base:aj w0 w
 blk:aB w gp 81 (c.cells r u v)
 kY:aH bD 46 7 w w0.heap.size u ya
 dL:aH aR 113 2 w w0.heap.size v s.aF
 aD:Tr.aM w0 (Old w0) s.aD ya
section
variable {c:PC} {w0 w w':rQ} {gp:Nat} {r:Rest} {u v:Value} {ya:u_} {s:dp}
theorem eQ.later (h:eQ c w0 gp r w u v ya s)(hb:aj w w'):eQ c w0 gp r w' u v ya s:=
 ⟨h.low,Below.trans h.base (hb.mono h.base.size),h.blk.later hb,h.kY.later hb,h.dL.later hb,h.aD⟩
theorem eQ.kp9 (h:eQ c w0 gp r w u v ya s):∀q,u.ownBlock=some q->w0.heap.size<=q:=λ q hq=>(h.kY.lt hq).2.1
theorem eQ.avC (h:eQ c w0 gp r w u v ya s):∀q,v.ownBlock=some q->w0.heap.size<=q:=λ q hq=>(h.dL.lt hq).2.1
theorem eQ.fresh (h:eQ c w0 gp r w u v ya s) {w2:rQ} {g:Nat}(hg:w.heap.size<=g)(hg2:g < w2.heap.size):Kp w2 gp [u,v] g:=
 eC.2 ⟨hg2,by have:=h.blk.lt;omega,λ e=>by have:=(h.kY.lt e).1;omega,λ e=>by have:=(h.dL.lt e).1;omega⟩
theorem eQ.aside (h:eQ c w0 gp r w u v ya s) {q:Nat}(hg:w.grownBy w' (some q))(hq:Kp w gp [u,v] q)(hl:w0.heap.size<=q):eQ c w0 gp r w' u v ya s:=by rw[eC] at hq;exact⟨h.low,Below.trans h.base (yB hg h.base.size hl),h.blk.grown hg (λ e=>by injection e with e;exact hq.2.1 e.symm),h.kY.grown hg hq.2.2.1,h.dL.grown hg hq.2.2.2,h.aD⟩
end
def rG (c:PC)(w0:rQ)(gp:Nat)(r:Rest)(u v:Value)(w:rQ)(x:tE (Tr×dp))(e:Ending)(w':rQ):Prop:=
 match x with
 | .error er=>∃(y:Ex) (u' v':Value),e=.returned (.tuple #[.agg (az y),af er])/\ik gp w u v w' u' v'
 | .ok (t,s)=>∃y u' v' ya,e=.returned (.tuple #[.agg (az y),af 0])/\t.at_ w' (λ b=>w.heap.size<=b/\Kp w' gp [u',v'] b) y/\eQ c w0 gp r w' u' v' ya s/\ik gp w u v w' u' v'
def L1 (c:PC)(w0:rQ)(gp:Nat)(r:Rest)(t:Tr):Prop:=∀(z:Ex) (s:dp) (u v:Value) (ya:u_) (w:rQ),t.ok->t.at_ w0 (Old w0) z->eQ c w0 gp r w u v ya s->s.aF.length+s.aD.length+2*t.nodes<=1000000->
 ar 99 #[aw gp,.agg (az z)] w (rG c w0 gp r u v w (t.turn c.aF c.cols s))
theorem BZ (k:Nat)(w:rQ)(S:Nat->Prop):(ma k).at_ w S (Lu k):=by unfold ma Tr.at_ Lu;exact Zhe
theorem zbA.Kal(h:p:=by
 refine bodyPost_ret (v:=.tuple #[.agg #[ag 2,ag 0,af 0,au,.string nm,af 0,ay],af 0]) Taf rfl ?_;refine⟨⟨2,⟨0,0,⟨#[]⟩⟩,nm,0,none,0,0⟩,u,v,ya,rfl,by rw[Th.ae];exact BZ k _ _,?_,?_⟩
 ·exact pF.ae.later hb9
 ·exact(ik.refl gp w u v).later hb9):p:=h
theorem zcm.Kav(h:p:=by
 have Qq:=aa ME;obtain⟨nm,jb⟩:∃nm,nm=di k:=⟨_,rfl⟩;rw[<- jb];have Th:=aa jb;clear jb ME;go_wp2_with fail;clear y0 y1 c2 y3 y4 y5 y6 Gp;generalize uD:World.setCell _ _ _=W9;have hR:aB W9 g4 46 #[ag 2,ag 0,af 0,au,.string nm,af 0,ay]:=by rw[<- uD];simpa using(((((((Qq.ae.aT 0 _).aT 1 _).aT 2 _).aT 3 _).aT 4 _).aT 5 _).aT 6 _)
 have hb9:aj w W9:=by rw[<- uD];exact((((((((tz.ae).setCell (p:=⟨g4,0,none⟩) mH.ae _).setCell (p:=⟨g4,1,none⟩) mH.ae _).setCell (p:=⟨g4,2,none⟩) mH.ae _).setCell (p:=⟨g4,3,none⟩) mH.ae _).setCell (p:=⟨g4,4,none⟩) mH.ae _).setCell (p:=⟨g4,5,none⟩) mH.ae _).setCell (p:=⟨g4,6,none⟩) mH.ae _)
 open zbA in exact ZaA):p:=h
theorem za0.Kae(h:p:=by have OQ:=oZ k TD TD;have eX:=aa hb1;have CT:=aa (sQ.ae.later hb1);have ME:=tx.ae.later hb1;have avD:=aa (je.ae.env.later CT.ae.base);clear c4 c8 c10 hb1 Ej hf;go_wp2_with fail;refine(OQ w1 avD.ae).mono ?_;rintro e w2 ⟨rfl,hb2⟩;have tz:=aa (ai.then zX.ae (ai.then eX.ae hb2));have uC:=aa (CT.ae.later hb2);replace ME:=ME.later hb2;have hz4:=ME.lt;clear hb2 OQ;unfold mD Lu;have Gp:=ME.frozen;open zcm in exact Za4):p:=h
theorem QH (c:PC)(w0:rQ)(gp:Nat)(r:Rest)(t:Tr)(z:Ex)(s:dp)(u v:Value)(ya:u_)(w:rQ)(k:Nat)(hf:c.aF.findIdx? (λ g=>g.same t)=some k)(aZ:c.Ok w0)(gP:t.ok)(hat:t.at_ w0 (Old w0) z)(nr:eQ c w0 gp r w u v ya s):
  ar 99 #[aw gp,.agg (az z)] w (rG c w0 gp r u v w (.ok (ma k,s))):=by
 have tH:k < c.aF.length:=by obtain⟨h,_⟩:=List.findIdx?_eq_some_iff_getElem.1 hf;exact h
 have ua:k<=1000000:=by have:=aZ.gl;omega
 open za0 in exact Zaq
theorem zbB.Kal(h:p:=by refine bodyPost_ret (v:=.tuple #[.agg dt,af er]) Taf rfl ?_;exact⟨⟨0,⟨0,0,⟨#[]⟩⟩,⟨#[]⟩,0,none,0,0⟩,u,v,rfl,(ik.refl gp w u v).later hb9⟩):p:=h
theorem zeM.Ka6(h:p:=by
 have hb9:aj w W9:=by rw[<- uD];exact((((((((tz.ae).setCell (p:=⟨g4,0,none⟩) mH.ae _).setCell (p:=⟨g4,1,none⟩) mH.ae _).setCell (p:=⟨g4,2,none⟩) mH.ae _).setCell (p:=⟨g4,3,none⟩) mH.ae _).setCell (p:=⟨g4,4,none⟩) mH.ae _).setCell (p:=⟨g4,5,none⟩) mH.ae _).setCell (p:=⟨g4,6,none⟩) mH.ae _)
 open zbB in exact ZaA):p:=h
theorem zgv.KbL(h:p:=by have Qq:=aa ME;clear ME;open zeM in exact ZcF):p:=h
theorem zck.Kau(h:p:=by
 have t1:(er != 0)=true:=by simp[her]
 have Gp:=ME.frozen;open zgv in exact Zes):p:=h
theorem za1.Kae(h:p:=by open zck in exact Za3):p:=h
theorem Jq (c:PC)(w0:rQ)(gp:Nat)(r:Rest)(t:Tr)(z:Ex)(s:dp)(u v:Value)(ya:u_)(w:rQ)(hf:c.aF.findIdx? (λ g=>g.same t)=none)(ha:isAgg t.op=true)(ty er:Int)(ht:fZ c.cols t.op t.args=(ty,er))(her:er≠0)(aZ:c.Ok w0)(gP:t.ok)(hat:t.at_ w0 (Old w0) z)(nr:eQ c w0 gp r w u v ya s):
  ar 99 #[aw gp,.agg (az z)] w (rG c w0 gp r u v w (.error er)):=by
 open za1 in exact Zaq
theorem wH(w:rQ)(g q:Nat)(t ty:TypeId)(cur cells:x_)(hg:w.heap[g]?=some (.cells cur t (0,0)))(hi:(P.info? ty).map (·.size)=some cells.size)
  (pC:q+cells.size<=cur.size) (h1:cells.all (·.oneCell')=true):
  (storeVar ty ⟨g,q,none⟩ (.agg cells)).run P w=.ok () (w.setRow g (cur.toList.take q++cells.toList++cur.toList.drop (q+cells.size)).toArray):=by
 have:=run_storeCells_at P g q t cells.toList 0 cur w hg (by simpa using pC) (λ v hv=>(Array.all_eq_true_iff_forall_mem.1 h1) v (by simpa using hv));simp only[Nat.add_zero,Array.length_toList] at this
 cases hq:P.info? ty with
 | none=>simp[hq] at hi
 | some i=>
   have hs:cells.size=i.size:=by simp[hq] at hi;omega
   simp[storeVar,sizeOf,typeInfo,hq,Value.cells,hs] at this ⊢;rw[this]
theorem aH.block{size base:Nat}   (h:aH f e size w base v l)(hne:l≠ []):∃g c,v=aL g l.length c/\base<=g/\g < w.heap.size:=by
 rcases h.2 with ⟨_,h0⟩|⟨g,cap,cur,rfl,hb,hg,_⟩
 ·exact absurd (eq_nil_of_length_eq_zero h0) hne
 ·exact⟨g,cap,rfl,hb,(h.lt rfl).1⟩
theorem Gq{size:Nat}(hf:∀x,(f x).length=size):∀m:List α,(m.flatMap f).length=m.length*size:=by
 intro m
 induction m with
 | nil=>simp
 | cons x m ih=>rw[flatMap_cons,length_append,hf,ih,length_cons,Nat.add_mul,Nat.one_mul];omega
theorem MF{size:Nat}(hf:∀x,(f x).length=size)(y:α):∀(l:List α) (i:Nat),i < l.length->(l.set i y).flatMap f=(l.flatMap f).take (i*size)++f y++(l.flatMap f).drop (i*size+size):=by
 intro l
 induction l with
 | nil=>intro i hi;simp at hi
 | cons x l ih=>
   intro i hi
   cases i with
   | zero=>simp only[set_cons_zero,flatMap_cons,Nat.zero_mul,take_zero,nil_append,Nat.zero_add];rw[drop_append_of_le_length (by rw[hf];exact Nat.le_refl _),<- hf x,drop_length,nil_append]
   | succ i=>
     simp only[set_cons_succ,flatMap_cons];rw[ih i TaC];have e1:(i+1)*size=(f x).length+i*size:=by rw[hf,Nat.add_mul,Nat.one_mul];omega
     rw[e1,take_length_add_append,Nat.add_assoc,drop_length_add_append];simp[append_assoc]
variable{ops:Array Oper}{rest:List Oper}{a:Act}{Q:yD}
theorem zeo.KaX(h:p:=by
 unfold Oper.wp execOp;simp only[ho,hp,hx,Instr.storeAt,Instr.sureAddr,Sem.run_bind,Sem.run_pure,Result.andThen_ok,hrun];refine hK _ _ (h _ ⟨?_,.inr ⟨q,c,_,?_,hb,setRow_heap w q cur _ e (0,0) hg,?_,hm,?_,?_⟩⟩ ⟨rfl,rfl,rfl,by simp[World.setRow],λ k hk hne=>setRow_other w q k _ (λ e=>hne Tbd)⟩)
 ·rw[Gq hf]
 ·rw[e2,length_set]
 ·rw[length_set];exact hn
 ·rw[<- hs];simp[hf];omega
 ·exact ZbB):p:=h
theorem ot{size base:Nat}   {y:α}    {o:Oper}  (hgd:o.guard=none)(ty:TypeId)(p x:Operand)(ho:o.op=.store ty p x)
  (q n c i:Nat) (hf:∀x,(f x).length=size) (hown:aH f e size w base (aL q n c) l) (rW:i < l.length) (hp:a.eval p=bc q (i*size)) (hx:a.eval x=.agg (f y).toArray)
  (hi:(P.info? ty).map (·.size)=some size) (h1:(f y).toArray.all (·.oneCell')=true)
  (h:∀w',aH f e size w' base (aL q n c) (l.set i y)->w.grownBy w' (some q)->wpList P ops Q rest (a.put o.dst undef) w'):wpList P ops Q (o::rest) a w:=by
 refine wpList_plain hgd λ K hK=>?_
 rcases hown.2 with ⟨hv,_⟩|⟨g,cap,cur,hv,hb,hg,hn,hm,hs,ht⟩
 ·cases hv
 ·open zeo in exact Zck
theorem wI{size base:Nat}   {z y:α}    {o:Oper}  (hgd:o.guard=none)(ty:TypeId)(p x:Operand)(ho:o.op=.store ty p x)
  (q n c:Nat) (hf:∀x,(f x).length=size) (hown:aH f e size w base (aL q n c) (l++ [z])) (hp:a.eval p=bc q (l.length*size)) (hx:a.eval x=.agg (f y).toArray)
  (hi:(P.info? ty).map (·.size)=some size) (h1:(f y).toArray.all (·.oneCell')=true)
  (h:∀w',aH f e size w' base (aL q n c) (l++ [y])->w.grownBy w' (some q)->wpList P ops Q rest (a.put o.dst undef) w'):wpList P ops Q (o::rest) a w:=by
 refine ot hgd ty p x ho q n c l.length hf hown Taa hp hx hi h1 λ w' h1 h2=>h w' ?_ h2
 exact ZgI
section
variable {c:PC} {w0 w w':rQ} {gp:Nat} {r:Rest} {u v u' v':Value} {ya:u_} {s:dp}
theorem eQ.aoJ (h:eQ c w0 gp r w u v ya s)(hg:w.grownBy w' u.ownBlock):aj w0 w':=
 Below.trans h.base (bj h.kY hg h.base.size)
theorem eQ.agh (h:eQ c w0 gp r w u v ya s)(hg:w.grownBy w' v.ownBlock):aj w0 w':=
 Below.trans h.base (bj h.dL hg h.base.size)
theorem dC {α:Type} {f:α->wL} {e:TypeId} {size base:Nat} {l:List α} {x:Value} {q:Nat} {t:TypeId} {cs:x_}(hq:aB w q t cs)(h:aH f e size w base x l)(ht:t≠e)(hg:w.grownBy w' x.ownBlock):aB w' q t cs:=hq.grown hg λ e=>h.other hq ht e.symm
theorem eQ.aoK (h:eQ c w0 gp r w u v ya s) {t:Tr} {z:Ex}(ho:aH bD 46 7 w' w0.heap.size u' (ya++ [z]))(hg:w.grownBy w' u.ownBlock)(ht:t.at_ w0 (Old w0) z):
  eQ c w0 gp r (w'.setCell ⟨gp,9,none⟩ u') u' v (ya++ [z]) ⟨s.aD++ [t],s.aF⟩:=by
 have hb:=dC h.blk h.kY V0 hg;refine⟨h.low,(h.aoJ hg).setCell h.low _,hb.aT 9 u',ho.keep λ g hg2=>?_,(h.dL.past h.kY V0 hg).keep λ g hg2=>?_,Tr.all_append h.aD (Tr.eG ht)⟩
 ·exact Below.heap_setCell w' ⟨gp,9,none⟩ u' g λ e=>ho.other hb V0 Taj
 ·exact Below.heap_setCell w' ⟨gp,9,none⟩ u' g λ e=>(h.dL.past h.kY V0 hg).other hb V0 Taj
theorem eQ.QI (h:eQ c w0 gp r w u v ya s) {x:aV}(ho:aH aR 113 2 w' w0.heap.size v' (s.aF++ [x]))(hg:w.grownBy w' v.ownBlock):
  eQ c w0 gp r (w'.setCell ⟨gp,10,none⟩ v') u v' ya ⟨s.aD,s.aF++ [x]⟩:=by
 have hb:=dC h.blk h.dL V0 hg;refine⟨h.low,(h.agh hg).setCell h.low _,hb.aT 10 v',(h.kY.past h.dL V0 hg).keep λ g hg2=>?_,ho.keep λ g hg2=>?_,h.aD⟩
 ·exact Below.heap_setCell w' ⟨gp,10,none⟩ v' g λ e=>(h.kY.past h.dL V0 hg).other hb V0 Taj
 ·exact Below.heap_setCell w' ⟨gp,10,none⟩ v' g λ e=>ho.other hb V0 Taj
theorem ik.aoL (hg:w.grownBy w' u.ownBlock)(hm:Mv w u u')(x:Value)(i:Nat):ik gp w u v (w'.setCell ⟨gp,i,none⟩ x) u' v:=
 ⟨hg.os,hg.tape,hg.output,by rw[World.size_setCell];exact hg.size,λ k hk=>(Below.heap_setCell w' ⟨gp,i,none⟩ x k (eC.1 hk).2.1).trans (hg.block k hk.1 λ e=>(eC.1 hk).2.2.1 e.symm),hm,.inl rfl⟩
theorem ik.L3 (hg:w.grownBy w' v.ownBlock)(hm:Mv w v v')(x:Value)(i:Nat):ik gp w u v (w'.setCell ⟨gp,i,none⟩ x) u v':=
 ⟨hg.os,hg.tape,hg.output,by rw[World.size_setCell];exact hg.size,λ k hk=>(Below.heap_setCell w' ⟨gp,i,none⟩ x k (eC.1 hk).2.1).trans (hg.block k hk.1 λ e=>(eC.1 hk).2.2.2 e.symm),.inl rfl,hm⟩
theorem ik.in9 {q:Nat}(hg:w.grownBy w' (some q))(hq:u.ownBlock=some q):ik gp w u v w' u v:=
 ⟨hg.os,hg.tape,hg.output,hg.size,λ k hk=>hg.block k hk.1 λ e=>(eC.1 hk).2.2.1 (hq.trans e.symm),.inl rfl,.inl rfl⟩
end
def aiO (gp B:Nat)(w1:rQ)(u:Value)(l:u_)(z:Ex):Nat->rQ->Value->Prop
 | 0,_,v=>v=aw gp
 | 1,_,v=>v=aw gp
 | 2,_,v=>v=aw gp
 | 3,_,v=>v=bc gp 9
 | 4,_,v=>v=u
 | 5,_,v=>v=.agg (az z)
 | 6,w,v=>∃q:Nat,v=aL q 1 1/\aB w q 46 (bD z).toArray/\u.ownBlock≠some q
 | 7,w,v=>∃q:Value,v=q/\aH bD 46 7 w B q (l++ [z])/\Mv w1 u q
 | 8,_,v=>v=aw gp
 | 9,_,v=>v=bc gp 9
 | _,_,_=>False
theorem QJ (gp B:Nat)(w1:rQ)(u:Value)(l:u_)(z:Ex):∀i w w' v,aiO gp B w1 u l z i w v->AR bD 46 7 B u l z w w'->aiO gp B w1 u l z i w' v:=by
 intro i w w' v h hl
 match i with
 | 0 | 1 | 2 | 3 | 4 | 5 | 8 | 9=>exact h
 | 6=>exact Zer
 | 7=>exact ZfB
 | n+10=>exact h
def adj (gp g9 B:Nat)(w1:rQ)(vv:Value)(l:List aV)(nm:t_)(ty:Int):Nat->rQ->Value->Prop
 | 0,_,v=>v=aw gp
 | 1,_,v=>v=aw gp
 | 2,_,v=>v=aw gp
 | 3,_,v=>v=bc gp 10
 | 4,_,v=>v=vv
 | 5,_,v=>v=bc g9 4
 | 6,_,v=>v=.string nm
 | 7,_,v=>v=ag ty
 | 8,_,v=>v=.agg #[.string nm,ag ty]
 | 9,w,v=>∃q:Nat,v=aL q 1 1/\aB w q 113 (aR ⟨nm,ty⟩).toArray/\vv.ownBlock≠some q
 | 10,w,v=>∃q:Value,v=q/\aH aR 113 2 w B q (l++ [⟨nm,ty⟩])/\Mv w1 vv q
 | 11,_,v=>v=aw gp
 | 12,_,v=>v=bc gp 10
 | _,_,_=>False
theorem CV (gp g9 B:Nat)(w1:rQ)(vv:Value)(l:List aV)(nm:t_)(ty:Int):∀i w w' x,adj gp g9 B w1 vv l nm ty i w x->AR aR 113 2 B vv l ⟨nm,ty⟩ w w'->adj gp g9 B w1 vv l nm ty i w' x:=by
 intro i w w' x h hl
 match i with
 | 0 | 1 | 2 | 3 | 4 | 5 | 6 | 7 | 8 | 11 | 12=>exact h
 | 9=>exact Zer
 | 10=>exact ZfB
 | n+13=>exact h
def wJ:Ex:=⟨0,⟨0,0,⟨#[]⟩⟩,⟨#[]⟩,0,none,0,0⟩
theorem zcl.Kau(h:p:=by
 have hy6:=ME;have Cw:=aa ME;clear ME hy6 ht;obtain⟨UA,uc,hu,_⟩:=MD.ae.kY.reads;obtain⟨VA,vc,hv,_⟩:=MD.ae.dL.reads;have Nm:=aa (show ya.length=s.aD.length from MD.ae.aD.length);subst hu hv;go_wp2_with fail;go_region
 ·generalize hW8:World.drew _=W8;have b7:aj w3 W8:=by rw[<- hW8];exact((Below.refl _ _).alloc (Nat.le_refl _) _).drew
  clear hW8;have pG:=aa (MD.ae.later b7);have MT:=aa (Ei.ae.later b7);have MU:=aa (Cw.ae.later b7);have Gr:=aa (ai.then tz.ae b7);clear b7 MD Ei Cw tz;have hk3:=pF.ae.fresh (w2:=W8) Jp.ae MT.ae.lt;have hk4:=pF.ae.fresh (w2:=W8) mH.ae MU.ae.lt;have Ed:=aa (eC.1 hk3);have CW:=aa (eC.1 hk4);clear hk3 hk4;go_wp2_with fail;refine fL _ _ (take_append_drop 10 _).symm (AR bD 46 7 w0.heap.size (Value.slice UA ya.length uc) ya z) AR.refl (λ _ _ _=>AR.trans) AR.drew (aiO gp w0.heap.size W8 (Value.slice UA ya.length uc) ya z) (λ i w w' x h hr=>QJ _ _ _ _ _ _ _ _ _ _ h hr) WC WC WC ?_ ?_
  ·simp only[take_succ_cons,take_zero];refine⟨ZaQ,ZaQ,ZaQ,ZdX,?_,?_,?_,?_,ZaQ,ZdX,trivial⟩
   ·intro ρ w3 hc hL hr;have h0:_=_:=hr.1;have kj:=dC pG.ae.blk pG.ae.kY V0 hL.grown;unfold PC.cells at kj;have c9:=kj.cell 9;simp only[Uaa] at c9;exact aq (w':=w3) (by simp[go_sem,h0,c9];done) ⟨AR.refl _,rfl⟩
   ·intro ρ w3 hc hL hr;have h0:_=_:=hr.1;have HX:=MT.ae.grown hL.grown (Ne.symm Ed.ae.2.2.1);have z0:=HX.cell 0;have z1:=HX.cell 1;have x2:=HX.cell 2;have x3:=HX.cell 3;have x4:=HX.cell 4;have x5:=HX.cell 5;have x6:=HX.cell 6;simp only[Uaa] at z0 z1 x2 x3 x4 x5 x6;exact aq (w':=w3) (by simp[go_sem,h0,z0,z1,x2,x3,x4,x5,x6];done) ⟨AR.refl _,rfl⟩
   ·intro ρ w3 hc hL hr;have h0:_=_:=hr.1;refine aq (v:=.slice (some ⟨w3.heap.size,0,none⟩) 1 1) (w':=w3.alloc (.cells (az z) 46)) Tam ⟨AR.later (ah w3 _),⟨_,rfl,aB.new w3 _ _,λ e=>?_⟩⟩;have:=((hL.old pG.ae.kY).lt e).1;omega
   ·intro ρ w3 hc hL hr;have h0:_=_:=hr.1;obtain⟨q1,h1,uE,Jr⟩:∃q:Nat,ρ (.tmp 60)=.slice (some ⟨q,0,none⟩) 1 1/\aB w3 q 46 (bD z).toArray/\(Value.slice UA ya.length uc).ownBlock≠some q:=hr.2.1;obtain⟨v',w',hrun,ho,yL,Ey⟩:=eY (P:=Tryz.prog) (w:=w3) 23 23 _ 88 Tryz.underlying23 gC rfl TD (λ _=>rfl) TaB (hL.old pG.ae.kY) q1 uE TaT TaT (Nat.le_trans pG.ae.base.size hL.grown.size);exact ZbJ
  intro W3 hL;simp only[Uab];rintro a0 - a1 - a2 - a3 - a4 - a5 - a6 - a7 ⟨q_7,rfl,V9,agS⟩ a8 - _ rfl;simp only[bA,Act.put,Uac];obtain⟨A4,QN,hv4,_⟩:=V9.reads;rw[length_append,length_singleton] at hv4;subst hv4;have O4:=aa V9;have HM4:=aa agS;have M0:=aa hL.grown;have kj:=dC pG.ae.blk pG.ae.kY V0 hL.grown;have f9:=kj.frozen 9;unfold PC.cells at kj;have c9:=kj.cell 9;simp only[Uaa] at c9;clear V9 agS kj hL;go_upto_region 12 with fail;clear f9 c9;have HC:=aa (pG.ae.aoK O4.ae M0.ae CS.ae);have K3:=aa ((ik.refl gp W8 (Value.slice UA ya.length uc) (Value.slice VA s.aF.length vc)).trans (ik.aoL (gp:=gp) (v:=Value.slice VA s.aF.length vc) M0.ae HM4.ae (Value.slice A4 (ya.length+1) QN) 9));have K6:=aa ((MU.ae.grown M0.ae (Ne.symm CW.ae.2.2.1)).far (p:=⟨gp,9,none⟩) CW.ae.2.1 (Value.slice A4 (ya.length+1) QN));clear pG MT MU O4 HM4 M0;generalize World.setCell W3 _ _=WA at*;obtain⟨UX,hUX⟩:∃UX,UX=Value.slice A4 (ya.length+1) QN:=⟨_,rfl⟩;rw[<- hUX] at HC K3;clear hUX;exact Zab
 ·generalize hW8:World.drew _=W8;have b7:aj w3 W8:=by rw[<- hW8];exact((Below.refl _ _).alloc (Nat.le_refl _) _).drew
  clear hW8;have pG:=aa (MD.ae.later b7);have MT:=aa (Ei.ae.later b7);have MU:=aa (Cw.ae.later b7);have Gr:=aa (ai.then tz.ae b7);clear b7 MD Ei Cw tz;have hk3:=pF.ae.fresh (w2:=W8) Jp.ae MT.ae.lt;have hk4:=pF.ae.fresh (w2:=W8) mH.ae MU.ae.lt;have Ed:=aa (eC.1 hk3);have CW:=aa (eC.1 hk4);clear hk3 hk4;have Wt:=aa (ah W8 (.cells dt 46));have iC:=pG.ae.blk;unfold PC.cells at iC;have c9:=iC.cell 9;simp only[Uaa] at c9;clear iC;go_upto_region 10 with (first
   |(at_builtin
     refine nk (l:=ya) (y:=wJ) rfl (.tmp 46) (.tmp 48) 23 rfl _ 88 Tryz.underlying23 gC rfl TD rfl (by simp[bD,wJ,Value.oneCell']) rfl (pG.ae.kY.later Wt.ae) W8.heap.size rfl (aB.new W8 _ _) TaT TaT (Nat.le_trans pG.ae.base.size Wt.ae.size) ?_
     intro v4 w4 LT gr4 m4
     obtain⟨q4,LE,Ly,hq4,avI⟩:=LT.block Taa
     rw[length_append,length_singleton] at Ly
     subst Ly
     have CZ:=aa (pG.ae.later Wt.ae)
     have hb4:=dC CZ.ae.blk CZ.ae.kY V0 gr4
     have f4:=hb4.frozen 9
     unfold PC.cells at hb4
     have cc9:=hb4.cell 9
     simp only[Uaa] at cc9
     have MY:=aa LT
     have G4:=aa (show(W8.alloc (.cells dt 46)).grownBy w4 (Value.slice UA ya.length uc).ownBlock from gr4)
     have M4:=aa (show Mv (W8.alloc (.cells dt 46)) (Value.slice UA ya.length uc) (Value.slice (some ⟨q4,0,none⟩) (ya.length+1) LE)from m4)
     clear LT gr4 m4 hb4))
  clear cc9 f4 c9;have aoQ:=ik.aoL (gp:=gp) (v:=Value.slice VA s.aF.length vc) G4.ae M4.ae (Value.slice (some ⟨q4,0,none⟩) (ya.length+1) LE) 9;have aoR:=aa (((ik.refl gp W8 (Value.slice UA ya.length uc) (Value.slice VA s.aF.length vc)).later Wt.ae).trans aoQ);have uY:=aa ((CZ.ae.aoJ G4.ae).setCell CZ.ae.low (p:=⟨gp,9,none⟩) (Value.slice (some ⟨q4,0,none⟩) (ya.length+1) LE));have hb4:=dC CZ.ae.blk CZ.ae.kY V0 G4.ae;have aoS:=aa (show aB (w4.setCell ⟨gp,9,none⟩ (Value.slice (some ⟨q4,0,none⟩) (ya.length+1) LE)) gp 81 (c.cells r (Value.slice (some ⟨q4,0,none⟩) (ya.length+1) LE) (Value.slice VA s.aF.length vc))from hb4.aT 9 _);have HO5:=aa (MY.ae.keep λ g hg2=>Below.heap_setCell w4 ⟨gp,9,none⟩ (Value.slice (some ⟨q4,0,none⟩) (ya.length+1) LE) g λ e=>MY.ae.other hb4 V0 Taj);have HV5:=aa ((CZ.ae.dL.past CZ.ae.kY V0 G4.ae).keep λ g hg2=>Below.heap_setCell w4 ⟨gp,9,none⟩ (Value.slice (some ⟨q4,0,none⟩) (ya.length+1) LE) g λ e=>(CZ.ae.dL.past CZ.ae.kY V0 G4.ae).other hb4 V0 Taj);have AO:=aa (((MT.ae.later Wt.ae).grown G4.ae (Ne.symm Ed.ae.2.2.1)).far (p:=⟨gp,9,none⟩) Ed.ae.2.1 (Value.slice (some ⟨q4,0,none⟩) (ya.length+1) LE));have HZ5:=aa (((MU.ae.later Wt.ae).grown G4.ae (Ne.symm CW.ae.2.2.1)).far (p:=⟨gp,9,none⟩) CW.ae.2.1 (Value.slice (some ⟨q4,0,none⟩) (ya.length+1) LE));have MI:=aa pG.ae.aD;have uk:=aa pG.ae.low;have aiS:=aa (show q4≠g4/\q4≠gp from⟨λ e=>by
   rcases M4.ae with h | h
   ·exact CW.ae.2.2.1 (by rw[<- h,e];rfl)
   ·have h1:=h q4 rfl
    have h2:=CW.ae.1
    have h3:=Wt.ae.size
    omega,λ e=>MY.ae.other hb4 V0 (by rw[e];rfl)⟩)
  clear aoQ hb4 CZ pG MT MU MY G4 M4 hq4 avI;generalize World.setCell w4 _ _=w5 at*;have k1:=AO.ae;have z0:=k1.cell 0;have z1:=k1.cell 1;have x2:=k1.cell 2;have x3:=k1.cell 3;have x4:=k1.cell 4;have x5:=k1.cell 5;have x6:=k1.cell 6
  simp only[Uaa] at z0 z1 x2 x3 x4 x5 x6;clear k1;go_upto_region 12 with (first
   |(refine wI rfl 46 (.tmp 53) (.tmp 52) rfl q4 (ya.length+1) LE (f:=bD) (y:=z) (l:=ya) (λ _=>rfl) HO5.ae rfl rfl WC TaB ?_
     intro w6 ho6 rH
     have HO6:=aa ho6
     have xl:=aa rH
     clear ho6 rH))
  clear z0 z1 x2 x3 x4 x5 x6;have HC:=aa (show eQ c w0 gp r w6 (Value.slice (some ⟨q4,0,none⟩) (ya.length+1) LE) (Value.slice VA s.aF.length vc) (ya++ [z]) ⟨s.aD++ [t],s.aF⟩from
   ⟨uk.ae,Below.trans uY.ae (yB xl.ae uY.ae.size (HO6.ae.lt rfl).2.1),aoS.ae.grown xl.ae (λ e=>by injection e with e;exact aiS.ae.2 e.symm),HO6.ae,HV5.ae.grown xl.ae (λ e=>by
     obtain⟨_,_,cu,h1⟩:=HV5.ae.lt e
     obtain⟨_,_,cu2,h2⟩:=HO5.ae.lt (g:=q4) rfl
     rw[h1] at h2
     injection h2 with h2
     injection h2 with _ h2 _
     exact absurd h2 V0),Tr.all_append MI.ae (Tr.eG CS.ae)⟩)
  have K3:=aa (aoR.ae.trans (ik.in9 (gp:=gp) (u:=Value.slice (some ⟨q4,0,none⟩) (ya.length+1) LE) (v:=Value.slice VA s.aF.length vc) xl.ae rfl));have K6:=aa (HZ5.ae.grown xl.ae (λ e=>by injection e with e;exact aiS.ae.1 e.symm));clear aoR xl HO6 HO5 HV5 AO HZ5 aoS uY MI uk aiS;generalize w6=WA at*;obtain⟨A4,hv4⟩:∃A4,A4=Value.slice (some ⟨q4,0,none⟩) (ya.length+1) LE:=⟨_,rfl⟩;rw[<- hv4] at HC K3;clear hv4;exact Zab):p:=h
theorem za2.Kae(h:p:=by open zcl in exact Za3):p:=h
theorem MG (c:PC)(w0:rQ)(gp:Nat)(r:Rest)(t:Tr)(z:Ex)(s:dp)(u v:Value)(ya:u_)(w:rQ)(hf:c.aF.findIdx? (λ g=>g.same t)=none)(ha:isAgg t.op=true)(ty:Int)(ht:fZ c.cols t.op t.args=(ty,0))(hlen:s.aF.length+s.aD.length<=999998)(aZ:c.Ok w0)(gP:t.ok)(hat:t.at_ w0 (Old w0) z)(nr:eQ c w0 gp r w u v ya s):
  ar 99 #[.pointer (some ⟨gp,0,none⟩),.agg (az z)] w (rG c w0 gp r u v w (.ok (ma s.aF.length,⟨s.aD++ [t],s.aF++ [⟨di s.aF.length,ty⟩]⟩))):=by
 open za2 in exact Zaq
def Gt (gp k:Nat)(CA:z_)(cn cc:Nat)(ty er:Int)(y:Ex):Nat->rQ->Value->Prop
 | 0,_,v=>v=.agg (az y)
 | 1,_,v=>v=aw gp
 | 2,_,v=>v=aw gp
 | 3,_,v=>v=bc gp k
 | 4,_,v=>v=.slice CA cn cc
 | 5,_,v=>v=.tuple #[ag ty,af er]
 | 6,_,v=>v=.tuple #[ag ty,af er]
 | 7,_,v=>v=ag ty
 | 8,_,v=>v=af er
 | 9,_,v=>v=ag ty
 | 10,_,v=>v=af er
 | _,_,_=>False
theorem nx (gp k:Nat)(CA:z_)(cn cc:Nat)(ty er:Int)(y:Ex):∀i w w' v,Gt gp k CA cn cc ty er y i w v->ai w w'->Gt gp k CA cn cc ty er y i w' v:=by exact Zdj
def MJ:Ex:=⟨1,⟨0,0,⟨#[]⟩⟩,⟨#[]⟩,0,none,0,0⟩
theorem IM (w:rQ)(S:Nat->Prop):(Tr.mk 1 aC ByteArray.empty 0 []).at_ w S MJ:=by unfold Tr.at_ MJ;exact Zhe
theorem TE (w:rQ)(S:Nat->Prop):∀n,Tr.aM w S (List.replicate n (.mk 1 aC ByteArray.empty 0 [])) (List.replicate n MJ)
 | 0=>by unfold List.replicate Tr.aM;rfl
 | n+1=>by rw[replicate_succ,replicate_succ];unfold Tr.aM;exact⟨_,_,rfl,IM w S,TE w S n⟩
theorem TF:∀n,Tr.cH (List.replicate n (.mk 1 aC ByteArray.empty 0 []))
 | 0=>by unfold List.replicate Tr.cH;trivial
 | n+1=>by rw[replicate_succ];unfold Tr.cH;refine⟨?_,TF n⟩;unfold Tr.ok;refine⟨⟨by decide,by decide⟩,by simp,by decide,by decide,by decide,?_⟩;unfold Tr.cH;trivial
variable{ys:u_}{S:Nat->Prop}
theorem pH{base:Nat}  (h:aH bD 46 7 w base v ys) (hS:∀q,v.ownBlock=some q->S q):∃A c,v=.slice A ys.length c/\ys.length<=c/\YO w S A ys:=by
 obtain⟨A0,c0,e0,_,hle,_⟩:=h.reads;obtain⟨A,c,rfl,h1⟩:=dT (f:=bD) (size:=7) (λ _=>rfl) h;injection e0 with _ _ e0;refine⟨A,c,rfl,by rw[e0];exact hle,?_⟩;rcases h1 with h1 |⟨g,h1,h2,h3⟩
 ·exact .inl h1
 ·refine .inr ⟨g,0,h1,hS g (by rw[h1];rfl),λ i x hx=>?_⟩;have k:=λ j u hj hu=>h3 i x j u hx hj hu
  unfold cg;simp only[Nat.zero_add];exact⟨by simpa using k 0 _ TD rfl,k 1 _ TD rfl,k 2 _ TD rfl,k 3 _ TD rfl,k 4 _ TD rfl,k 5 _ TD rfl,k 6 _ TD rfl⟩
theorem zhy.Kcb(h:p:=by
 have yq:=aa hR;have Hb:=aa Xd;clear hR Xd ym;go_wp2_with fail;clear z6;go_loopw [5,11] (λ _ i wr=>∃(k:Nat) (zs:u_),k<=n/\i=af k/\zs.length=n/\zs.take k=List.replicate k MJ/\aH bD 46 7 wr base (.slice A n c) zs/\W.grownBy wr (Value.slice A n c).ownBlock) (λ _ i _=>n - (intOf i).toNat);case atStart=>exact⟨0,ys,Nat.zero_le _,rfl,HN.ae.symm,rfl,HO.ae,World.grownBy.refl W _⟩
 case round=>
  obtain⟨k,zs,hk,rfl,hzl,Gu,ho,hg⟩:=hrel;have Yi:=aa Gu;have mr:=aa hzl;have Kx:=aa ho;have Ly:=aa hg;clear Gu ho hg hzl;have hx:=aa (yq.ae.grown Ly.ae (Ne.symm avK.ae));by_cases hlt:k < n
  ·obtain⟨q,Lw,AL,hbq,Ts⟩:=Kx.ae.block (λ e=>by have:=mr.ae;rw[e] at this;simp at this;omega);injection AL with hA UJ hc2;subst hA;have z6:=hx.ae.cell 6;simp only[Uaa] at z6;clear hc2 UJ hbq Ts Vm;go_wp2_with (first
    |(refine ot rfl 46 (.tmp 18) (.tmp 17) rfl q n c k (f:=bD) (y:=MJ) (λ _=>rfl) Kx.ae (by rw[mr.ae];exact hlt) rfl rfl WC (by simp[bD,MJ,Value.oneCell']) ?_
      intro w4 ho4 hg4
      have HO4:=aa ho4
      have Gk:=aa hg4
      clear ho4 hg4))
   go_roundw;case rel=>refine⟨k+1,zs.set k MJ,hlt,by go_num,by rw[length_set];exact mr.ae,?_,HO4.ae,aY Ly.ae Gk.ae⟩;have h1:=mr.ae;rw[take_add_one,take_set_of_le (Nat.le_refl _),Yi.ae,getElem?_set_self TD,replicate_succ'];rfl
   case measure=>exact ZaU
  ·have gw:k=n:=by omega
   subst gw;have hzz:zs=List.replicate k MJ:=by have:=Yi.ae;rwa [take_of_length_le (by rw[mr.ae];exact Nat.le_refl _)] at this
   subst hzz;obtain⟨y,hy⟩:∃y:Ex,y=⟨2,v,name,width,A,k,c⟩:=⟨_,rfl⟩;have Ej:=aa (show aB wr g2 46 (az y) by rw[hy];exact hx.ae);have ago:wr.heap[gp]?=W.heap[gp]?:=Ly.ae.block gp Kh.ae (Ne.symm nO.ae);have Oi:=aa ((bI ago 8).trans Vm.ae);have QP:=aa (Nat.lt_of_lt_of_le Kh.ae Ly.ae.size)
   have hC6:RC wr wr.heap.size CA cols:=by
    by_cases hc0:cols=[]
    ·exact .inl hc0
    rcases HC.ae with KK |⟨b,off,h1,h2,h3⟩
    ·exact .inl KK
    ·refine .inr ⟨b,off,h1,Nat.lt_of_lt_of_le h2 Ly.ae.size,λ i x hx=>(h3 i x hx).keep λ o=>bI (Ly.ae.block b h2 (Ne.symm (Ee.ae hc0 _ h1))) o⟩
   obtain⟨A2,Lw,vI,_,hres⟩:=pH Kx.ae (S:=Old wr) (λ q hq=>(Kx.ae.lt hq).1);injection vI with e1 e2 e3;subst e1 e3;clear e2;have lX:=HN.ae;have hat:(Tr.mk 2 v name width (List.replicate k (.mk 1 aC ByteArray.empty 0 []))).at_ wr (Old wr) y:=by unfold Tr.at_;rw[hy];exact⟨rfl,rfl,rfl,rfl,by simp,_,hres,TE _ _ _⟩
   have Oq:=je.ae;rw[<- lX] at Oq;have xj:=aa (Tr.oT (cols:=cols) (CA:=CA) (cc:=cc) TD _ y wr Oq hat hC6);have QQ:=aa lX;have xy:qT cols v name width k=if ((Tr.mk 2 v name width (List.replicate k (.mk 1 aC ByteArray.empty 0 []))).type cols).2≠0 then((Tr.mk 2 v name width (List.replicate k (.mk 1 aC ByteArray.empty 0 []))).type cols).2 else 42:=rfl;generalize (Tr.mk 2 v name width (List.replicate k (.mk 1 aC ByteArray.empty 0 []))).type cols=r at*;obtain⟨ty,e0⟩:=r;dsimp only at xy xj;have Ax:=aa xy;have iz:=aa (Below.trans (zX.ae.mono M5.ae) (bj HO.ae Ly.ae agm.ae));clear ago hC6 hres hat Oq xy lX hlt hy hx Kx Ly HC Vm;go_upto_region 6 with fail;refine bz 11 (Gt gp 8 CA cols.length cc ty e0 y) (nx _ _ _ _ _ _ _ _) WC WC WC ?_ ?_
   ·simp only[take_succ_cons,take_zero];refine⟨ZgL,Zaa,Zaa,Zaa,Zb7,?_,Zaa,Zaa,Zaa,Zaa,Zaa,trivial⟩
    ·intro ρ w3 hc hL hr;have h0:_=_:=hr.1;have h1:_=_:=hr.2.1;have e1:=hc.func 59;refine bp (f:=59) (args:= #[.agg (az y),.slice CA cols.length cc]) (w':=w3) Taq ?_;exact ZfR
   intro W3 hL;simp only[Uab];rintro a0 - a1 - a2 - a3 - a4 - a5 - a6 - a7 - a8 - _ rfl _ rfl;simp only[bA,Act.put,Uac];have HBX:=aa (iz.ae.trans (hL.mono (Nat.le_trans M5.ae iz.ae.size)));clear hL iz Ej Oi xj;by_cases h:e0=0
   ·subst h;go_wp2_with fail;go_ret;exact⟨by rw[Ax.ae];rfl,HBX.ae⟩
   ·have t1:(e0 != 0)=true:=by simp[h]
    have H:=aa h;clear h;go_wp2_with fail;go_ret;exact⟨by rw[Ax.ae,if_pos H.ae];rfl,HBX.ae⟩):p:=h
theorem QO (gp:Nat)(v:Val)(name:t_)(width:Int)(ys:u_)(av:Value)(base:Nat)(cols:List aV)(CA:z_)(cc:Nat)(w:rQ)
  (aZ:(Tr.mk 2 v name width (List.replicate ys.length (.mk 1 aC ByteArray.empty 0 []))).ok) (hn:ys.length<=1000000) (hO:aH bD 46 7 w base av ys) (sy:gp < w.heap.size) (ZI:w.cell? ⟨gp,8,none⟩=some (.slice CA cols.length cc)) (hC:RC w w.heap.size CA cols) (cL:cols.length<=1000000) (hne:av.ownBlock≠some gp) (hCA:cols≠ []->∀a,CA=some a->av.ownBlock≠some a.block) (hbase:base<=w.heap.size):
  ar 154 #[aw gp,.agg #[ag 2,ag v.k,af v.n,.string v.s,.string name,af width,av]] w λ e w'=>e=.returned (af (qT cols v name width ys.length))/\Below base w w':=by
 obtain⟨A,c,rfl,hle,_⟩:=pH hO (S:=λ _=>True) (λ _ _=>trivial);have hR:=aB.new w 46 #[ag 2,ag v.k,af v.n,.string v.s,.string name,af width,.slice A ys.length c];have bb:=ah w (.cells #[ag 2,ag v.k,af v.n,.string v.s,.string name,af width,.slice A ys.length c] 46);have HO:=aa (hO.later bb);have Vm:=aa ((bb.cell (p:=⟨gp,8,none⟩) sy).trans ZI);have HC:=aa (hC.later bb);have Kh:=aa (Nat.lt_of_lt_of_le sy bb.size);have zX:=aa bb;have je:=aa aZ;have nO:=aa hne;have Ee:=aa hCA;have agm:=aa (Nat.le_trans hbase bb.size);have M5:=aa hbase;have ym:(Value.slice A ys.length c).ownBlock≠some w.heap.size:=λ e=>by have:=(hO.lt e).1;omega
 obtain⟨n,qR⟩:∃n,n=ys.length:=⟨_,rfl⟩;have HN:=aa qR;rw[<- qR] at hn hle hR ym nO Ee HO Vm HC Kh zX agm ⊢;clear hO ZI hC sy bb aZ hne hCA hbase qR;go_enter Tryz.func154,Tryz.ntmps154;go_upto_region 1 with fail;generalize World.alloc w _=W at*;obtain⟨g2,Xd⟩:∃g2,g2=w.heap.size:=⟨_,rfl⟩;rw[<- Xd] at hR ym ⊢;have avK:=aa ym;open zhy in exact Zgb
variable{gp b:Nat}
theorem Kp.size{us:wL}(h:Kp w gp us b)(hs:w.heap.size<=w'.heap.size):Kp w' gp us b:=⟨Nat.lt_of_lt_of_le h.1 hs,h.2⟩
variable{w1 w2:rQ}{u1 v1:Value}
theorem ik.below(h:ik gp w u v w1 u1 v1)(hb:Below B w1 w2)(hB:w.heap.size<=B):ik gp w u v w2 u1 v1:=
 ⟨hb.os.trans h.os,hb.tape.trans h.tape,hb.output.trans h.output,Nat.le_trans h.size hb.size,λ k hk=>(hb.block k (Nat.lt_of_lt_of_le hk.1 hB)).trans (h.block k hk),h.mu,h.mv⟩
structure Da (c:PC) (w0:rQ) (gp:Nat) (r:Rest) (w:rQ) (u0 v0:Value) (g3 g4 g10 B1:Nat) (z:Ex) (wr:rQ) (a u v:Value) (ys ya:u_) (ts:uF) (s:dp):Prop where
 ps:eQ c w0 gp r wr u v ya s
 stp:ik gp w u0 v0 wr u v
 x:aB wr g3 46 (az z)
 res:aB wr g4 46 dt
 y:aB wr g10 46 #[ag z.op,ag z.v.k,af z.v.n,.string z.v.s,.string z.name,af z.width,a]
 k3:Kp wr gp [u,v] g3
 k4:Kp wr gp [u,v] g4
 k10:Kp wr gp [u,v] g10
 own:aH bD 46 7 wr B1 a ys
 ka:∀q,a.ownBlock=some q->Kp wr gp [u,v] q
 trees:Tr.aM wr (λ b=>(B1<=b/\a.ownBlock≠some b)/\Kp wr gp [u,v] b) ts ys
 size:B1<=wr.heap.size
 low:w.heap.size<=g3/\g3 < g4/\g4 < g10/\g10 < B1
 base:w0.heap.size<=w.heap.size
variable{S':Nat->Prop}
theorem Tr.yC(hk:∀b,S b->(∀o,w'.cell? ⟨b,o,none⟩=w.cell? ⟨b,o,none⟩)/\S' b)(h:Tr.aM w S ts ys):Tr.aM w' S' ts ys:=Tr.aM.keep hk ts ys h
section
variable {c:PC} {w0 w wr w':rQ} {gp g3 g4 g10 B1:Nat} {r:Rest} {u0 v0 a u v a' u' v':Value} {z:Ex} {ys ya pY:u_} {ts:uF} {s s':dp}
theorem Da.call (h:Da c w0 gp r w u0 v0 g3 g4 g10 B1 z wr a u v ys ya ts s)(hs:ik gp wr u v w' u' v')(hp:eQ c w0 gp r w' u' v' pY s'):Da c w0 gp r w u0 v0 g3 g4 g10 B1 z w' a u' v' ys pY ts s':=
 ⟨hp,h.stp.trans hs,hs.blk h.x h.k3,hs.blk h.res h.k4,hs.blk h.y h.k10,hs.kp h.k3,hs.kp h.k4,hs.kp h.k10,hs.avq h.own h.ka,λ q hq=>hs.kp (h.ka q hq),hs.trees h.trees,Nat.le_trans h.size hs.size,h.low,h.base⟩
theorem Da.later (h:Da c w0 gp r w u0 v0 g3 g4 g10 B1 z wr a u v ys ya ts s)(hb:aj wr w'):Da c w0 gp r w u0 v0 g3 g4 g10 B1 z w' a u v ys ya ts s:=
 h.call ((ik.refl gp wr u v).later hb) (h.ps.later hb)
theorem eQ.aiU (h:eQ c w0 gp r w u v ya s) {o:Option Nat}(hg:w.grownBy w' o)(hq:∀q,o=some q->Kp w gp [u,v] q/\w0.heap.size<=q):eQ c w0 gp r w' u v ya s:=by
 cases o with
 | none=>exact h.later (pA hg)
 | some q=>exact h.aside hg (hq q rfl).1 (hq q rfl).2
theorem Da.push (h:Da c w0 gp r w u0 v0 g3 g4 g10 B1 z wr a u v ys ya ts s) {t:Tr} {y:Ex}(hy:t.at_ wr (λ b=>(B1<=b/\a.ownBlock≠some b)/\Kp wr gp [u,v] b) y)
  (ho:aH bD 46 7 w' B1 a' (ys++ [y])) (hg:wr.grownBy w' a.ownBlock) (hm:Mv wr a a'):
  Da c w0 gp r w u0 v0 g3 g4 g10 B1 z (w'.setCell ⟨g10,6,none⟩ a') a' u v (ys++ [y]) ya (ts++ [t]) s:=by
 have hl:=h.low;have hab:∀q,a.ownBlock=some q->B1<=q:=λ q hq=>(h.own.lt hq).2.1
 have OG:∀q,a'.ownBlock=some q->B1<=q:=λ q hq=>(ho.lt hq).2.1
 have nr:eQ c w0 gp r w' u v ya s:=h.ps.aiU hg λ q hq=>⟨h.ka q hq,by have:=hab q hq;have:=h.base;omega⟩
 have hx:=h.x.grown hg (λ e=>by have:=hab g3 e.symm;omega);have hr:=h.res.grown hg (λ e=>by have:=hab g4 e.symm;omega);have Js:=h.y.grown hg (λ e=>by have:=hab g10 e.symm;omega);have k3:=h.k3.size hg.size;have k4:=h.k4.size hg.size;have k10:=h.k10.size hg.size
 have ka:∀q,a'.ownBlock=some q->Kp w' gp [u,v] q:=λ q hq=>by
  rcases hm with hm | hm
  ·exact(h.ka q (by rw[<- hm];exact hq)).size hg.size
  ·exact h.ps.fresh (hm q hq) (ho.lt hq).1
 have htr:Tr.aM w' (λ b=>(B1<=b/\a'.ownBlock≠some b)/\Kp w' gp [u,v] b) (ts++ [t]) (ys++ [y]):=by refine Tr.yC ?_ (Tr.all_append h.trees (Tr.eG hy));rintro b ⟨⟨h1,h2⟩,h3⟩;exact⟨λ o=>bI (hg.block b h3.1 (Ne.symm h2)) o,⟨h1,hm.ne h3.1 h2⟩,h3.size hg.size⟩
 have ou:w'.grownBy (w'.setCell ⟨g10,6,none⟩ a') (some g10):=aG (aO (Below.refl _ _)) _ _;refine⟨nr.aside ou k10 (by have:=h.base;omega),?_,hx.far (p:=⟨g10,6,none⟩) (by show g3≠g10;omega) _,hr.far (p:=⟨g10,6,none⟩) (by show g4≠g10;omega) _,by simpa using Js.aT 6 a',k3.size ou.size,k4.size ou.size,k10.size ou.size,ho.keep λ q hq=>Below.heap_setCell w' ⟨g10,6,none⟩ a' q (λ e=>by have:=OG q hq;have e2:q=g10:=e;omega),λ q hq=>(ka q hq).size ou.size,?_,Nat.le_trans h.size (Nat.le_trans hg.size ou.size),hl,h.base⟩
 ·exact(h.stp.avp hg λ q hq=>by have:=hab q hq;omega).own ou TD
 ·refine Tr.yC ?_ htr;rintro b ⟨⟨h1,h2⟩,h3⟩;exact⟨λ o=>bI (Below.heap_setCell w' ⟨g10,6,none⟩ a' b (λ e=>by have e2:b=g10:=e;omega)) o,⟨h1,h2⟩,h3.size ou.size⟩
end
variable{A:z_}{c:Nat}
theorem M6{base:Nat}   {l:List aV}(h:aH aR 113 2 w base (.slice A l.length c) l):RC w w.heap.size A l:=by
 obtain⟨A2,c2,hv,hA⟩:=dT (f:=aR) (size:=2) (λ _=>rfl) h;injection hv with e1 e2 e3;subst e1;rcases hA with hA |⟨g,hA,hg,hc⟩
 ·exact .inl hA
 ·refine .inr ⟨g,0,hA,hg,λ i x hx=>?_⟩;have k:=λ j u hj hu=>hc i x j u hx hj hu
  unfold pR;simp only[Nat.zero_add];exact⟨by simpa using k 0 _ TD rfl,k 1 _ TD rfl⟩
theorem pI:∀ {ts:uF} {ys:u_} {k:Nat} (h:k < ts.length),Tr.aM w S ts ys->∃y,ys[k]?=some y/\ts[k].at_ w S y
 | t::ts,ys,0,h,ha=>by unfold Tr.aM at ha;obtain⟨y,ys',rfl,h1,h2⟩:=ha;exact⟨y,rfl,h1⟩
 | t::ts,ys,k+1,h,ha=>by unfold Tr.aM at ha;obtain⟨y,ys',rfl,h1,h2⟩:=ha;obtain⟨x,hx,hx2⟩:=pI (k:=k) Tai h2;exact⟨x,by simpa using hx,hx2⟩
theorem zbC.Kal(h:p:=by refine bodyPost_ret (v:=.tuple #[.agg dt,af er]) Taf rfl ?_;exact ZfM):p:=h
theorem zbD.Kal(h:p:=by refine bodyPost_ret (v:=.tuple #[.agg dt,af al]) Taf rfl ?_;exact ZfM):p:=h
theorem zbE.Kal(h:p:=by
 refine bodyPost_ret (v:=.tuple #[.agg (az Kx),af er]) Taf rfl ?_;by_cases her:er=0
 ·subst her;have MN:=uU.ae;rw[if_neg V0] at MN;rw[MN];have h4:=Ap.ae.k4;refine⟨Kx,u1,_,Jt,rfl,?_,Ap.ae.ps.aside kQ h4 (by have:=Ap.ae.base;have:=mH.ae;omega),Ap.ae.stp.own kQ mH.ae⟩;have hl:=Ap.ae.low;exact Tr.at_.keep (λ b Ly=>⟨λ o=>bI (kQ.block b Ly.2.1 (λ e=>by injection e with e;have:=Ly.1;omega)) o,by have:=Ly.1;omega,Ly.2.size kQ.size⟩) _ Kx avT.ae
 ·have MN:=uU.ae;rw[if_pos her] at MN;rw[MN];exact⟨Kx,_,_,rfl,Ap.ae.stp.own kQ mH.ae⟩):p:=h
theorem zeN.Ka6(h:p:=by
 have kQ:WD.grownBy W9 (some g4):=by rw[<- uD];exact aG (aG (aG (aG (aG (aG (aG (aO (Below.refl _ _)) _ _) _ _) _ _) _ _) _ _) _ _) _ _
 open zbC in exact ZaA):p:=h
theorem zcn.Kav(h:p:=by have Qq:=aa ME;clear MY ME bg apb;go_upto_region 21 with fail;generalize w6.alloc (.cells (az Kx) 46)=WD at*;open zeN in exact ZcF):p:=h
theorem zeO.Ka6(h:p:=by
 have kQ:w7.grownBy W9 (some g4):=by rw[<- uD];exact aG (aG (aG (aG (aG (aG (aG (aO (Below.refl _ _)) _ _) _ _) _ _) _ _) _ _) _ _) _ _
 open zbD in exact ZaA):p:=h
theorem zco.Kav(h:p:=by
 have Qq:=aa ME;clear ME Oh iC c8 lT hz2;have xo:X=.error (qT c.cols z.v z.name z.width ys.length):=by have h1:=xX.ae;rw[if_pos Ia.ae] at h1;have h2:=HZE.ae;have h3:=HE4.ae;have h4:=LT.ae;rw[h1,h2.2.1,h2.2.2,h3,h4]
 have uU:=aa xo;clear xo;obtain⟨al,xy⟩:∃al,al=qT c.cols z.v z.name z.width ys.length:=⟨_,rfl⟩;rw[<- xy] at uU ⊢;clear xy;open zeO in exact ZcF):p:=h
theorem zcp.Kav(h:p:=by
 clear Js ME;go_wp2_with fail;clear z0 z1 x2 x3 x4 x5 x6 y0 y1 c2 y3 y4 y5 y6 Gp;generalize uD:World.setCell _ _ _=W9;have hR:aB W9 g4 46 (az Kx):=by rw[<- uD];simpa using(((((((Ap.ae.res.aT 0 _).aT 1 _).aT 2 _).aT 3 _).aT 4 _).aT 5 _).aT 6 _)
 have kQ:W3.grownBy W9 (some g4):=by rw[<- uD];exact aG (aG (aG (aG (aG (aG (aG (aO (Below.refl _ _)) _ _) _ _) _ _) _ _) _ _) _ _) _ _
 open zbE in exact ZaA):p:=h
theorem zgc.KbE(h:p:=by have ME:=Ap.ae.res;have Gp:=ME.frozen;open zcp in exact Za4):p:=h
theorem zef.KaU(h:p:=by have avT:=aa (((ik.refl gp wr u1 (.slice VA s1.aF.length vc)).later hL).tree apf.ae);clear hL WE HP apf Oi xj jR ags;open zgc in exact Zeg):p:=h
theorem zdW.KaO(h:p:=by
 have hz:=at_root CS.ae;rw[HHT.ae] at hz;have HZE:=aa (show z.op=op/\z.v=xv/\z.name=name from hz);clear hz;go_upto_region 16 with fail;have Wv:=aB.new w2 46 (az z);have M7:=ah w2 (.cells (az z) 46);generalize w2.alloc (.cells (az z) 46)=Oj at*;obtain⟨g10,agq⟩:∃g10,g10=w2.heap.size:=⟨_,rfl⟩;rw[<- agq] at Wv ⊢;have Am:=aa (show g3 < g4/\g4 < g10/\g10 < Oj.heap.size from⟨by have:=HI.ae;have:=Gk.ae;omega,by have:=Yf.ae.lt;omega,Wv.lt⟩);have agr:=aa (uC.ae.later M7);have aiW:=aa (AO.ae.later M7);have aoW:=aa (Yf.ae.later M7);have tD:=aa (ai.then fY.ae M7);have EI:=aa Wv;have hc6:=Wv.cell 6;have hf6:=Wv.frozen 6;simp only[Uaa] at hc6;have hx6:=aiW.ae.cell 6;simp only[Uaa] at hx6;clear z0 z1 x2 x3 x4 x5 x6 Wv M7 agq uC AO Yf fY;go_upto_region 17 with fail;have ou:Oj.grownBy (Oj.setCell ⟨g10,6,none⟩ (ay)) (some g10):=aG (aO (Below.refl _ _)) _ _;have gw:=λ g (h1:w.heap.size<=g) (h2:g < Oj.heap.size)=>pF.ae.fresh (w2:=Oj) h1 h2
 have HP:=aa (show Da c w0 gp r w u v g3 g4 g10 Oj.heap.size z (Oj.setCell ⟨g10,6,none⟩ (ay)) (ay) u v [] ya [] s from
  ⟨agr.ae.aside ou (gw g10 TaR Am.ae.2.2) (by have:=pF.ae.base.size;have:=mH.ae;have:=Am.ae;omega),((ik.refl gp w u v).later tD.ae).own ou TaR,aiW.ae.far (p:=⟨g10,6,none⟩) (by show g3≠g10;have:=Am.ae;omega) _,aoW.ae.far (p:=⟨g10,6,none⟩) (by show g4≠g10;have:=Am.ae;omega) _,by simpa using EI.ae.aT 6 (ay),
    (gw g3 Jp.ae (by have:=Am.ae;omega)).size ou.size,(gw g4 mH.ae (by have:=Am.ae;omega)).size ou.size,(gw g10 TaR Am.ae.2.2).size ou.size,aH.nil,λ q hq=>by simp[Value.ownBlock] at hq,by unfold Tr.aM;rfl,ou.size,⟨Jp.ae,Am.ae⟩,pF.ae.base.size⟩)
 have aoX:=HP.ae.x.cell 6;simp only[Uaa] at aoX;obtain⟨B1,KC⟩:∃B1,B1=Oj.heap.size:=⟨_,rfl⟩;rw[<- KC] at HP;clear ou gw agr aiW aoW tD EI hc6 hf6 hx6 KC Am;generalize World.setCell Oj _ _=WL at*;have nX:=CS.ae;rw[HHT.ae] at nX;unfold Tr.at_ at nX;obtain⟨e1,e2,e3,e4,hzn,zs,hzr,hza⟩:=nX;have HE4:=aa e4;clear e1 e2 e3 e4;have HZN:=aa hzn;have nI:=aa hzr;have Yg:=aa hza;clear hzn hzr hza;have aiX:=aa (show(Tr.mk op xv name width args).nodes=Tr.aN args+1 by rw[Tr.nodes])
 have hnz:args.length<=1000000:=by
  have h1:∀l:uF,l.length<=Tr.aN l:=by
   intro l
   induction l with
   | nil=>exact Nat.zero_le _
   | cons t l ih=>
     have h2:1<=t.nodes:=by cases t;rw[Tr.nodes];omega
     rw[Tr.aN,length_cons];omega
  have:=h1 args;have:=aiX.ae;have:=HLEN.ae;omega
 go_wp2_with fail;clear aoX;rw[HZN.ae];go_loopw [89] (λ i wr=>∃(k:Nat) (a u1 v1:Value) (ys Jt:u_) (ts:uF) (s1:dp),k<=args.length/\i=af k/\Tr.turns c.aF c.cols (args.take k) s=.ok (ts,s1)/\Da c w0 gp r w u v g3 g4 g10 B1 z wr a u1 v1 ys Jt ts s1) (λ i _=>args.length - (intOf i).toNat);case atStart=>exact⟨0,_,u,v,[],ya,[],s,Nat.zero_le _,rfl,by rw[take_zero,oq],HP.ae⟩
 case round=>
  clear HP;obtain⟨k,a,u1,v1,ys,Jt,ts,s1,hk,rfl,hturn,htu⟩:=hrel;have HT:=aa hturn;have HP:=aa htu;clear hturn htu;by_cases hlt:k < args.length
  ·obtain⟨y,hx,rI⟩:=pI hlt Yg.ae
   obtain⟨b,off,hzA,Cu,hex⟩:∃b off,z.A=some ⟨b,off,none⟩/\b < w0.heap.size/\cg w0 b (off+k*7) y:=by
    rcases nI.ae with h |⟨b,off,h1,h2,h3⟩
    ·rw[h] at hx;simp at hx
    ·exact⟨b,off,h1,h2,h3 k y hx⟩
   have iQ:=hex.keep (λ o=>HP.ae.ps.base.cell (p:=⟨b,o,none⟩) Cu);unfold cg at iQ;have xm:=aa rI;have aDi:=aa hzA;rw[hzA];clear hex hx rI Cu hzA;go_upto_region 20 with fail;have k1:=aB.new wr 46 (az y);have MK:=ah wr (.cells (az y) 46);generalize wr.alloc (.cells (az y) 46)=W2 at*;have ML:=aa (HP.ae.later MK);clear MK HP iQ;generalize wr.heap.size=g12 at*;have z0:=k1.cell 0;have z1:=k1.cell 1;have x2:=k1.cell 2;have x3:=k1.cell 3;have x4:=k1.cell 4;have x5:=k1.cell 5;have x6:=k1.cell 6
   simp only[Uaa] at z0 z1 x2 x3 x4 x5 x6;clear k1;go_wp2_with fail;have uA:=getElem_mem hlt;have hrun:=HIH.ae args[k] uA y s1 u1 v1 Jt W2 (by
    have h1:=kI.ae
    rw[HHT.ae] at h1
    unfold Tr.ok at h1
    exact dO.1 h1.2.2.2.2.2 _ uA) xm.ae ML.ae.ps (by
    have h1:=(kH (λ t _ s=>iT c.aF c.cols t s) s:pE (args.take k) s (Tr.turns c.aF c.cols (args.take k) s))
    have h2:=h1.len _ _ HT.ae
    have h3:=HLEN.ae
    have h4:=aiX.ae
    have h5:Tr.aN (args.take k)+args[k].nodes<=Tr.aN args:=by
     rw[gO,gO]
     have e:args=args.take k++args[k]::args.drop (k+1):=by rw[<- drop_eq_getElem_cons hlt,take_append_drop]
     conv=>rhs;rw[e]
     rw[map_append,sum_append,map_cons,sum_cons]
     omega
    omega)
   refine hrun.mono ?_;clear hrun;intro e w6 hp;clear z0 z1 x2 x3 x4 x5 x6;have tQ:=aa (iT c.aF c.cols args[k] s1)
   cases hr:Tr.turn c.aF c.cols args[k] s1 with
   | error er=>
     rw[hr] at hp tQ;obtain⟨Kx,u',v',rfl,hst⟩:=hp;have her:=tQ.ae.err _ rfl
     have xo:X=.error er:=by
      have h1:=HX_.ae;have e2:args=args.take k++args[k]::args.drop (k+1):=by rw[<- drop_eq_getElem_cons hlt,take_append_drop]
      have h2:Tr.turns c.aF c.cols args s=.error er:=by
       conv=>lhs;rw[e2]
       exact QG HT.ae hr
      rw[h2] at h1;exact h1
     have uU:=aa xo;have d0:(er != 0)=true:=by simp[her]
     have MY:=hst.blk ML.ae.res ML.ae.k4;have apb:=aa (ML.ae.stp.trans hst);clear xo hr her hst HX_;have bg:=ah w6 (.cells (az Kx) 46);have ME:=MY.later bg;have wK:=aa (apb.ae.later bg);have Gp:=ME.frozen;open zcn in exact Za4
   | ok q=>
     obtain⟨y1,s2⟩:=q;rw[hr] at hp;obtain⟨Kx,u',v',M8,rfl,uG,pJ,hst⟩:=hp;have apc:=aa uG;have HTS:=aa (QF HT.ae hr);have hab:∀q,a.ownBlock=some q->q < W2.heap.size:=λ q hq=>(ML.ae.own.lt hq).1
     have HAB:=aa hab;have avP:=aa ML.ae.size;have M9:=aa (ML.ae.call hst pJ);clear hr uG pJ hst hab ML tQ HT;obtain⟨aA,ac,rfl,avQ,_⟩:=pH M9.ae.own (S:=λ _=>True) (λ _ _=>trivial);have bg:=ah w6 (.cells (az Kx) 46);have HX:=aB.new w6 46 (az Kx);have Ap:=aa (M9.ae.later bg);have avR:=aa (show y1.at_ (w6.alloc (.cells (az Kx) 46)) (λ b=>(B1<=b/\(Value.slice aA ys.length ac).ownBlock≠some b)/\Kp (w6.alloc (.cells (az Kx) 46)) gp [u',v'] b) Kx from
      Tr.at_.keep (λ b Ly=>⟨λ o=>bg.cell (p:=⟨b,o,none⟩) Ly.2.1,⟨Nat.le_trans avP.ae Ly.1,λ e=>by have:=HAB.ae b e;have:=Ly.1;omega⟩,Ly.2.size bg.size⟩) y1 Kx apc.ae)
     have LT:=aa (show ys.length=k by
      have h1:=M9.ae.trees.length
      have h2:=sR HTS.ae
      have h3:=M9.ae.trees.length
      rw[length_append,length_singleton,length_append,length_singleton,length_take] at h2
      omega)
     clear bg M9 apc HAB;go_upto_region 21 with fail;generalize w6.alloc (.cells (az Kx) 46)=WD at*;generalize w6.heap.size=gY at*;have Al:=aa HX;have z0:=HX.cell 0;have z1:=HX.cell 1;have x2:=HX.cell 2;have x3:=HX.cell 3;have x4:=HX.cell 4;have x5:=HX.cell 5;have x6:=HX.cell 6
     simp only[Uaa] at z0 z1 x2 x3 x4 x5 x6;clear HX;have hy:=Ap.ae.y;have yf:=hy.frozen 6;have y6:=hy.cell 6;simp only[Uaa] at y6;clear hy;have N0:=aa (ah WD (.cells (az Kx) 46));go_wp2_with (first
      |(at_builtin
        refine nk (f:=bD) (l:=ys) (y:=Kx) rfl (.tmp 104) (.tmp 106) 23 rfl _ 88 Tryz.underlying23 gC rfl TD rfl TaB rfl (Ap.ae.own.later N0.ae) WD.heap.size rfl (aB.new WD _ _) (by have:=LT.ae;omega) (by have:=LT.ae;omega) (Nat.le_trans Ap.ae.size N0.ae.size) ?_
        intro v4 w4 V9 gr4 m4
        obtain⟨A4,QN,hv4,_⟩:=V9.reads
        rw[length_append,length_singleton] at hv4
        subst hv4
        have N3:=Ap.ae.later N0.ae
        have apd:(Value.slice aA ys.length ac).ownBlock≠some g10:=λ e=>by have:=(N3.own.lt e).2.1;have:=N3.low.2.2.2;omega
        have hb4:=N3.y.grown gr4 (λ e=>apd e.symm)
        have f4:=hb4.frozen 6
        have cc6:=hb4.cell 6
        simp only[Uaa] at cc6
        have ape:y1.at_ (WD.alloc (.cells (az Kx) 46)) (λ b=>(B1<=b/\(Value.slice aA ys.length ac).ownBlock≠some b)/\Kp (WD.alloc (.cells (az Kx) 46)) gp [u',v'] b) Kx:=
         Tr.at_.keep (λ b Ly=>⟨λ o=>N0.ae.cell (p:=⟨b,o,none⟩) Ly.2.1,Ly.1,Ly.2.size N0.ae.size⟩) y1 Kx avR.ae
        have avS:=aa (N3.push ape V9 (show(WD.alloc (.cells (az Kx) 46)).grownBy w4 (Value.slice aA ys.length ac).ownBlock from gr4) (show Mv (WD.alloc (.cells (az Kx) 46)) (Value.slice aA ys.length ac) (Value.slice A4 (ys.length+1) QN)from m4))
        clear V9 gr4 m4 hb4 ape N3 apd))
     go_roundw;case rel=>exact⟨k+1,_,u',v',ys++ [Kx],M8,ts++ [y1],s2,hlt,by go_num,by rw[take_add_one,getElem?_eq_getElem hlt];exact HTS.ae,avS.ae⟩
     case measure=>exact ZaU
  ·have gw:k=args.length:=by omega
   subst gw;rw[take_length] at HT;have Qp:=HX_.ae;rw[HT.ae] at Qp;dsimp only at Qp;have xX:=aa Qp;have qA:=aa (sR HT.ae);have LT:=aa (HP.ae.trees.length);clear Qp hlt HX_;have x7:=HP.ae.x.cell 0;simp only[Uaa] at x7;obtain⟨aA,ac,rfl,avQ,hres⟩:=pH HP.ae.own (S:=λ b=>B1<=b/\Kp wr gp [u1,v1] b) (λ q hq=>⟨(HP.ae.own.lt hq).2.1,HP.ae.ka q hq⟩);have jR:=aa hres;have ags:=aa (show Tr.aM wr (λ b=>B1<=b/\Kp wr gp [u1,v1] b) ts ys from Tr.yC (λ b Ly=>⟨λ _=>rfl,Ly.1.1,Ly.2⟩) HP.ae.trees);have Js:=HP.ae.y;have y0:=Js.cell 0;have y1:=Js.cell 1;have c2:=Js.cell 2;have y3:=Js.cell 3;have y4:=Js.cell 4;have y5:=Js.cell 5;have y6:=Js.cell 6;simp only[Uaa] at y0 y1 c2 y3 y4 y5 y6;clear hres Js;by_cases oL:op=2
   ·have d0:(z.op==2)=true:=by rw[HZE.ae.1];simp[oL]
    have Ia:=aa oL;clear oL;go_wp2_with fail;clear y0 y1 c2 y3 y4 y5 y6 x7 d0;have hz2:z.op=2:=HZE.ae.1.trans Ia.ae;rw[hz2];have iC:=HP.ae.ps.blk;unfold PC.cells at iC;have c8:=iC.cell 8;simp only[Uaa] at c8;have lT:=kI.ae;rw[HHT.ae] at lT;unfold Tr.ok at lT;refine(QO gp z.v z.name z.width ys (.slice aA ys.length ac) B1 c.cols c.cA c.cc wr (by
     unfold Tr.ok
     have h1:=HZE.ae
     have h2:=HE4.ae
     refine⟨by rw[h1.2.1];exact lT.1,by rw[length_replicate];have:=LT.ae;have:=qA.ae;omega,by decide,by rw[h2];exact lT.2.2.2.1,by rw[h1.2.1];exact lT.2.2.2.2.1,TF _⟩) (by have:=LT.ae;have:=qA.ae;omega) HP.ae.own iC.lt c8 (je.ae.cols.later HP.ae.ps.base) (by exact je.ae.cl) (λ e=>(eC.1 (HP.ae.ka gp e)).2.1 rfl) (λ hc0 a ha e=>by
     rcases je.ae.cols with h |⟨b,off,h1,h2,h3⟩
     ·exact hc0 h
     ·rw[h1] at ha
      injection ha with ha
      have h4:=(HP.ae.own.lt e).2.1
      have h5:=HP.ae.low
      have h6:=HP.ae.base
      rw[<- ha] at h4
      have h7:B1<=b:=h4
      omega) HP.ae.size).mono ?_
    rintro e w7 ⟨rfl,Oh⟩;have wK:=aa (HP.ae.stp.below Oh (by have:=HP.ae.low;omega));have ME:=HP.ae.res.below Oh (by have:=HP.ae.low;omega);have Gp:=ME.frozen;open zco in exact Za4
   ·have d0:(z.op==2)=false:=by rw[HZE.ae.1];simp[oL]
    have Ia:=aa oL;clear oL y0 y1 c2 y3 y4 y5 y6;go_upto_region 27 with fail
    clear x7 d0;obtain⟨Kx,hy⟩:∃Kx:Ex,Kx=⟨z.op,z.v,z.name,z.width,aA,ys.length,ac⟩:=⟨_,rfl⟩;have WE:=aa (show aB wr g10 46 (az Kx) by rw[hy];exact HP.ae.y);obtain⟨VA,vc,EW,_⟩:=HP.ae.ps.dL.reads;subst EW;have iC:=HP.ae.ps.blk;unfold PC.cells at iC;have Oi:=aa (show wr.cell? ⟨gp,10,none⟩=some (.slice VA s1.aF.length vc)from by
     have:=iC.cell 10
     simpa using this)
    have QP:=aa iC.lt;have aiY:(Tr.mk op xv name width ts).at_ wr (λ b=>B1<=b/\Kp wr gp [u1,.slice VA s1.aF.length vc] b) Kx:=by have h2:=HZE.ae;have h3:=HE4.ae;unfold Tr.at_;rw[hy];exact⟨h2.1,h2.2.1,h2.2.2,h3,LT.ae,ys,jR.ae,ags.ae⟩
    have apf:=aa aiY;have Ol:(Tr.mk op xv name width ts).ok:=by have h1:=kI.ae;rw[HHT.ae] at h1;unfold Tr.ok at h1 ⊢;exact⟨h1.1,by rw[qA.ae];exact h1.2.1,h1.2.2.1,h1.2.2.2.1,h1.2.2.2.2.1,((kH (λ t _ s=>iT c.aF c.cols t s) s:pE args s (Tr.turns c.aF c.cols args s)).ok _ _ HT.ae) h1.2.2.2.2.2⟩
    have Ai:s1.aF.length<=140737488355328:=by have h1:=((kH (λ t _ s=>iT c.aF c.cols t s) s:pE args s (Tr.turns c.aF c.cols args s)).len _ _ HT.ae);have h2:=HLEN.ae;have h3:=aiX.ae;omega
    have xj:=aa (Tr.oT (cols:=s1.aF) (CA:=VA) (cc:=vc) Ai _ Kx wr Ol (J1 aiY) (M6 HP.ae.ps.dL));have hXN:=xX.ae;rw[if_neg Ia.ae] at hXN;generalize LE:(Tr.mk op xv name width ts).type s1.aF=R at*;obtain⟨ty,er⟩:=R;dsimp only at hXN xj;have uU:=aa hXN;clear aiY Ol Ai hXN LE hy iC xX Ia;open zef in exact Zcf):p:=h
theorem zfI.Kbs(h:p:=by rw[CU,show t.op=op from aiV,ha] at FV;have HIS:=aa FV;have VK:=aa CU;clear c4 c8 c10 hb1 hf FV CU Ej tx;go_wp2_with fail;have VU:=aa kN;have KK:=aa Lw;have hop:=VK.ae;rw[hop,aiV];refine(HIS.ae w1).mono ?_;rintro e w2 ⟨rfl,hb2⟩;rw[<- aiV,<- hop];have uC:=aa (CT.ae.later hb2);have hb:=VU.ae.later hb2;have Yf:=aa (KK.ae.later hb2);have fY:=aa (ai.then zX.ae (ai.then eX.ae hb2));clear hxo kN Lw hb2 hop VU KK eX CT;open zdW in exact ZbS):p:=h
theorem za3.Kae(h:p:=by open zfI in exact ZdP):p:=h
theorem Wu (c:PC)(w0:rQ)(gp:Nat)(r:Rest)(op:Int)(xv:Val)(name:t_)(width:Int)(args:uF)(z:Ex)(s:dp)(u v:Value)(ya:u_)(w:rQ)(hf:c.aF.findIdx? (λ g=>g.same (.mk op xv name width args))=none)(ha:isAgg op=false)(ih:∀a∈args,L1 c w0 gp r a)(aZ:c.Ok w0)(gP:(Tr.mk op xv name width args).ok)(hat:(Tr.mk op xv name width args).at_ w0 (Old w0) z)(nr:eQ c w0 gp r w u v ya s)(hlen:s.aF.length+s.aD.length+2*(Tr.mk op xv name width args).nodes<=1000000):
  ar 99 #[aw gp,.agg (az z)] w (rG c w0 gp r u v w ((Tr.mk op xv name width args).turn c.aF c.cols s)):=by
 obtain⟨t,ht⟩:∃t,t=Tr.mk op xv name width args:=⟨_,rfl⟩;have aiV:t.op=op:=by rw[ht];rfl
 have HIH:=aa ih;have HLEN:=aa hlen;have HHT:=aa ht;obtain⟨X,hX⟩:∃X,X=t.turn c.aF c.cols s:=⟨_,rfl⟩;have hXn:=hX;rw[ht,sS,hf] at hXn;dsimp only at hXn;rw[if_neg (by rw[ha];decide)] at hXn;have HX_:=aa hXn;have HF:=aa (iT c.aF c.cols t s);rw[<- hX] at HF;rw[<- ht] at hf gP hat ⊢;rw[<- hX];clear ht hX hXn ih hlen;open za3 in exact Zaq
theorem adp (c:PC)(w0:rQ)(gp:Nat)(r:Rest)(aZ:c.Ok w0):∀t,L1 c w0 gp r t:=by
 refine Tr.ind ?_;intro op xv name width args ih z s u v ya w gP hat nr hlen
 cases hf:c.aF.findIdx? (λ g=>g.same (.mk op xv name width args))with
 | some k=>have h:=QH c w0 gp r _ z s u v ya w k hf aZ gP hat nr;rw[sS,hf];exact h
 | none=>
   have hn:1<=(Tr.mk op xv name width args).nodes:=by rw[Tr.nodes];omega
   cases ha:isAgg op with
   | false=>exact Wu c w0 gp r op xv name width args z s u v ya w hf ha ih aZ gP hat nr hlen
   | true=>
     obtain⟨q,hq⟩:∃q,q=fZ c.cols op args:=⟨_,rfl⟩;obtain⟨ty,er⟩:=q;rw[sS,hf];dsimp only;rw[if_pos ha,<- hq];dsimp only;by_cases her:er=0
     ·subst her;rw[if_neg V0];exact MG c w0 gp r _ z s u v ya w hf ha ty hq.symm TD aZ gP hat nr
     ·rw[if_pos her];exact Jq c w0 gp r _ z s u v ya w hf ha ty er hq.symm her aZ gP hat nr
def ownPost (c:PC)(w0:rQ)(gp:Nat)(r:Rest)(u v:Value)(w:rQ)(x:tE (Tr×Int×dp))(e:Ending)(w':rQ):Prop:=
 match x with
 | .error er=>∃(y:Ex) (ty:Int) (u' v':Value),e=.returned (.tuple #[.agg (az y),ag ty,af er])/\ik gp w u v w' u' v'
 | .ok (t,ty,s)=>∃y u' v' ya,e=.returned (.tuple #[.agg (az y),ag ty,af 0])/\t.at_ w' (λ b=>(b < w0.heap.size\/w.heap.size<=b)/\Kp w' gp [u',v'] b) y/\eQ c w0 gp r w' u' v' ya s/\ik gp w u v w' u' v'
variable{w0:rQ}{ya:u_}
theorem eQ.N6{c:PC}   {r:Rest}   (h:eQ c w0 gp r w u v ya s)  (hat:t.at_ w0 (Old w0) z):t.at_ w (λ b=>b < w0.heap.size/\Kp w gp [u,v] b) z:=
 Tr.at_.keep (λ b hb=>⟨λ o=>h.base.cell (p:=⟨b,o,none⟩) hb,hb,eC.2 ⟨Nat.lt_of_lt_of_le hb h.base.size,λ e=>by have:=h.low;have:b < w0.heap.size:=hb;omega,λ e=>by have:=h.kp9 b e;have:b < w0.heap.size:=hb;omega,λ e=>by have:=h.avC b e;have:b < w0.heap.size:=hb;omega⟩⟩) t z hat
theorem zbF.Kal(h:p:=by
 refine bodyPost_ret (v:=.tuple #[.agg (az z),ag ty,af er]) Tat rfl ?_;by_cases her:er=0
 ·subst her;have MN:=uU.ae;rw[if_neg V0] at MN;rw[MN];refine⟨z,u,v,ya,rfl,?_,Km.ae.aside kQ MO.ae Tbe,((ik.refl gp w u v).later apg.ae).own kQ mH.ae⟩;exact Tr.at_.keep (λ b hb=>⟨λ o=>bI (kQ.block b hb.2.1 (λ e=>by injection e with e;have:=hb.1;have:=pF.ae.base.size;have:=mH.ae;omega)) o,.inl hb.1,hb.2.size kQ.size⟩) t z (Km.ae.N6 CS.ae)
 ·have MN:=uU.ae;rw[if_pos her] at MN;rw[MN];exact⟨z,ty,_,_,rfl,((ik.refl gp w u v).later apg.ae).own kQ mH.ae⟩):p:=h
theorem zcq.Kav(h:p:=by
 have Gp:=ME.frozen;clear k1 ME;go_wp2_with fail;clear z0 z1 x2 x3 x4 x5 x6 y0 y1 c2 y3 y4 y5 y6 Gp;generalize uD:World.setCell _ _ _=W9;have hR:aB W9 g4 46 (az z):=by rw[<- uD];simpa using(((((((HP.ae.aT 0 _).aT 1 _).aT 2 _).aT 3 _).aT 4 _).aT 5 _).aT 6 _)
 have kQ:W3.grownBy W9 (some g4):=by rw[<- uD];exact aG (aG (aG (aG (aG (aG (aG (aO (Below.refl _ _)) _ _) _ _) _ _) _ _) _ _) _ _) _ _
 open zbF in exact ZaA):p:=h
theorem zbb.Kag(h:p:=by have ME:=HP.ae;open zcq in exact Za4):p:=h
theorem zfK.Kbt(h:p:=by refine bodyPost_ret (v:=.tuple #[.agg (az Kx),ag 0,af er]) Tat rfl ?_;rw[adq.ae];exact⟨Kx,0,_,_,rfl,HG.ae.own kQ mH.ae⟩):p:=h
theorem zcr.Kav(h:p:=by
 have Gp:=ME.frozen;clear k1 ME HX;go_wp2_with fail;clear z0 z1 x2 x3 x4 x5 x6 y0 y1 c2 y3 y4 y5 y6 Gp hne;generalize hWX:World.setCell _ _ _=WX;have hR:aB WX g4 46 (az Kx):=by rw[<- hWX];simpa using(((((((HP.ae.aT 0 _).aT 1 _).aT 2 _).aT 3 _).aT 4 _).aT 5 _).aT 6 _)
 have kQ:W9.grownBy WX (some g4):=by rw[<- hWX];exact aG (aG (aG (aG (aG (aG (aG (aO (Below.refl _ _)) _ _) _ _) _ _) _ _) _ _) _ _) _ _
 open zfK in exact ZdS):p:=h
theorem zfL.Kbt(h:p:=by
 refine bodyPost_ret (v:=.tuple #[.agg (az Kx),ag ty,af er]) Tat rfl ?_;by_cases her:er=0
 ·subst her;have MN:=adq.ae;rw[if_neg V0] at MN;rw[MN];refine⟨Kx,u',_,M8,rfl,?_,Rc.ae.aside kQ HK8.ae Tbe,uX.ae.own kQ mH.ae⟩;exact Tr.at_.keep (λ b hb=>⟨λ o=>bI (kQ.block b hb.2.1 (λ e=>by injection e with e;have:=hb.1;have:=HWS.ae;omega)) o,.inr (by have:=hb.1;have:=HWS.ae;omega),hb.2.size kQ.size⟩) t1 Kx avV.ae
 ·have MN:=adq.ae;rw[if_pos her] at MN;rw[MN];exact⟨Kx,ty,_,_,rfl,uX.ae.own kQ mH.ae⟩):p:=h
theorem zcs.Kav(h:p:=by
 have Gp:=ME.frozen;clear k1 ME;go_wp2_with fail;clear z0 z1 x2 x3 x4 x5 x6 y0 y1 c2 y3 y4 y5 y6 Gp hne;generalize hWX:World.setCell _ _ _=WX;have hR:aB WX g4 46 (az Kx):=by rw[<- hWX];simpa using(((((((Ap.ae.aT 0 _).aT 1 _).aT 2 _).aT 3 _).aT 4 _).aT 5 _).aT 6 _)
 have kQ:W3.grownBy WX (some g4):=by rw[<- hWX];exact aG (aG (aG (aG (aG (aG (aG (aO (Below.refl _ _)) _ _) _ _) _ _) _ _) _ _) _ _) _ _
 open zfL in exact ZdS):p:=h
theorem zee.KaU(h:p:=by have Rc:=aa (Km.ae.later hL);have uX:=aa (HG.ae.later hL);have avV:=aa (((ik.refl gp W9 u' (.slice VA s1.aF.length vc)).later hL).tree HYA.ae);have HK8:=aa (MO.ae.size hL.size);clear hL WE HP Km HG HYA MO Oi xj;have hne:=nO.ae;have k1:=TA.ae;have z0:=k1.cell 0;have z1:=k1.cell 1;have x2:=k1.cell 2;have x3:=k1.cell 3;have x4:=k1.cell 4;have x5:=k1.cell 5;have x6:=k1.cell 6;simp only[Uaa] at z0 z1 x2 x3 x4 x5 x6;have ME:=Ap.ae;open zcs in exact Za4):p:=h
theorem zbc.Kag(h:p:=by
 clear k1;go_wp2_with fail;clear z0 z1 x2 x3 x4 x5 x6 c10;refine(adp c w0 gp r je.ae t z s u v ya W kI.ae CS.ae sQ.ae HLEN.ae).mono ?_;intro e w6 hp;have tQ:=aa (iT c.aF c.cols t s)
 cases hr:Tr.turn c.aF c.cols t s with
 | error er=>
   have jL:=uU.ae;rw[hr] at hp tQ jL;obtain⟨Kx,u',v',rfl,hst⟩:=hp;have her:=tQ.ae.err _ rfl;have adq:=aa (show X=.error er from jL);have t1:(er != 0)=true:=by simp[her]
   have bg:=ah w6 (.cells (az Kx) 46);have HX:=aB.new w6 46 (az Kx);have HP:=aa ((hst.blk tx.ae CW.ae).later bg);have HG:=aa ((((ik.refl gp w u v).later zX.ae).trans hst).later bg);have nO:=aa (show g4≠w6.heap.size by have:=tx.ae.lt;have:=hst.size;omega);clear jL hr her hst uU bg;go_upto_region 5 with fail;generalize w6.alloc (.cells (az Kx) 46)=W9 at*;generalize w6.heap.size=g9 at*;have hne:=nO.ae;have k1:=HX;have z0:=k1.cell 0;have z1:=k1.cell 1;have x2:=k1.cell 2;have x3:=k1.cell 3;have x4:=k1.cell 4;have x5:=k1.cell 5;have x6:=k1.cell 6;simp only[Uaa] at z0 z1 x2 x3 x4 x5 x6;have ME:=HP.ae;open zcr in exact Za4
 | ok q=>
   obtain⟨t1,s1⟩:=q;have jL:=uU.ae;rw[hr] at hp tQ jL;obtain⟨Kx,u',v',M8,rfl,uG,pJ,hst⟩:=hp;have bg:=ah w6 (.cells (az Kx) 46);have HX:=aB.new w6 46 (az Kx);have HP:=aa ((hst.blk tx.ae CW.ae).later bg);have MO:=aa ((hst.kp CW.ae).size bg.size);have HG:=aa ((((ik.refl gp w u v).later zX.ae).trans hst).later bg);have Km:=aa (pJ.later bg);have HYA:=aa (((ik.refl gp w6 u' v').later bg).tree uG);have nO:=aa (show g4≠w6.heap.size by have:=tx.ae.lt;have:=hst.size;omega);have HWS:=aa (show g4 < W.heap.size/\w.heap.size<=W.heap.size from⟨tx.ae.lt,zX.ae.size⟩);clear hr hst pJ uG bg;go_upto_region 5 with fail
   generalize w6.alloc (.cells (az Kx) 46)=W9 at*;generalize w6.heap.size=g9 at*;have WE:=aa HX;clear HX;obtain⟨VA,vc,EW,_⟩:=Km.ae.dL.reads;subst EW;have iC:=Km.ae.blk;unfold PC.cells at iC;have Oi:=aa (show W9.cell? ⟨gp,10,none⟩=some (.slice VA s1.aF.length vc)from by
    have:=iC.cell 10
    simpa using this)
   have QP:=aa iC.lt;have Ai:s1.aF.length<=140737488355328:=by have h1:=tQ.ae.len _ _ rfl;have h2:=HLEN.ae;omega
   have xj:=aa (Tr.oT (cols:=s1.aF) (CA:=VA) (cc:=vc) Ai t1 Kx W9 (tQ.ae.ok _ _ rfl kI.ae) (J1 HYA.ae) (M6 Km.ae.dL));generalize KK:t1.type s1.aF=R at*;obtain⟨ty,er⟩:=R;dsimp only at jL xj;have adq:=aa jL;clear KK jL iC Ai uU;go_wp2_with fail;open zee in exact Zcf):p:=h
theorem zeq.KaY(h:p:=by
 have hk4:=pF.ae.fresh (w2:=W) mH.ae tx.ae.lt;have CW:=aa hk4;have uH:=aa (pF.ae.fresh (w2:=W) Jp.ae Ej.ae.lt);clear hk4
 cases hg:c.aI with
 | false=>
   rw[hg] at c10;have jL:=HX_.ae;unfold mb at jL;rw[hg,if_pos rfl] at jL;have Oi:=aa c4;have QP:=aa sQ.ae.blk.lt;have xj:=aa (Tr.oT (cols:=c.cols) (CA:=c.cA) (cc:=c.cc) Tbb t z W kI.ae (CS.ae.later sQ.ae.base) (je.ae.cols.later sQ.ae.base));generalize KK:t.type c.cols=R at*;obtain⟨ty,er⟩:=R;dsimp only at jL xj;have uU:=aa jL;clear KK jL c4 c8 hg;go_wp2_with fail;clear c10;refine bz 11 (Gt gp 8 c.cA c.cols.length c.cc ty er z) (nx _ _ _ _ _ _ _ _) WC WC WC ?_ ?_
   ·simp only[take_succ_cons,take_zero];refine⟨ZgL,Zaa,Zaa,Zaa,Zb7,?_,Zaa,Zaa,Zaa,Zaa,Zaa,trivial⟩
    ·intro ρ w3 hc hL hr;have h0:_=_:=hr.1;have h1:_=_:=hr.2.1;have e1:=hc.func 59;refine bp (f:=59) (args:= #[.agg (az z),.slice c.cA c.cols.length c.cc]) (w':=w3) Taq ?_;exact ZfR
   intro W3 hL;simp only[Uab];rintro a0 - a1 - a2 - a3 - a4 - a5 - a6 - a7 - a8 - _ rfl _ rfl;simp only[bA,Act.put,Uac];have AO:=aa (Ej.ae.later hL);have HP:=aa (tx.ae.later hL);have Km:=aa (sQ.ae.later hL);have apg:=aa (ai.then zX.ae hL);have MO:=aa (CW.ae.size hL.size);clear hL Ej tx sQ zX Oi xj CW uH;have k1:=AO.ae;open zbb in exact Zau
 | true=>rw[hg] at c10;have jL:=HX_.ae;unfold mb at jL;rw[hg,if_neg V0] at jL;have uU:=aa jL;clear jL c4 c8 hg HX_;have k1:=Ej.ae;open zbc in exact Zau):p:=h
theorem zhl.Kb7(h:p:=by go_enter Tryz.func61,Tryz.ntmps61;open zeq in exact Zcl):p:=h
theorem ze1.Kbb(h:p:=by have c4:=iC.cell 8;have c10:=iC.cell 11;have c8:=iC.cell 10;open zhl in exact Zf2):p:=h
theorem Db (c:PC)(w0:rQ)(gp:Nat)(r:Rest)(t:Tr)(z:Ex)(s:dp)(u v:Value)(ya:u_)(w:rQ)(aZ:c.Ok w0)(gP:t.ok)(hat:t.at_ w0 (Old w0) z)(nr:eQ c w0 gp r w u v ya s)(hlen:s.aF.length+s.aD.length+2*t.nodes<=1000000):
  ar 61 #[aw gp,.agg (az z)] w (ownPost c w0 gp r u v w (mb c.aI c.aF c.cols t s)):=by have HLEN:=aa hlen;clear hlen;obtain⟨X,hX⟩:∃X,X=mb c.aI c.aF c.cols t s:=⟨_,rfl⟩;rw[<- hX];have HX_:=aa hX;clear hX;open ze1 in exact ZcW
variable{ρ:Operand->Value}{T:Value->rQ->Prop}
theorem zep.KaX(h:p:=by
 unfold xq execOp;simp only[ho,hp,hx,Instr.storeAt,Instr.sureAddr,Sem.run_bind,Sem.run_pure,Result.andThen_ok,hrun];refine h _ ⟨?_,.inr ⟨q,c,_,?_,hb,setRow_heap w q cur _ e (0,0) hg,?_,hm,?_,?_⟩⟩ ⟨rfl,rfl,rfl,by simp[World.setRow],λ k hk hne=>setRow_other w q k _ (λ e=>hne Tbd)⟩
 ·rw[Gq hf]
 ·rw[e2,length_set]
 ·rw[length_set];exact hn
 ·rw[<- hs];simp[hf];omega
 ·exact ZbB):p:=h
theorem EJ{size base:Nat}   {y:α}  {o:Oper}  (ty:TypeId)(p x:Operand)(ho:o.op=.store ty p x)
  (q n c i:Nat) (hf:∀x,(f x).length=size) (hown:aH f e size w base (aL q n c) l) (rW:i < l.length) (hp:ρ p=bc q (i*size)) (hx:ρ x=.agg (f y).toArray)
  (hi:(P.info? ty).map (·.size)=some size) (h1:(f y).toArray.all (·.oneCell')=true)
  (h:∀w',aH f e size w' base (aL q n c) (l.set i y)->w.grownBy w' (some q)->T undef w'):xq P o ρ w T:=by
 rcases hown.2 with ⟨hv,_⟩|⟨g,cap,cur,hv,hb,hg,hn,hm,hs,ht⟩
 ·cases hv
 ·open zep in exact Zck
theorem Dc{size base:Nat}   {z y:α}  {o:Oper}  (ty:TypeId)(p x:Operand)(ho:o.op=.store ty p x)
  (q n c:Nat) (hf:∀x,(f x).length=size) (hown:aH f e size w base (aL q n c) (l++ [z])) (hp:ρ p=bc q (l.length*size)) (hx:ρ x=.agg (f y).toArray)
  (hi:(P.info? ty).map (·.size)=some size) (h1:(f y).toArray.all (·.oneCell')=true)
  (h:∀w',aH f e size w' base (aL q n c) (l++ [y])->w.grownBy w' (some q)->T undef w'):xq P o ρ w T:=by
 refine EJ ty p x ho q n c l.length hf hown Taa hp hx hi h1 λ w' h1 h2=>h w' ?_ h2
 exact ZgI
variable{V V':Nat->rQ->Value->Prop}{K:Act->rQ->Prop}
theorem bA.weaken:∀ {l:List Oper} {k:Nat} {a:Act} {w:rQ},(∀i w v,V' i w v->V i w v)->bA V K l k a w->bA V' K l k a w:=by
 intro l
 induction l with
 | nil=>intro k a w _ h;exact h
 | cons o l ih=>
   intro k a w hv h;unfold bA at h ⊢;revert h
   cases o.dst with
   | none=>intro h;exact ih hv h
   | some d=>intro h;exact λ x hx=>ih hv (h x (hv _ _ _ hx))
structure LaA (W:rQ) (z:Option Value) (w:rQ):Prop where
 below:aj W w
 zero:∀x,z=some x->∃g0,x=aL g0 1 1/\aB w g0 46 (bD wJ).toArray
structure LaB (gp k B:Nat) (W:rQ) (cs:x_) (r:Value) (ys:u_) (y:Ex) (a:Value) (s p:Bool) (w:rQ):Prop where
 row:∃q c,a=.slice (some ⟨q,0,none⟩) (ys.length+1) c/\q≠gp
 own:aH bD 46 7 w B a (ys++ [if s=true then y else wJ])
 blk:aB w gp 81 (if p=true then cs.setIfInBounds k a else cs)
 far:∀b,b < W.heap.size->b≠gp->r.ownBlock≠some b->w.heap[b]?=W.heap[b]?
 os:w.os=W.os
 tape:w.tape=W.tape
 output:w.output=W.output
 size:W.heap.size<=w.heap.size
 mv:Mv W r a
variable{k:Nat}{W:rQ}{cs:x_}{r:Value}
theorem LaB.later{a:Value}  {y:Ex} {s p:Bool}(h:LaB gp k B W cs r ys y a s p w)(hb:aj w w'):LaB gp k B W cs r ys y a s p w':=
 ⟨h.row,h.own.later hb,h.blk.later hb,λ b h1 h2 h3=>(hb.block b (Nat.lt_of_lt_of_le h1 h.size)).trans (h.far b h1 h2 h3),hb.os.trans h.os,hb.tape.trans h.tape,hb.output.trans h.output,Nat.le_trans h.size hb.size,h.mv⟩
def apj (o0 o1 o2 o3 o4 o5 o6 o7 o8 o9 qu xp uZ:Oper)(s0 s1 d0 d1 d2 d3 d4 d5 d6 d7 d8 d10 d11:Tmp):Bool:=
 (tmpsOf o0== [s0])&&(df [o0,o1,o2,o3,o4,o5,o6,o7,o8,o9,qu,xp,uZ] o0 s0==none)&&(tmpsOf o1== [d0])&&(df [o0,o1,o2,o3,o4,o5,o6,o7,o8,o9,qu,xp,uZ] o1 d0==some 0)&&(tmpsOf o2== [d1])&&(df [o0,o1,o2,o3,o4,o5,o6,o7,o8,o9,qu,xp,uZ] o2 d1==some 1)&&(tmpsOf o3== [d2])&&(df [o0,o1,o2,o3,o4,o5,o6,o7,o8,o9,qu,xp,uZ] o3 d2==some 2)&&(tmpsOf o4== [s1])&&(df [o0,o1,o2,o3,o4,o5,o6,o7,o8,o9,qu,xp,uZ] o4 s1==none)&&(tmpsOf o5== [d3])&&(df [o0,o1,o2,o3,o4,o5,o6,o7,o8,o9,qu,xp,uZ] o5 d3==some 3)&&(tmpsOf o6== [])&&(tmpsOf o7== [d3,d6])&&(df [o0,o1,o2,o3,o4,o5,o6,o7,o8,o9,qu,xp,uZ] o7 d3==some 3)&&(df [o0,o1,o2,o3,o4,o5,o6,o7,o8,o9,qu,xp,uZ] o7 d6==some 6)&&(tmpsOf o8== [d7,d5])&&(df [o0,o1,o2,o3,o4,o5,o6,o7,o8,o9,qu,xp,uZ] o8 d7==some 7)&&(df [o0,o1,o2,o3,o4,o5,o6,o7,o8,o9,qu,xp,uZ] o8 d5==some 5)&&(tmpsOf o9== [d8,d4])&&(df [o0,o1,o2,o3,o4,o5,o6,o7,o8,o9,qu,xp,uZ] o9 d8==some 8)&&(df [o0,o1,o2,o3,o4,o5,o6,o7,o8,o9,qu,xp,uZ] o9 d4==some 4)&&(tmpsOf qu== [d0])&&(df [o0,o1,o2,o3,o4,o5,o6,o7,o8,o9,qu,xp,uZ] qu d0==some 0)&&(tmpsOf xp== [d10])&&(df [o0,o1,o2,o3,o4,o5,o6,o7,o8,o9,qu,xp,uZ] xp d10==some 10)&&(tmpsOf uZ== [d11,d7])&&(df [o0,o1,o2,o3,o4,o5,o6,o7,o8,o9,qu,xp,uZ] uZ d11==some 11)&&(df [o0,o1,o2,o3,o4,o5,o6,o7,o8,o9,qu,xp,uZ] uZ d7==some 7)&& o0.guard.isNone && o1.guard.isNone && o2.guard.isNone && o3.guard.isNone && o4.guard.isNone && o5.guard.isNone && o6.guard.isNone && o7.guard.isNone && o8.guard.isNone && o9.guard.isNone && qu.guard.isNone && xp.guard.isNone && uZ.guard.isNone && iJ o7 3 && iJ o7 6 && iJ o8 7 && iJ o9 7 && iJ uZ 7
def Ao (gp k B:Nat)(W:rQ)(cs:x_)(r:Value)(ys:u_)(y:Ex)(σ:Nat->Option Value)(w:rQ):Prop:=
 match σ 7 with
 | none=>σ 8=none/\σ 9=none/\σ 12=none/\(∀x,σ 3=some x->x=r)/\LaA W (σ 6) w
 | some a=>(σ 3).isSome=true/\(σ 6).isSome=true/\(∀x,σ 3=some x->x=r)/\LaB gp k B W cs r ys y a (σ 9).isSome (σ 12).isSome w/\∀x,σ 8=some x->∃G cap,a=.slice (some ⟨G,0,none⟩) (ys.length+1) cap/\x=.pointer (some ⟨G,ys.length*7,none⟩)
theorem N7{y:Ex}(σ:Nat->Option Value)(w:rQ)(h:Ao gp k B W cs r ys y σ w):Ao gp k B W cs r ys y σ w.drew:=by
 have hb:aj w w.drew:=(Below.refl _ _).drew;unfold Ao at*
 cases ha:σ 7 with
 | none=>rw[ha] at h;obtain⟨h1,h2,h3,h4,h5⟩:=h;exact⟨h1,h2,h3,h4,⟨Below.trans h5.below (hb.mono h5.below.size),λ x hx=>by obtain⟨g0,k1,k2⟩:=h5.zero x hx;exact⟨g0,k1,k2.later hb⟩⟩⟩
 | some a=>rw[ha] at h;obtain⟨h1,h2,h3,h4,h5⟩:=h;exact⟨h1,h2,h3,h4.later hb,h5⟩
section
variable {gp k B gx:Nat} {W:rQ} {cs:x_} {r:Value} {ys:u_} {y:Ex} {Q:yD} {a0:Act} {id:Nat} {o0 o1 o2 o3 o4 o5 o6 o7 o8 o9 qu xp uZ:Oper} {s0 s1 d0 d1 d2 d3 d4 d5 d6 d7 d8 d10 d11:Tmp}
theorem zhi.Kb6(h:p:=by rw[ha] at r0;injection r0 with r0;refine aq (h8 ρ w q c (r0.symm.trans e1) r1) ?_;show Ao gp k B W cs r ys y _ _;unfold Ao;simp only[gX,ha,kx,Nat.reduceEqDiff,if_true,if_false];exact⟨k1,k2,k3,zz,λ x e=>by injection e with e;exact⟨q,c,e1,e.symm⟩⟩):p:=h
theorem zhj.Kb6(h:p:=by
 obtain⟨G2,ahw,e7,e8⟩:=k5 _ r0;rw[kx] at zz;have ho:=zz.own;rw[e7] at ho e1;injection e1 with e1 _ e3;injection e1 with e1;injection e1 with e1 _ _;subst e1 e3;refine Dc 46 (.tmp d8) (.tmp d4) h9 G2 (ys.length+1) ahw (f:=bD) (y:=y) (l:=ys) (λ _=>rfl) ho e8 r1 WC TaB ?_;intro w' Bi Sj;show Ao gp k B W cs r ys y _ _;unfold Ao;simp only[gX,ha,Nat.reduceEqDiff,if_true,if_false,Option.isSome_some];refine⟨k1,k2,k3,⟨⟨G2,ahw,e7,e2⟩,by rw[e7];exact Bi,zz.blk.grown Sj (λ e=>by injection e with e;exact e2 e.symm),λ b h1 h2 h3=>?_,Sj.os.trans zz.os,Sj.tape.trans zz.tape,Sj.output.trans zz.output,Nat.le_trans zz.size Sj.size,zz.mv⟩,k5⟩;refine(Sj.block b (Nat.lt_of_lt_of_le h1 zz.size) λ e=>?_).trans (zz.far b h1 h2 h3);injection e with e;rcases zz.mv with h | h
 ·rw[e7] at h;exact h3 (by rw[<- h,e];rfl)
 ·have:=h G2 (by rw[e7];rfl);omega):p:=h
theorem zhk.Kb6(h:p:=by rw[ha] at r1;injection r1 with r1;rw[kx] at zz;have kj:aB w gp 81 cs:=zz.blk;have hrun:=h12 ρ w (some ⟨q,0,none⟩) (ys.length+1) c r0 (r1.symm.trans e1) (by rw[kj.cell];exact hcs) (kj.frozen _);unfold xq;rw[hrun];show Ao gp k B W cs r ys y _ _;unfold Ao;simp only[gX,ha,Nat.reduceEqDiff,if_true,if_false,Option.isSome_some];have apr:=zz.own;refine⟨k1,k2,k3,⟨⟨q,c,e1,e2⟩,apr.keep λ g hg2=>Below.heap_setCell w ⟨gp,k,none⟩ _ g λ e=>?_,by rw[<- e1];exact kj.aT k a,λ b h1 h2 h3=>(Below.heap_setCell w ⟨gp,k,none⟩ _ b h2).trans (zz.far b h1 h2 h3),zz.os,zz.tape,zz.output,by rw[World.size_setCell];exact zz.size,zz.mv⟩,k5⟩;rw[e1] at hg2;injection hg2 with hg2;exact e2 (hg2.trans e)):p:=h
theorem Gv (hm:Tryz.prog.follows .mixedOrders=true)(aZ:dP [o0,o1,o2,o3,o4,o5,o6,o7,o8,o9,qu,xp,uZ] a0.tmps.size [o0,o1,o2,o3,o4,o5,o6,o7,o8,o9,qu,xp,uZ] 0=true)(Cm:apj o0 o1 o2 o3 o4 o5 o6 o7 o8 o9 qu xp uZ s0 s1 d0 d1 d2 d3 d4 d5 d6 d7 d8 d10 d11=true)
  (es0:a0.eval (.tmp s0)=.pointer (some ⟨gp,0,none⟩)) (es1:a0.eval (.tmp s1)=.pointer (some ⟨gx,0,none⟩))
  (h0:∀ρ w,ρ (.tmp s0)=.pointer (some ⟨gp,0,none⟩)->(execOp ρ o0).run Tryz.prog w=.ok (.value (.pointer (some ⟨gp,0,none⟩))) w)
  (h1:∀ρ w,ρ (.tmp d0)=.pointer (some ⟨gp,0,none⟩)->(execOp ρ o1).run Tryz.prog w=.ok (.value (.pointer (some ⟨gp,0,none⟩))) w)
  (h2:∀ρ w,ρ (.tmp d1)=.pointer (some ⟨gp,0,none⟩)->(execOp ρ o2).run Tryz.prog w=.ok (.value (.pointer (some ⟨gp,k,none⟩))) w)
  (h3:∀ρ w,ρ (.tmp d2)=.pointer (some ⟨gp,k,none⟩)->w.cell? ⟨gp,k,none⟩=some r->(execOp ρ o3).run Tryz.prog w=.ok (.value (r)) w)
  (h4:∀ρ w,ρ (.tmp s1)=.pointer (some ⟨gx,0,none⟩)->aB w gx 46 (bD y).toArray->(execOp ρ o4).run Tryz.prog w=.ok (.value (.agg (bD y).toArray)) w)
  (h5:∀ρ w,ρ (.tmp d3)=r->(execOp ρ o5).run Tryz.prog w=.ok (.value (.int .i64 (ys.length:Int))) w)
  (h6:∀ρ w,oG ρ->(execOp ρ o6).run Tryz.prog w=.ok (.value (.slice (some ⟨w.heap.size,0,none⟩) 1 1)) (w.alloc (.cells (bD wJ).toArray 46)))
  (h7:∀ρ w x v' w',ρ (.tmp d3)=r->ρ (.tmp d6)=x->(Builtin.append_ #[23,23] 23 #[r,x]).run Tryz.prog w=.ok v' w'->(execOp ρ o7).run Tryz.prog w=.ok (.value v') w')
  (h8:∀ρ w G cap,ρ (.tmp d7)=.slice (some ⟨G,0,none⟩) (ys.length+1) cap->ρ (.tmp d5)=.int .i64 (ys.length:Int)->(execOp ρ o8).run Tryz.prog w=.ok (.value (.pointer (some ⟨G,ys.length*7,none⟩))) w)
  (h9:o9.op=.store 46 (.tmp d8) (.tmp d4))
  (h10:∀ρ w,ρ (.tmp d0)=.pointer (some ⟨gp,0,none⟩)->(execOp ρ qu).run Tryz.prog w=.ok (.value (.pointer (some ⟨gp,0,none⟩))) w)
  (h11:∀ρ w,ρ (.tmp d10)=.pointer (some ⟨gp,0,none⟩)->(execOp ρ xp).run Tryz.prog w=.ok (.value (.pointer (some ⟨gp,k,none⟩))) w)
  (h12:∀ρ w A m c,ρ (.tmp d11)=.pointer (some ⟨gp,k,none⟩)->ρ (.tmp d7)=.slice A m c->w.cell? ⟨gp,k,none⟩=some r->w.frozen? ⟨gp,k,none⟩=false->(execOp ρ uZ).run Tryz.prog w=.ok .skip (w.setCell ⟨gp,k,none⟩ (.slice A m c)))
  (hcs:cs[k]?=some r) (hB:B<=W.heap.size) (hblk:aB W gp 81 cs) (hown:aH bD 46 7 W B r ys) (hlen:ys.length<=1000000)
  (hgx:aB W gx 46 (bD y).toArray) (hxg:gx≠gp) (hxr:r.ownBlock≠some gx)
  (ml:∀a w,LaB gp k B W cs r ys y a true true w->bA (λ _ _ _=>True) (λ a w=>wpList Tryz.prog [o0,o1,o2,o3,o4,o5,o6,o7,o8,o9,qu,xp,uZ].toArray Q [] a w) [o0,o1,o2,o3,o4,o5,o6,o7,o8,o9,qu,xp,uZ] 0 a0 w):
  (Code.region id [o0,o1,o2,o3,o4,o5,o6,o7,o8,o9,qu,xp,uZ].toArray true).wp Tryz.prog Q a0 W:=by
 simp only[apj,Bool.and_eq_true,beq_iff_eq,Option.isNone_iff_eq_none] at Cm;obtain⟨⟨⟨⟨⟨⟨⟨⟨⟨⟨⟨⟨⟨⟨⟨⟨⟨⟨⟨⟨⟨⟨⟨⟨⟨⟨⟨⟨⟨⟨⟨⟨⟨⟨⟨⟨⟨⟨⟨⟨⟨⟨⟨⟨⟨⟨t0,avX⟩,t1⟩,avY⟩,t2⟩,avZ⟩,t3⟩,awa⟩,t4⟩,awb⟩,t5⟩,awc⟩,t6⟩,t7⟩,awd⟩,awe⟩,t8⟩,awf⟩,awg⟩,t9⟩,awh⟩,awi⟩,t10⟩,apl⟩,t11⟩,apm⟩,t12⟩,apn⟩,apo⟩,g0⟩,g1⟩,g2⟩,g3⟩,g4⟩,g5⟩,g6⟩,g7⟩,g8⟩,g9⟩,g10⟩,g11⟩,g12⟩,awj⟩,aDo⟩,awk⟩,awl⟩,apq⟩:=Cm;refine mU [] [o0,o1,o2,o3,o4,o5,o6,o7,o8,o9,qu,xp,uZ] Taa (λ i=>if i=0 then .pointer (some ⟨gp,0,none⟩)else if i=1 then .pointer (some ⟨gp,0,none⟩)else if i=2 then .pointer (some ⟨gp,k,none⟩)else if i=4 then(.agg (bD y).toArray)else if i=5 then .int .i64 (ys.length:Int)else if i=10 then .pointer (some ⟨gp,0,none⟩)else if i=11 then .pointer (some ⟨gp,k,none⟩)else undef) [3,6,7,8,9,12] (Ao gp k B W cs r ys y) N7 ⟨rfl,rfl,rfl,(λ x e=>by cases e),⟨Below.refl _ _,λ x e=>by cases e⟩⟩ hm aZ rfl rfl ?_ ?_
 ·refine⟨?_,?_,?_,?_,?_,?_,?_,?_,?_,?_,?_,?_,?_,trivial⟩
  ·intro ρ w σ hc hG hr he hno;rw[t0] at hr;have r0:=hr.1;simp only[avX] at r0;refine⟨g0,?_⟩;exact h0 ρ w (r0.trans es0)
  ·intro ρ w σ hc hG hr he hno;rw[t1] at hr;have r0:=hr.1;simp only[avY] at r0;unfold nG at r0;rw[if_neg V0] at r0;refine⟨g1,?_⟩;exact h1 ρ w r0
  ·intro ρ w σ hc hG hr he hno;rw[t2] at hr;have r0:=hr.1;simp only[avZ] at r0;unfold nG at r0;rw[if_neg V0] at r0;refine⟨g2,?_⟩;exact h2 ρ w r0
  ·intro ρ w σ hc hG hr he hno;rw[t3] at hr;have r0:=hr.1;simp only[awa] at r0;unfold nG at r0;rw[if_neg V0] at r0;refine⟨g3,?_⟩;rw[if_pos V0];have kx:=hno V0;unfold Ao at hG
   have ha:σ 7=none:=by
    cases ha:σ 7 with
    | none=>rfl
    | some a=>rw[ha] at hG;have:=hG.1;rw[kx] at this;cases this
   rw[ha] at hG;obtain⟨k1,k2,k3,k4,hA⟩:=hG;refine aq (h3 ρ w r0 ?_) ?_
   ·rw[(hblk.later hA.below).cell];exact hcs
   show Ao gp k B W cs r ys y _ _;unfold Ao;simp only[gX,ha,k1,k2,k3,Nat.reduceEqDiff,if_true,if_false];exact⟨trivial,trivial,trivial,λ x e=>by injection e with e;exact e.symm,hA⟩
  ·intro ρ w σ hc hG hr he hno;rw[t4] at hr;have r0:=hr.1;simp only[awb] at r0;refine⟨g4,?_⟩;refine h4 ρ w (r0.trans es1) ?_;unfold Ao at hG
   cases ha:σ 7 with
   | none=>rw[ha] at hG;exact hgx.later hG.2.2.2.2.below
   | some a=>rw[ha] at hG;exact(hG.2.2.2.1.far gx hgx.lt hxg hxr).trans hgx
  ·intro ρ w σ hc hG hr he hno;rw[t5] at hr;have r0:=hr.1;simp only[awc] at r0;unfold nG at r0;rw[if_pos V0] at r0;refine⟨g5,?_⟩;refine h5 ρ w ?_;unfold Ao at hG
   cases ha:σ 7 with
   | none=>rw[ha] at hG;exact hG.2.2.2.1 _ r0
   | some a=>rw[ha] at hG;exact hG.2.2.1 _ r0
  ·intro ρ w σ hc hG hr he hno;rw[t6] at hr;refine⟨g6,?_⟩;rw[if_pos V0];have kx:=hno V0;unfold Ao at hG
   have ha:σ 7=none:=by
    cases ha:σ 7 with
    | none=>rfl
    | some a=>rw[ha] at hG;have:=hG.2.1;rw[kx] at this;cases this
   rw[ha] at hG;obtain⟨k1,k2,k3,k4,hA⟩:=hG;refine aq (h6 ρ w hc) ?_;show Ao gp k B W cs r ys y _ _;unfold Ao;simp only[gX,ha,k1,k2,k3,Nat.reduceEqDiff,if_true,if_false];exact⟨trivial,trivial,trivial,k4,⟨hA.below.alloc hA.below.size _,λ x e=>by injection e with e;exact⟨w.heap.size,e.symm,aB.new w _ _⟩⟩⟩
  ·intro ρ w σ hc hG hr he hno;rw[t7] at hr;have r0:=hr.1;simp only[awd] at r0;unfold nG at r0;rw[if_pos V0] at r0;have r1:=hr.2.1;simp only[awe] at r1;unfold nG at r1;rw[if_pos V0] at r1;refine⟨g7,?_⟩;rw[if_pos V0];have kx:=hno V0;unfold Ao at hG;rw[kx] at hG;obtain⟨k1,k2,k3,k4,hA⟩:=hG;have awm:=he 3 (cO.1 awj) V0;obtain⟨lv,hlv⟩:=Option.isSome_iff_exists.1 awm;obtain⟨z0,hz1,hz2⟩:=hA.zero _ r1;obtain⟨v',w',hrun,ho,yL,Ey⟩:=eY (P:=Tryz.prog) (w:=w) 23 23 _ 88 Tryz.underlying23 gC rfl TD (λ _=>rfl) (y:=wJ) (by simp[bD,wJ,Value.oneCell']) (hown.later hA.below) z0 hz2 TD TD (Nat.le_trans hB hA.below.size);rw[<- hz1] at hrun;refine aq (h7 ρ w _ v' w' (k4 _ r0) rfl hrun) ?_;show Ao gp k B W cs r ys y _ _;unfold Ao;simp only[gX,hlv,k1,k2,k3,r1,Nat.reduceEqDiff,if_true,if_false,Option.isSome_some,Option.isSome_none];have nP:=hblk.later hA.below;have hb2:=dC nP (hown.later hA.below) V0 yL.grown;obtain⟨q,c,hq,_,_⟩:=ho.block Taa;refine⟨trivial,trivial,λ x e=>k4 x (hlv.trans e),⟨⟨q,c,by rw[hq,length_append];rfl,λ e=>ho.other hb2 V0 (by rw[hq,e];rfl)⟩,ho,hb2,λ b h1 h2 h3=>(yL.grown.block b (Nat.lt_of_lt_of_le h1 hA.below.size) (Ne.symm h3)).trans (hA.below.block b h1),yL.grown.os.trans hA.below.os,yL.grown.tape.trans hA.below.tape,yL.grown.output.trans hA.below.output,Nat.le_trans hA.below.size yL.grown.size,Ey.later hA.below.size⟩,λ x e=>by cases e⟩
  ·intro ρ w σ hc hG hr he hno;rw[t8] at hr;have r0:=hr.1;simp only[awf] at r0;unfold nG at r0;rw[if_pos V0] at r0;have r1:=hr.2.1;simp only[awg] at r1;unfold nG at r1;rw[if_neg V0] at r1;refine⟨g8,?_⟩;rw[if_pos V0];have kx:=hno V0;unfold Ao at hG;have ha:=he 7 (cO.1 awk) V0;open zhi in exact ZfQ
  ·intro ρ w σ hc hG hr he hno;rw[t9] at hr;have r0:=hr.1;simp only[awh] at r0;unfold nG at r0;rw[if_pos V0] at r0;have r1:=hr.2.1;simp only[awi] at r1;unfold nG at r1;rw[if_neg V0] at r1;refine⟨g9,?_⟩;rw[if_pos V0];have kx:=hno V0;unfold Ao at hG;have ha:=he 7 (cO.1 awl) V0;open zhj in exact ZfQ
  ·intro ρ w σ hc hG hr he hno;rw[t10] at hr;have r0:=hr.1;simp only[apl] at r0;unfold nG at r0;rw[if_neg V0] at r0;refine⟨g10,?_⟩;exact h10 ρ w r0
  ·intro ρ w σ hc hG hr he hno;rw[t11] at hr;have r0:=hr.1;simp only[apm] at r0;unfold nG at r0;rw[if_neg V0] at r0;refine⟨g11,?_⟩;exact h11 ρ w r0
  ·intro ρ w σ hc hG hr he hno;rw[t12] at hr;have r0:=hr.1;simp only[apn] at r0;unfold nG at r0;rw[if_neg V0] at r0;have r1:=hr.2.1;simp only[apo] at r1;unfold nG at r1;rw[if_pos V0] at r1;refine⟨g12,?_⟩;rw[if_pos V0];have kx:=hno V0;unfold Ao at hG;have ha:=he 7 (cO.1 apq) V0;open zhk in exact ZfQ
 ·intro σ w hall hG;have ha:=hall 7 V0;obtain⟨a,ha⟩:=Option.isSome_iff_exists.1 ha;have h9:=hall 9 V0;have h12:=hall 12 V0;unfold Ao at hG;rw[ha,h9,h12] at hG;exact bA.weaken (λ _ _ _ _=>trivial) (ml a w hG.2.2.2.1)
end
open Go.Shelf
attribute [local go_sem] Oper.semAt_some
theorem QR{p:Addr}(h:w'.heap[p.block]?=w.heap[p.block]?):w'.cell? p=w.cell? p:=by unfold World.cell?;rw[h]
structure Fr (w w':rQ):Prop where
 size:w.heap.size<=w'.heap.size
 cell:∀p v,w.cell? p=some v->w'.cell? p=some v
theorem Fr.refl (w:rQ):Fr w w:=⟨Nat.le_refl _,λ _ _ h=>h⟩
theorem Fr.trans{a b c:rQ}(h:Fr a b)(k:Fr b c):Fr a c:=⟨Nat.le_trans h.size k.size,λ p v hv=>k.cell p v (h.cell p v hv)⟩
theorem QS{p:Addr} (h:w.cell? p=some v):p.block < w.heap.size:=by
 rcases Nat.lt_or_ge p.block w.heap.size with h1 | h1
 ·exact h1
 ·unfold World.cell? at h;rw[Array.getElem?_eq_none h1] at h;simp at h
theorem Fr.below(h:aj w w'):Fr w w':=⟨h.size,λ p v hv=>(h.cell (QS hv)).trans hv⟩
theorem Fr.putObj (w:rQ)(l:Nat)(ob ob':Obj)(h:w.heap[l]?=some ob)(hc:ob.isCells=false):Fr w (w.putObj l ob'):=
 ⟨by simp,λ p v hv=>by
   obtain⟨o2,ho,hc2⟩:=cells_of_cell hv
   have hne:p.block≠l:=λ e=>by rw[e,h] at ho;injection ho with ho;rw[ho,hc2] at hc;cases hc
   exact(QR (World.putObj_heap_other hne)).trans hv⟩
variable{off:Nat}
theorem cg.fr{x:Ex}(h:cg w b off x)(hf:Fr w w'):cg w' b off x:=by unfold cg at*;exact⟨hf.cell _ _ h.1,hf.cell _ _ h.2.1,hf.cell _ _ h.2.2.1,hf.cell _ _ h.2.2.2.1,hf.cell _ _ h.2.2.2.2.1,hf.cell _ _ h.2.2.2.2.2.1,hf.cell _ _ h.2.2.2.2.2.2⟩
theorem RE.fr{l:u_}(h:RE w B A l)(hf:Fr w w'):RE w' B A l:=by
 rcases h with h |⟨b,off,h1,h2,h3⟩
 ·exact .inl h
 ·exact .inr ⟨b,off,h1,h2,λ i x hx=>(h3 i x hx).fr hf⟩
abbrev QE (w0:rQ):= { x:Ex×Tr // x.2.ok/\x.2.at_ w0 (Old w0) x.1 }
theorem AV:∀(ts:uF) (ys:u_),Tr.cH ts->Tr.aM w0 (Old w0) ts ys->∃L:List (QE w0),L.map (λ x=>x.1.1)=ys/\L.map (λ x=>x.1.2)=ts
 | [],ys,_,h=>by unfold Tr.aM at h;subst h;exact⟨[],rfl,rfl⟩
 | t::ts,ys,aZ,h=>by unfold Tr.aM at h;unfold Tr.cH at aZ;obtain⟨y,ys',rfl,h1,h2⟩:=h;obtain⟨L,e1,e2⟩:=AV ts ys' aZ.2 h2;exact⟨⟨(y,t),aZ.1,h1⟩::L,by rw[map_cons,e1],by rw[map_cons,e2]⟩
def QT(x:QE w0):x_:= #[.agg (az x.1.1)]
theorem nK(h:aj w w'):w.grownBy w' none:=⟨h.os,h.tape,h.output,h.size,λ k hk _=>h.block k hk⟩
theorem zhZ.Kcn(h:p:=by
 have HA_:=aa hA;clear hR hJ1 hLk gu hex h7 jb Kx hA;gi_wp2;refine HR.ae.mono ?_;rintro e W3 (⟨rfl,hJ3,hk3⟩|⟨rfl,Dd⟩)
 ·rw[<- mW.ae] at hJ3;have HJ3:=aa hJ3;have HF3:=aa ((HF.ae.trans (Fr.below (ah wr (.cells #[ag y.op,ag y.v.k,af y.v.n,.string y.v.s,.string y.name,af y.width,.slice y.A y.n y.c,.string nm] 48)))).trans hk3);clear hJ3 hk3 HR HP;exact ZdG
 ·rw[<- mW.ae] at Dd;have HJX:=aa Dd;clear Dd HR HP;gi_wp2;refine bodyPost_ret (results_none rfl _ _ _) rfl ?_;exact⟨⟨_,rfl⟩,.inr ⟨_,by rw[append_assoc];exact(take_prefix _ _).trans (prefix_append _ _),HJX.ae⟩⟩):p:=h
theorem zh0.Kcn(h:p:=by
 clear hR hJ1 hLk gu hex Kx;gi_wp2;refine HR.ae.mono ?_;rintro e W3 (⟨rfl,hJ3,hk3⟩|⟨rfl,Dd⟩)
 ·rw[<- mW.ae] at hJ3;have HJ3:=aa hJ3;have HF3:=aa ((HF.ae.trans (Fr.below (ah wr (.cells (az y) 46)))).trans hk3);clear hJ3 hk3 HR HP iQ hy;exact ZdG
 ·rw[<- mW.ae] at Dd;have HJX:=aa Dd;clear Dd HR HP iQ hy;gi_wp2;refine bodyPost_ret (results_none rfl _ _ _) rfl ?_;exact⟨⟨_,rfl⟩,.inr ⟨_,((prefix_append_right_inj Li).2 (take_prefix _ _)).trans (prefix_append _ _),HJX.ae⟩⟩):p:=h
theorem zh1.Kcn(h:p:=by
 clear hR hJ1 hLk gu hex h7 jb Kx hA;gi_wp2;refine HR.ae.mono ?_;rintro e W3 (⟨rfl,hJ3,hk3⟩|⟨rfl,Dd⟩)
 ·rw[<- mW.ae] at hJ3;have HJ3:=aa hJ3;have HF3:=aa ((HF.ae.trans (Fr.below (ah wr (.cells #[ag y.op,ag y.v.k,af y.v.n,.string y.v.s,.string y.name,af y.width,.slice y.A y.n y.c,.bool nm] 117)))).trans hk3);clear hJ3 hk3 HR HP iQ h72 hy;exact ZdG
 ·rw[<- mW.ae] at Dd;have HJX:=aa Dd;clear Dd HR HP iQ h72 hy;gi_wp2;refine bodyPost_ret (results_none rfl _ _ _) rfl ?_;exact⟨⟨_,rfl⟩,.inr ⟨_,(prefix_append_right_inj (Li++Lc)).2 (take_prefix _ _),HJX.ae⟩⟩):p:=h
theorem zcx.Kax(h:p:=by
 have iz:=aa Gu;obtain⟨fJ,hl2,ud⟩:=hlen;have HN:=aa (And.intro nw (And.intro ng nh));unfold fN at k1;have q0:=k1.cell 0;have x3:=k1.cell 3;have x4:=k1.cell 4;have x5:=k1.cell 5;have x6:=k1.cell 6;simp only[Uaa] at q0 x3 x4 x5 x6;rw[ni] at q0;rw[no] at x6;have HQ:=aa (And.intro q0 (And.intro x3 (And.intro x4 (And.intro x5 x6))));clear SZ qK AK hfn hz hS hw AL Ai G3 Wy NT Gu ni no nw ng nh x3 x4 x5 x6 k1;refine callsIn_of_wp Tryz.func96 rfl trivial ?_ rfl;simp only[Tryz.ntmps96,size_toArray,length_cons,length_nil,Nat.reduceAdd,Nat.reduceSub,Array.replicate_succ,Array.replicate_zero,push_toArray,append_toArray,nil_append,cons_append];gi_wp2;clear q0;gi_loopw [12] (λ i wr=>∃k:Nat,k<=zi.length/\i=af k/\J (Li.take k) wr/\Fr W wr) (λ i _=>zi.length - (intOf i).toNat);case atStart=>exact⟨0,Nat.zero_le _,rfl,h0,Fr.refl _⟩
 case round=>
  clear h0;obtain⟨k,hk,rfl,hp,hb⟩:=hrel;have HP:=aa hp;have HF:=aa hb;clear hp hb;by_cases hlt:k < zi.length
  ·obtain⟨b,off,hA,Kx,hex,h7⟩:=nI.ae.at_ hlt;obtain⟨nm,jb⟩:=je.ae _ (getElem_mem hlt);rw[jb] at h7;have iQ:=hex.fr (iz.ae.trans HF.ae);have h72:=(iz.ae.trans HF.ae).cell _ _ h7;have gu:k < Li.length:=by have:=congrArg List.length mr.ae;simp only[length_map] at this;omega
   have hLk:(Li[k]'gu).1.1=zi[k].1:=by have h1:=congrArg (λ l=>l[k]?) mr.ae;simp only[getElem?_map,getElem?_eq_getElem hlt,getElem?_eq_getElem gu,Option.map_some] at h1;injection h1
   have mW:=aa (show Li.take (k+1)=Li.take k++ [Li[k]'gu] by rw[take_add_one,getElem?_eq_getElem gu];rfl);have zZ:=aa (show(Li.take k).length <(Li++Lc++Lo).length by rw[length_take,length_append,length_append];omega);generalize Li[k]'gu=x at*;rw[hA];generalize zi[k].1=y at*;unfold cg at iQ;have hJ1:=HJ.ae _ _ (wr.alloc (.cells #[ag y.op,ag y.v.k,af y.v.n,.string y.v.s,.string y.name,af y.width,.slice y.A y.n y.c,.string nm] 48)) none HP.ae (World.grownBy_alloc wr _ none) (λ r e=>by cases e);open zhZ in exact Zhl
  ·have gw:k=zi.length:=by omega
   subst gw;have apv:Li.take zi.length=Li:=take_of_length_le (by
    have:=congrArg List.length mr.ae
    simp only[length_map] at this
    omega)
   rw[apv] at HP;have hF:=HF.ae;have x3:=hF.cell _ _ HQ.ae.2.1;have x4:=hF.cell _ _ HQ.ae.2.2.1;have x5:=hF.cell _ _ HQ.ae.2.2.2.1;have Ad:=aa (hF.cell _ _ HQ.ae.2.2.2.2);obtain⟨nw,ng,nh⟩:=HN.ae;rw[nw] at x3;rw[ng] at x4;rw[nh] at x5;clear hF apv hlt nw ng nh;have apw:=aa (And.intro x3 (And.intro x4 x5));gi_wp2;have Wt:=aa (ah wr (.cells #[.slice L.w.A yw.length L.w.c,.slice L.g.A yg.length L.g.c,.slice L.h.A yh.length L.h.c] 23));have Qi:=aa (aB.new wr 23 #[.slice L.w.A yw.length L.w.c,.slice L.g.A yg.length L.g.c,.slice L.h.A yh.length L.h.c])
   have hRL:RL (wr.alloc (.cells #[.slice L.w.A yw.length L.w.c,.slice L.g.A yg.length L.g.c,.slice L.h.A yh.length L.h.c] 23)) (wr.alloc (.cells #[.slice L.w.A yw.length L.w.c,.slice L.g.A yg.length L.g.c,.slice L.h.A yh.length L.h.c] 23)).heap.size (some ⟨wr.heap.size,0,none⟩) [⟨L.w.A,L.w.c,yw⟩,⟨L.g.A,L.g.c,yg⟩,⟨L.h.A,L.h.c,yh⟩]:=by
    refine⟨wr.heap.size,0,rfl,Qi.ae.lt,λ i x hx=>?_⟩;have hb:=(iz.ae.trans HF.ae).trans (Fr.below Wt.ae)
    match i,hx with
    | 0,hx=>simp at hx;subst hx;exact⟨by rw[Qi.ae.cell];rfl,(HK.ae.fr hb).more hb.size⟩
    | 1,hx=>simp at hx;subst hx;exact⟨by rw[Qi.ae.cell];rfl,(HS.ae.fr hb).more hb.size⟩
    | 2,hx=>simp at hx;subst hx;exact⟨by rw[Qi.ae.cell];rfl,(HO.ae.fr hb).more hb.size⟩
    | i+3,hx=>simp at hx
   refine⟨trivial,(callsIn_wide.2 (uy _ 3 _ _ Taa (by simpa [lF] using ud) hRL)).mono ?_⟩;rintro e w5 ⟨v,rfl,hO,IC⟩;obtain⟨lc,hlc⟩:∃lc,lc=yw++(yg++yh):=⟨_,rfl⟩;have dU:aH bD 46 7 w5 (wr.alloc (.cells #[.slice L.w.A yw.length L.w.c,.slice L.g.A yg.length L.g.c,.slice L.h.A yh.length L.h.c] 23)).heap.size v lc:=by rw[hlc];simpa using hO
   obtain⟨CA,cc,rfl,_,hres⟩:=pH dU (S:=Old w5) (λ q k1=>(dU.lt k1).1);have HRE:=aa (show RE w5 w5.heap.size CA lc from hres);have uY:=aa (ai.then Wt.ae IC);have Lz:=aa (HJ.ae _ _ _ none HP.ae (nK uY.ae) (λ r e=>by cases e));have HF5:=aa (HF.ae.trans (Fr.below uY.ae));have HQ7:=aa ((Fr.below uY.ae).cell _ _ Ad.ae);have ajc:=aa (show Lc.map (λ x=>x.1.1)=lc by rw[A2.ae,hlc,append_assoc]);have hl4:lc.length<=1000000:=by rw[hlc,<- append_assoc];exact ud
   clear hRL hO dU hres IC hlc HP HF Ad Wt Qi uY x3 x4 x5 apw;gi_wp2;gi_loopw [31] (λ i wr2=>∃k:Nat,k<=lc.length/\i=af k/\J (Li++Lc.take k) wr2/\Fr w5 wr2) (λ i _=>lc.length - (intOf i).toNat);case atStart=>exact⟨0,Nat.zero_le _,rfl,by rw[take_zero,append_nil];exact Lz.ae,Fr.refl _⟩
   case round=>
    clear Lz;obtain⟨k,hk,rfl,hp,hb⟩:=hrel;have HP:=aa hp;have HF:=aa hb;clear hp hb;by_cases hlt:k < lc.length
    ·obtain⟨b,off,hA,Kx,hex⟩:=HRE.ae.at_ hlt;have iQ:=hex.fr HF.ae;have gu:k < Lc.length:=by have:=congrArg List.length ajc.ae;simp only[length_map] at this;omega
     have hLk:(Lc[k]'gu).1.1=lc[k]:=by have h1:=congrArg (λ l=>l[k]?) ajc.ae;simp only[getElem?_map,getElem?_eq_getElem hlt,getElem?_eq_getElem gu,Option.map_some] at h1;injection h1
     have mW:=aa (show Li++Lc.take (k+1)=(Li++Lc.take k)++ [Lc[k]'gu] by rw[take_add_one,getElem?_eq_getElem gu,append_assoc];rfl);have zZ:=aa (show(Li++Lc.take k).length <(Li++Lc++Lo).length by rw[length_append,length_take,length_append,length_append];omega);generalize Lc[k]'gu=x at*;subst hA;generalize lc[k]=y at*;unfold cg at iQ;have hJ1:=HJ.ae _ _ (wr.alloc (.cells (az y) 46)) none HP.ae (World.grownBy_alloc wr _ none) (λ r e=>by cases e);open zh0 in exact Zhl
    ·have gw:k=lc.length:=by omega
     subst gw;have apx:Lc.take lc.length=Lc:=take_of_length_le (by
      have:=congrArg List.length ajc.ae
      simp only[length_map] at this
      omega)
     rw[apx] at HP;have x6:=HF.ae.cell _ _ HQ7.ae;have HF0:=aa (iz.ae.trans (HF5.ae.trans HF.ae));clear apx hlt HF5 HF HQ7;gi_wp2;clear x6;gi_loopw [43] (λ i wr2=>∃k:Nat,k<=zo.length/\i=af k/\J (Li++Lc++Lo.take k) wr2/\Fr w0 wr2) (λ i _=>zo.length - (intOf i).toNat);case atStart=>exact⟨0,Nat.zero_le _,rfl,by rw[take_zero,append_nil];exact HP.ae,HF0.ae⟩
     case round=>
      clear HP HF0;obtain⟨k,hk,rfl,hp,hb⟩:=hrel;have HP:=aa hp;have HF:=aa hb;clear hp hb;by_cases hlt:k < zo.length
      ·obtain⟨b,off,hA,Kx,hex,h7⟩:=HFN.ae.at_ hlt;obtain⟨nm,jb⟩:=LW.ae _ (getElem_mem hlt);rw[jb] at h7;have iQ:=hex.fr HF.ae;have h72:=HF.ae.cell _ _ h7;have gu:k < Lo.length:=by have:=congrArg List.length A1.ae;simp only[length_map] at this;omega
       have hLk:(Lo[k]'gu).1.1=zo[k].1:=by have h1:=congrArg (λ l=>l[k]?) A1.ae;simp only[getElem?_map,getElem?_eq_getElem hlt,getElem?_eq_getElem gu,Option.map_some] at h1;injection h1
       have mW:=aa (show Li++Lc++Lo.take (k+1)=(Li++Lc++Lo.take k)++ [Lo[k]'gu] by rw[take_add_one,getElem?_eq_getElem gu,<- append_assoc];rfl);have zZ:=aa (show(Li++Lc++Lo.take k).length <(Li++Lc++Lo).length by simp only[length_append,length_take];omega);generalize Lo[k]'gu=x at*;rw[hA];generalize zo[k].1=y at*;unfold cg at iQ;have hJ1:=HJ.ae _ _ (wr.alloc (.cells #[ag y.op,ag y.v.k,af y.v.n,.string y.v.s,.string y.name,af y.width,.slice y.A y.n y.c,.bool nm] 117)) none HP.ae (World.grownBy_alloc wr _ none) (λ r e=>by cases e);open zh1 in exact Zhl
      ·have gw:k=zo.length:=by omega
       subst gw;have apy:Lo.take zo.length=Lo:=take_of_length_le (by
        have:=congrArg List.length A1.ae
        simp only[length_map] at this
        omega)
       rw[apy] at HP;clear apy hlt HF;gi_wp2;go_end0;exact⟨⟨_,rfl⟩,.inl ⟨_,rfl,HP.ae⟩⟩):p:=h
theorem adr (w0:rQ)(n:Nat)(hn:1<=n)(l gq:Nat)(q:Qy)(L:QL)(zi zo:List (Ex×Value))(yw yg yh:u_)(Li Lc Lo:List (QE w0))
  (AK:RI w0 w0.heap.size L.i.A zi) (hfn:RI w0 w0.heap.size L.o.A zo) (hz:RE w0 w0.heap.size L.w.A yw) (hS:RE w0 w0.heap.size L.g.A yg) (hw:RE w0 w0.heap.size L.h.A yh)
  (ni:L.i.n=zi.length) (no:L.o.n=zo.length) (nw:L.w.n=yw.length) (ng:L.g.n=yg.length) (nh:L.h.n=yh.length)
  (AL:Li.map (λ x=>x.1.1)=zi.map (·.1)) (Ai:Lo.map (λ x=>x.1.1)=zo.map (·.1)) (G3:Lc.map (λ x=>x.1.1)=yw++yg++yh) (SZ:∀z∈zi,∃s,z.2=.string s) (qK:∀z∈zo,∃s,z.2=.bool s) (hlen:zi.length<=1000000/\zo.length<=1000000/\(yw++yg++yh).length<=1000000)
  (J Jx:List (QE w0)->rQ->Prop) (W:rQ) (Wy:AbidesFrom W.heap.size J)
  (NT:∀pre x W1,J pre W1->pre.length <(Li++Lc++Lo).length->YieldAt Fence.wide (n - 1) Tryz.prog l (QT x) W1 λ e W'=>(e=.returned (.bool true)/\J (pre++ [x]) W'/\Fr W1 W')\/(e=.returned (.bool false)/\Jx (pre++ [x]) W'))
  (k1:aB W gq 27 (fN q L)) (Gu:Fr w0 W) (h0:J [] W):
  CallsIn Fence.wide n Tryz.prog 96 #[.func (.yield l) #[] #[],.pointer (some ⟨gq,0,none⟩)] W λ e W'=>(∃v,e=.returned v)/\((∃ys,ys=Li++Lc++Lo/\J ys W')\/(∃pre,pre <+: Li++Lc++Lo/\Jx pre W')):=by
 open zcx in exact Za7
end Go.Proofs.YtndgjggokjickaaGreatDoor
