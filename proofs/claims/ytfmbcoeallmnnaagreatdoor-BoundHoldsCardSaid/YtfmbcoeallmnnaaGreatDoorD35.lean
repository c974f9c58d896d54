/- Parts of the proof. -/
import Derived.Test.YtfmbcoeallmnnaaGreatDoorD33
namespace Go.Proofs.YtfmbcoeallmnnaaGreatDoor.R
open Go.Lib (hid)
open Go.ChangeShapes Go.WideShapes Go.ChangeAt Go.RowKit
set_option linter.unusedVariables false
set_option linter.unusedSimpArgs false
theorem Si {s:ByteArray} {l:List Tok}(h:ru s.data.toList=.ok l) {w:World}(hs:s.size≤4294967280):
  Calls Tryz.prog 72 #[.string s] w fun e w'=>∃A c,e=.returned (.tuple #[.slice A l.length c,.int .i64 0,.int .i64 0])∧DY w' w.heap.size (.slice A l.length c) l∧Below w.heap.size w w':=by
 refine(Om s w hs).mono ?_;intro e w' hp;unfold tq at hp;rw[h] at hp;obtain⟨v,rfl,ho,hb⟩:=hp;obtain⟨A,c,rfl⟩:=ho.form;exact⟨A,c,rfl,ho,hb⟩
set_option maxHeartbeats 1000000
set_option maxRecDepth 100000
theorem Hh (ρ:cB)(w:World)(σ:aH)(big:Bool)(h:ρ.at w σ big)(has:(af dL σ).head xC=true):
  Calls Tryz.prog 127 #[ρ.ptr] w (BW kt RR (fun _=>false) ρ w big ie σ):=by
 have dh:=h.rP;have hb:=aa w Xw;have h0:=h.later hb;have HQ:=hid (ag.new w 138 #[.int .u8 0,.int .u8 0,.int .i64 0,.string ⟨#[]⟩,.string ⟨#[]⟩,.int .i64 0,.slice none 0 0,.string ⟨#[]⟩]);have hsz:(w.alloc Xw).heap.size=w.heap.size+1:=by simp
 unfold Xw at*;go_enter Tryz.func127,Tryz.ntmps127;go_wp2_with fail;refine(uv ρ _ σ big h0).mono ?_;rintro e w2 ⟨t,y,rfl,ht,d2,fP⟩;unfold ji cW;have hs2:=d2.size;go_wp2_with fail;have D3:=((dH.bP h hb).trans d2).later (aa w2 (.cells (Aw (y,⟨#[]⟩)).toArray 138));have HX:=ag.new w2 138 (Aw (y,⟨#[]⟩)).toArray;have gU:=(d2.blk HQ.out (by omega)).alloc (.cells (Aw (y,⟨#[]⟩)).toArray 138);have TS:=(ht.later (aa w2 (.cells (Aw (y,⟨#[]⟩)).toArray 138))).more (B':=w.heap.size+1) (by omega);have Wm:=Tr.at_.keep (rB (.cells (Aw (y,⟨#[]⟩)).toArray 138) (show w.heap.size+1≤_ by omega)) _ _ ht;have hs3:(w2.alloc (.cells (Aw (y,⟨#[]⟩)).toArray 138)).heap.size=w2.heap.size+1:=by simp
 unfold Aw cW at D3 HX gU TS Wm hs3;simp only[List.cons_append,List.nil_append] at D3 HX gU TS Wm hs3;generalize w2.alloc _=W3 at*;have G8:=hid fP;have HAS:=hid has;have hm:=lN ρ W3 _ big D3.at_ ⟨#[97,115]⟩ has;clear has fP h0 hb HQ ht d2;refine hm.mono ?_;rintro e w4 ⟨rfl,d4⟩;go_wp2_with fail;refine(pU ρ _ _ big d4.at_).mono ?_;rintro e w5 ⟨n,rfl,d5,zq⟩;have hs4:=d4.size;have hit:=Lm G8.out HAS.out zq;have TT:=hid hit;clear hit zq;have Sj:=d5.blk (d4.blk HX (by omega)) (by omega);have hx2:=HX.lt;have Wo:=Sj.cA 7 (.string n);simp only[List.setIfInBounds_toArray,List.set_cons_zero,List.set_cons_succ] at Wo;have Li:=Sj.frozen 7;have hxc:=Sj.cell 7;have rG:=(d5.blk (d4.blk gU (by omega)) (by omega)).far (p:=⟨w2.heap.size,7,none⟩) (by simp;omega) (.string n);have D6:=((D3.trans d4).trans d5).far dh (show w.heap.size≤w2.heap.size by omega) 7 (.string n);have T1:=hid (Tr.at_.keep (lH (Nat.le_refl _)) _ _ (Tr.at_.keep (BH 7 (.string n)) _ _ (Tr.at_.keep (eH d5.grown (by omega)) _ _ (Tr.at_.keep (eH d4.grown (by omega)) _ _ Wm))));have Jf:=hid D6;have yo:=hid rG;obtain⟨x0,x1,x2,x3,x4,x5,x6,x7⟩:=cE Wo;obtain⟨y0,y1,y2,y3,y4,y5,y6,y7⟩:=cE rG;obtain⟨z0,z1,z2,z3,z4,z5,z6,z7⟩:=jm rG;clear Sj Wo rG HX gU TS D3 d4 hm d5 D6 hx2;go_wp2_with fail;have HP:=yy yo.out y (.string n);have HR:=cE HP;unfold rJ cz at HR;obtain⟨r0,r1,r2,r3,r4,r5,r6,r7⟩:=HR;refine bodyPost_ret (v:=RR (y,n)) ?_ rfl ?_
 ·simp[results,Tryz.results127,go_sem,r0,r1,r2,r3,r4,r5,r6,r7];rfl
 ·refine⟨(t,n),(y,n),rfl,⟨(T1.out.rJ (Nat.lt_succ_self _) y (.string n)).more (by omega),rfl⟩,?_,TT.out.2⟩;rw[TT.out.1,Bool.or_false];exact Jf.out.rJ dh (Nat.le_refl _) y (.string n)
theorem AA (ρ:cB)(w:World)(σ:aH)(big:Bool)(h:ρ.at w σ big):
  Calls Tryz.prog 127 #[ρ.ptr] w (BW kt RR (fun _=>false) ρ w big ie σ):=by
 cases has:(af dL σ).head xC
 ·exact Ev ρ w σ big h has
 ·exact Hh ρ w σ big h has
theorem vF {α:Type} {f:α→List Value} {e:TypeId} {size:Nat} {base:Nat} {lv:Value} {l:List α} {y:α} {P:Program} {w:World}(t ty:TypeId)(z:Value)(bytes:Nat)(ht:P.underlying t=some (.slice e))(jV:(P.info? e).map (fun i=>(i.zero,i.size,i.bytes))=some (some z,size,bytes))(hzs:z.cells.size=size)(hsz:0 < size)
  (hf:∀x,(f x).length=size) (h1:∀u∈f y,u.oneCell'=true) (hown:aQ f e size w base lv l)
  (g0:Nat) (hg0:ag w g0 e (f y).toArray) (hlen:(l.length+1)*bytes≤140737488355328) (ld:l.length+1≤140737488355328) (hbase:base≤w.heap.size):
  ∃v' w',(Builtin.append_ #[t,t] ty #[lv,.slice (some ⟨g0,0,none⟩) 1 1]).run P w=.ok v' w'∧aQ f e size w' base v' (l++ [y])∧AR f e size base lv l y w w'∧(v'.ownBlock=lv.ownBlock∨v'.ownBlock=some w.heap.size):=by
 obtain⟨v',w',hr,ho,ha⟩:=ei t ty z bytes ht jV hzs hsz hf h1 hown g0 hg0 hlen ld hbase;obtain⟨i0,qj,hz0,hz1,hz2⟩:=info_parts jV;obtain⟨v2,w2,hr2,_,_,h4⟩:=gh (P:=P) w base t ty e i0 z size bytes ht qj hz0 hz1 hz2 hzs hsz lv l.length (l.flatMap f) hown (g0+1) (some ⟨g0,0,none⟩) 1 1 (f y) ⟨by rw[hf];omega,fun _=>⟨_,rfl,Nat.lt_succ_self _,by
  intro j u hu
  have:(Addr.add ⟨g0,0,none⟩ j)=⟨g0,j,none⟩:=by unfold Addr.add;split <;> simp_all
  rw[this,hg0.cell]
  simpa using hu⟩⟩ h1 (by unfold maxLen;omega) hlen hbase
 rw[hr] at hr2;injection hr2 with e1 e2;subst e1 e2;exact⟨v',w',hr,ho,ha,h4⟩
theorem rM {α:Type} {f:α→List Value} {e:TypeId} {size:Nat} {base:Nat} {v:Value} {l:List α} {w:World} {P:Program} {ops:Array Oper} {rest:List Oper} {o:Oper} {a:Act} {Q:Exit→Act→World→Prop}(hgd:o.guard=none)(s x:Operand)(t:TypeId)
  (ho:o.op=.call { callee:=.builtin .append,args:= #[s,x],argTypes:= #[t,t] })
  (z:Value) (bytes:Nat) (ht:P.underlying t=some (.slice e)) (jV:(P.info? e).map (fun i=>(i.zero,i.size,i.bytes))=some (some z,size,bytes)) (hzs:z.cells.size=size) (hsz:0 < size)
  (y:α) (hf:(f y).length=size) (h1:∀u∈f y,u.oneCell'=true)
  (hs:a.eval s=v) (hown:aQ f e size w base v l)
  (g:Nat) (hx:a.eval x=.slice (some ⟨g,0,none⟩) 1 1) (hg:ag w g e (f y).toArray)
  (hlen:(l.length+1)*bytes≤140737488355328) (ld:l.length+1≤140737488355328) (hbase:base≤w.heap.size)
  (h:∀v' w',aQ f e size w' base v' (l++ [y])→w.grownBy w' v.ownBlock→(v'.ownBlock=v.ownBlock∨v'.ownBlock=some w.heap.size)→wpList P ops Q rest (a.put o.dst v') w'):wpList P ops Q (o::rest) a w:=by
 obtain⟨i0,qj,hz0,hz1,hz2⟩:=info_parts jV;refine eD w hgd s x t ho base e i0 z size bytes ht qj hz0 hz1 hz2 hzs hsz v l.length (l.flatMap f) hs hown (g+1) (some ⟨g,0,none⟩) 1 1 (f y) hx ⟨by omega,fun _=>⟨_,rfl,Nat.lt_succ_self _,?_⟩⟩ h1 (by unfold maxLen;omega) hlen hbase ?_
 ·intro j u hu;have:(Addr.add ⟨g,0,none⟩ j)=⟨g,j,none⟩:=by unfold Addr.add;split <;> simp_all
  rw[this,hg.cell];simpa using hu
 ·intro v' w' h2 h3 h4;refine h v' w' ?_ h3 h4;unfold aQ;rw[List.length_append,List.flatMap_append];simpa using h2
section
variable {P:Program} {β:Type} (f:β→List Value) (val:β→Value) (e:TypeId) (size base:Nat) (l:List β) (lv:Value) (Post:β→World→World→Prop) (w0:World)
def Cg:List Value→World→Prop
 | [],w=>ae w0 w
 | [a],w=>∃y w1 fT,a=val y∧ae w0 w1∧Post y w1 fT∧ae fT w
 | [a,s],w=>∃y w1 fT g0,a=val y∧s=.slice (some ⟨g0,0,none⟩) 1 1∧ae w0 w1∧Post y w1 fT∧ae fT w∧ag w g0 e (f y).toArray
 | [a,s,v],w=>∃y w1 fT w2,a=val y∧ae w0 w1∧Post y w1 fT∧ae fT w2∧aQ f e size w2 base lv l∧w2.grownBy w lv.ownBlock∧aQ f e size w base v (l++ [y])∧(v.ownBlock=lv.ownBlock∨v.ownBlock=some w2.heap.size)
 | _,_=>False
theorem EL (vs:List Value)(w:World)(h:Cg f val e size base l lv Post w0 vs w):Cg f val e size base l lv Post w0 vs w.drew:=by
 match vs,h with
 | [],h=>exact ae.trans h (ae.drew _)
 | [a],⟨y,w1,fT,h1,h2,h3,h4⟩=>exact⟨y,w1,fT,h1,h2,h3,h4.trans (ae.drew _)⟩
 | [a,s],⟨y,w1,fT,g0,h1,h2,h3,h4,h5,h6⟩=>exact⟨y,w1,fT,g0,h1,h2,h3,h4,h5.trans (ae.drew _),h6.drew⟩
 | [a,s,v],⟨y,w1,fT,w2,h1,h2,h3,h4,h5,h6,h7,h8⟩=>exact⟨y,w1,fT,w2,h1,h2,h3,h4,h5,⟨h6.os,h6.tape,h6.output,h6.size,h6.block⟩,h7.later (ae.drew _),h8⟩
 | _::_::_::_::_,h=>exact h.elim
variable {f val e size base l lv Post w0}
variable {Q:Exit→Act→World→Prop} {a0:Act} {id:Nat} {o0 o1 o2 o3 o4 o5 o6 o7:Oper} {q d0 d1 d2 d3 d4 d5 d6:Tmp} {qb k g:Nat} {pq ptr:Value} {F:FuncId} {args:Array Value}
theorem kS (t ty:TypeId)(z:Value)(bytes:Nat)
  (hm:P.follows .mixedOrders=true) (aZ:bX [o0,o1,o2,o3,o4,o5,o6] a0.tmps.size [o0,o1,o2,o3,o4,o5,o6] 0=true) (hz:cH [o0,o1,o2,o3,o4,o5,o6,o7] [o7] 7=true) (hch:fJ [o0,o1,o2,o3,o4,o5,o6] [3,4,5]=true) (TF:BQ o0 o1 o2 o3 o4 o5 o6 q d0 d1 d2 d3 d4 d5 d6=true)
  (hq:a0.eval (.tmp q)=pq) (h0:a0.eval (.tmp 0)=ptr)
  (Xs:∀ρ w,ρ (.tmp q)=pq→(execOp ρ o0).run P w=.ok (.value (.pointer (some ⟨qb,k,none⟩))) w) (VL:∀ρ w,ρ (.tmp q)=pq→(execOp ρ o6).run P w=.ok (.value (.pointer (some ⟨qb,k,none⟩))) w)
  (P0:∀ρ w,ρ (.tmp d0)=.pointer (some ⟨qb,k,none⟩)→w.cell? ⟨qb,k,none⟩=some lv→(execOp ρ o1).run P w=.ok (.value lv) w)
  (Zx:∀ρ w,ρ (.tmp 0)=ptr→(execOp ρ o2).run P w=.ok (.value ptr) w)
  (dT:∀ρ w,fk ρ→ρ (.tmp d2)=ptr→(execOp ρ o3).run P w=.ok (.enter F args) w)
  (Ej:∀ρ w y,ρ (.tmp d3)=val y→(execOp ρ o4).run P w=.ok (.value (.slice (some ⟨w.heap.size,0,none⟩) 1 1)) (w.alloc (.cells (f y).toArray e)))
  (hap:∀ρ w s v' w',ρ (.tmp d1)=lv→ρ (.tmp d4)=s→(Builtin.append_ #[t,t] ty #[lv,s]).run P w=.ok v' w'→(execOp ρ o5).run P w=.ok (.value v') w')
  (ht:P.underlying t=some (.slice e)) (jV:(P.info? e).map (fun i=>(i.zero,i.size,i.bytes))=some (some z,size,bytes)) (hzs:z.cells.size=size) (hsz:0 < size) (hf:∀x,(f x).length=size) (h1:∀y,∀u∈f y,u.oneCell'=true)
  (hown:aQ f e size w0 base lv l) (hcell:w0.cell? ⟨qb,k,none⟩=some lv) (PR:qb≠g) (Oy:lv.ownBlock≠some g) (P5:lv.ownBlock≠some qb) (hlen:(l.length+1)*bytes≤140737488355328) (ld:l.length+1≤140737488355328) (hbase:base≤w0.heap.size)
  (ll:∀w,ae w0 w→Calls P F args w fun e w'=>∃y,e=.returned (val y)∧Post y w w') (P6:∀y w w',Post y w w'→w.grownBy w' (some g))
  (Oz:∀y s v' w1 fT w2 W,ae w0 w1→Post y w1 fT→ae fT w2→aQ f e size w2 base lv l→w2.grownBy W lv.ownBlock→aQ f e size W base v' (l++ [y])→(v'.ownBlock=lv.ownBlock∨v'.ownBlock=some w2.heap.size)→W.cell? ⟨qb,k,none⟩=some lv→
    wpList P [o0,o1,o2,o3,o4,o5,o6,o7].toArray Q [o7] (((((((a0.put (some d0) (.pointer (some ⟨qb,k,none⟩))).put (some d1) lv).put (some d2) ptr).put (some d3) (val y)).put (some d4) s).put (some d5) v').put (some d6) (.pointer (some ⟨qb,k,none⟩))) W):
  (Code.region id [o0,o1,o2,o3,o4,o5,o6,o7].toArray true).wp P Q a0 w0:=by
 simp only[BQ,Bool.and_eq_true,beq_iff_eq,Option.isNone_iff_eq_none] at TF;obtain⟨⟨⟨⟨⟨⟨⟨⟨⟨⟨⟨⟨⟨⟨⟨⟨⟨⟨⟨⟨⟨⟨⟨⟨⟨⟨⟨⟨t0,s0⟩,t1⟩,s1⟩,t2⟩,s2⟩,t3⟩,s3⟩,t4⟩,s4⟩,t5⟩,s5⟩,P7⟩,t6⟩,s6⟩,e0⟩,e1⟩,e2⟩,e3⟩,e4⟩,e5⟩,e6⟩,g0⟩,g1⟩,g2⟩,g3⟩,g4⟩,g5⟩,g6⟩:=TF;have Lb:qb < w0.heap.size:=(by rcases Nat.lt_or_ge qb w0.heap.size with h | h;exact h;exact absurd hcell (by unfold World.cell?;rw[Array.getElem?_eq_none h];simp))
 -- the cell stays
 have tx:∀ {y w1 fT w},ae w0 w1→Post y w1 fT→ae fT w→w.cell? ⟨qb,k,none⟩=some lv∧aQ f e size w base lv l∧w0.heap.size≤w.heap.size:=by
  intro y w1 fT w ha hb hc;have hg:=P6 _ _ _ hb;have z1:qb < w1.heap.size:=Nat.lt_of_lt_of_le Lb ha.size;have z2:qb < fT.heap.size:=Nat.lt_of_lt_of_le z1 hg.size;refine⟨?_,?_,Nat.le_trans ha.size (Nat.le_trans hg.size hc.size)⟩
  ·rw[hc.cell (p:=⟨qb,k,none⟩) z2,nT hg (p:=⟨qb,k,none⟩) z1 (fun e=>PR (by injection e)),ha.cell (p:=⟨qb,k,none⟩) Lb];exact hcell
  ·exact((hown.later ha).grown hg Oy).later hc
 have yj:∀vs w,Cg f val e size base l lv Post w0 vs w→w.cell? ⟨qb,k,none⟩=some lv:=by
  intro vs w h
  match vs,h with
  | [],h=>rw[ae.cell h (p:=⟨qb,k,none⟩) Lb];exact hcell
  | [a],⟨y,w1,fT,_,h2,h3,h4⟩=>exact(tx h2 h3 h4).1
  | [a,s],⟨y,w1,fT,_,_,_,h2,h3,h4,_⟩=>exact(tx h2 h3 h4).1
  | [a,s,v],⟨y,w1,fT,w2,_,h2,h3,h4,_,h6,_,_⟩=>obtain⟨k1,_,k3⟩:=tx h2 h3 h4;rw[nT h6 (p:=⟨qb,k,none⟩) (Nat.lt_of_lt_of_le Lb k3) (fun e=>P5 e.symm)];exact k1
  | _::_::_::_::_,h=>exact h.elim
 refine kK [o7] [o0,o1,o2,o3,o4,o5,o6] rfl (fun i=>if i=0 then .pointer (some ⟨qb,k,none⟩)else if i=1 then lv else if i=2 then ptr else .pointer (some ⟨qb,k,none⟩)) [3,4,5] (Cg f val e size base l lv Post w0) (EL f val e size base l lv Post w0) (ae.refl w0) hm aZ hz hch (by decide) rfl ?_ ?_
 ·refine⟨?_,?_,?_,?_,?_,?_,?_,trivial⟩
  ·intro ρ w vs hc hG hr;rw[t0] at hr;have r0:=hr.1;simp only[s0] at r0;exact⟨g0,Xs ρ w (r0.trans hq)⟩
  ·intro ρ w vs hc hG hr;rw[t1] at hr;have r0:=hr.1;simp only[s1] at r0;exact⟨g1,P0 ρ w r0 (yj _ _ hG)⟩
  ·intro ρ w vs hc hG hr;rw[t2] at hr;have r0:=hr.1;simp only[s2] at r0;exact⟨g2,Zx ρ w (r0.trans h0)⟩
  ·intro ρ w vs hc hG hr;rw[t3] at hr;have r0:=hr.1;simp only[s3] at r0;refine⟨g3,?_⟩;show vs.length=0→_;intro hl;obtain rfl:=List.eq_nil_of_length_eq_zero hl;refine fZ (dT ρ w hc r0) ((ll w hG).mono ?_);rintro e' w' ⟨y,rfl,hp⟩;exact⟨_,rfl,y,w,w',rfl,hG,hp,ae.refl _⟩
  ·intro ρ w vs hc hG hr;rw[t4] at hr;have r0:=hr.1;simp only[s4] at r0;refine⟨g4,?_⟩;show vs.length=1→_;intro hl
   match vs,hl with
   | [a],_=>have r0:some a=some (ρ (.tmp d3)):=r0;injection r0 with r0;obtain⟨y,w1,fT,ha,h2,h3,h4⟩:=hG;refine ai (Ej ρ w y (r0.symm.trans ha)) ?_;exact⟨y,w1,fT,w.heap.size,ha,rfl,h2,h3,h4.trans ((Below.refl _ _).alloc (Nat.le_refl _) _),ag.new w e _⟩
  ·intro ρ w vs hc hG hr;rw[t5] at hr;have r0:=hr.1;have r1:=hr.2.1;simp only[s5] at r0;simp only[P7] at r1;refine⟨g5,?_⟩;show vs.length=2→_;intro hl
   match vs,hl with
   | [a,s],_=>have r1:some s=some (ρ (.tmp d4)):=r1;injection r1 with r1;obtain⟨y,w1,fT,gg,ha,hs,h2,h3,h4',h5⟩:=hG;obtain⟨k1,k2,k3⟩:=tx h2 h3 h4';obtain⟨v',w',hrun,ho,UD,h4⟩:=vF (P:=P) (w:=w) t ty z bytes ht jV hzs hsz hf (h1 y) k2 gg h5 hlen ld (Nat.le_trans hbase k3);exact ai (hap ρ w _ v' w' r0 (r1.symm.trans hs) hrun) ⟨y,w1,fT,w,ha,h2,h3,h4',k2,UD.grown,ho,h4⟩
  ·intro ρ w vs hc hG hr;rw[t6] at hr;have r0:=hr.1;simp only[s6] at r0;exact⟨g6,VL ρ w (r0.trans hq)⟩
 ·intro vs w hl hG;have Dm:=yj _ _ hG
  match vs,hl with
  | [a,s,v],_=>obtain⟨y,w1,fT,w2,ha,h2,h3,h4,h5,h6,h7,h8⟩:=hG;simp only[cN,e0,e1,e2,e3,e4,e5,e6];intro Zy p0 a1 p1 a2 p2 a3 p3 a4 p4 a5 p5 a6 p6;have z0:Zy=.pointer (some ⟨qb,k,none⟩):=p0;have z1:a1=lv:=p1;have z2:a2=ptr:=p2;have z3:some a=some a3:=p3;have z4:some s=some a4:=p4;have z5:some v=some a5:=p5;have z6:a6=.pointer (some ⟨qb,k,none⟩):=p6;injection z3 with z3;injection z4 with z4;injection z5 with z5;rw[z0,z1,z2,← z3,← z4,← z5,z6,ha];exact Oz y s v w1 fT w2 w h2 h3 h4 h5 h6 h7 h8 Dm
end
def Jr (y:Ex×Bool):List Value:=cW y.1++ [.bool y.2]
def Xy (y:Ex×Bool):Value:=.agg (Jr y).toArray
def T2:Obj:=.cells #[.int .u8 0,.int .u8 0,.int .i64 0,.string ⟨#[]⟩,.string ⟨#[]⟩,.int .i64 0,.slice none 0 0,.bool false] 140
theorem yB (ρ:cB)(w:World)(σ:aH)(big:Bool)(h:ρ.at w σ big):
  Calls Tryz.prog 129 #[ρ.ptr] w (BW jP Xy (fun _=>false) ρ w big gB σ):=by
 have dh:=h.rP;have hb:=aa w T2;have h0:=h.later hb;have HQ:=hid (ag.new w 140 #[.int .u8 0,.int .u8 0,.int .i64 0,.string ⟨#[]⟩,.string ⟨#[]⟩,.int .i64 0,.slice none 0 0,.bool false]);have hsz:(w.alloc T2).heap.size=w.heap.size+1:=by simp
 unfold T2 at*;go_enter Tryz.func129,Tryz.ntmps129;go_wp2_with fail;refine(uv ρ _ σ big h0).mono ?_;rintro e w2 ⟨t,y,rfl,ht,d2,fP⟩;unfold ji cW;have hs2:=d2.size;go_wp2_with fail;have D3:=((dH.bP h hb).trans d2).later (aa w2 (.cells (Jr (y,false)).toArray 140));have HX:=ag.new w2 140 (Jr (y,false)).toArray;have gU:=(d2.blk HQ.out (by omega)).alloc (.cells (Jr (y,false)).toArray 140);have Wm:=Tr.at_.keep (rB (.cells (Jr (y,false)).toArray 140) (show w.heap.size+1≤_ by omega)) _ _ ht;have hs3:(w2.alloc (.cells (Jr (y,false)).toArray 140)).heap.size=w2.heap.size+1:=by simp
 unfold Jr cW at D3 HX gU Wm hs3;simp only[List.cons_append,List.nil_append] at D3 HX gU Wm hs3;generalize w2.alloc _=W3 at*;have TT:=hid (iL fP);have hm:=df ρ W3 _ big D3.at_ ⟨#[100,101,115,99]⟩;clear fP h0 hb HQ ht d2;refine hm.mono ?_;rintro e w4 ⟨rfl,d4⟩;have hdd:(af dL σ).head (⟨#[100,101,115,99]⟩:ByteArray).data.toList=(af dL σ).head rv:=rfl;rw[hdd];generalize (af dL σ).head rv=dd at*;clear hdd;have Sj:=d4.blk HX (by omega);have hx2:=HX.lt;have Wo:=Sj.cA 7 (.bool dd);simp only[List.setIfInBounds_toArray,List.set_cons_zero,List.set_cons_succ] at Wo;have Li:=Sj.frozen 7;have hxc:=Sj.cell 7;have rG:=(d4.blk gU (by omega)).far (p:=⟨w2.heap.size,7,none⟩) (by simp;omega) (.bool dd);have D6:=(D3.trans d4).far dh (show w.heap.size≤w2.heap.size by omega) 7 (.bool dd);have T1:=hid (Tr.at_.keep (lH (Nat.le_refl _)) _ _ (Tr.at_.keep (BH 7 (.bool dd)) _ _ (Tr.at_.keep (eH d4.grown (by omega)) _ _ Wm)));have Jf:=hid D6;have yo:=hid rG;obtain⟨x0,x1,x2,x3,x4,x5,x6,x7⟩:=cE Wo;obtain⟨y0,y1,y2,y3,y4,y5,y6,y7⟩:=cE rG;obtain⟨z0,z1,z2,z3,z4,z5,z6,z7⟩:=jm rG;clear Sj Wo rG HX gU D3 d4 hm D6 hx2;go_wp2_with fail;have HP:=yy yo.out y (.bool dd);have HR:=cE HP;unfold rJ cz at HR;obtain⟨r0,r1,r2,r3,r4,r5,r6,r7⟩:=HR;refine bodyPost_ret (v:=Xy (y,dd)) ?_ rfl ?_
 ·simp[results,Tryz.results129,go_sem,r0,r1,r2,r3,r4,r5,r6,r7];rfl
 ·refine⟨(t,dd),(y,dd),rfl,⟨(T1.out.rJ (Nat.lt_succ_self _) y (.bool dd)).more (by omega),rfl⟩,?_,TT.out.2⟩;rw[TT.out.1,Bool.or_false];exact Jf.out.rJ dh (Nat.le_refl _) y (.bool dd)
def nV (B:Nat)(v:Value)(w:World):Nat→Prop:=fun b=>B≤b∧b < w.heap.size∧some b≠v.ownBlock
theorem jG {B g:Nat} {v:Value} {w w':World}(h:w.grownBy w' (some g))(hg:g < B):∀b,nV B v w b→(∀o,w'.cell? ⟨b,o,none⟩=w.cell? ⟨b,o,none⟩)∧nV B v w' b:=fun b hb=>
 ⟨cell_of_heap (h.block b hb.2.1 (fun e=>by injection e with e;have:=hb.1;omega)),hb.1,Nat.lt_of_lt_of_le hb.2.1 h.size,hb.2.2⟩
theorem gI {B:Nat} {v:Value} {w w':World}(h:Below w.heap.size w w'):∀b,nV B v w b→(∀o,w'.cell? ⟨b,o,none⟩=w.cell? ⟨b,o,none⟩)∧nV B v w' b:=fun b hb=>
 ⟨cell_of_heap (h.block b hb.2.1),hb.1,Nat.lt_of_lt_of_le hb.2.1 h.size,hb.2.2⟩
theorem np {B:Nat} {v v':Value} {w w':World}(h:w.grownBy w' v.ownBlock)(hv:v'.ownBlock=v.ownBlock∨v'.ownBlock=some w.heap.size):∀b,nV B v w b→(∀o,w'.cell? ⟨b,o,none⟩=w.cell? ⟨b,o,none⟩)∧nV B v' w' b:=fun b hb=>
 ⟨cell_of_heap (h.block b hb.2.1 hb.2.2),hb.1,Nat.lt_of_lt_of_le hb.2.1 h.size,fun e=>by
   rcases hv with hv | hv
   ·exact hb.2.2 (e.trans hv)
   ·rw[hv] at e;injection e with e;have:=hb.2.1;omega⟩
theorem EM {B B':Nat} {v:Value} {w:World}(hB:B'≤B)(hv:∀g,v.ownBlock=some g→g < B):∀b,gK B w b→(∀o,w.cell? ⟨b,o,none⟩=w.cell? ⟨b,o,none⟩)∧nV B' v w b:=fun b hb=>
 ⟨fun _=>rfl,Nat.le_trans hB hb.1,hb.2,fun e=>by have:=hv b e.symm;have:=hb.1;omega⟩
theorem EN {B B':Nat} {v:Value} {w:World}(hB:B'≤B):∀b,nV B v w b→(∀o,w.cell? ⟨b,o,none⟩=w.cell? ⟨b,o,none⟩)∧gK B' w b:=fun b hb=>⟨fun _=>rfl,Nat.le_trans hB hb.1,hb.2.1⟩
structure fj {α:Type} (E:El α) (T:TypeId) (w:World) (B:Nat) (v:Value) (l:List α):Prop where
 has:∃ys:List E.β,aQ E.f T E.size w B v ys∧jC (E.rel w (nV B v w)) l ys
section
variable {α:Type} {E:El α} {T:TypeId} {w w':World} {B g:Nat} {v:Value} {l:List α}
theorem fj.later (h:fj E T w B v l)(hb:Below w.heap.size w w'):fj E T w' B v l:=by obtain⟨ys,h1,h2⟩:=h.has;exact⟨ys,h1.later hb,h2.imp fun x y=>E.keep (gI hb)⟩
theorem fj.uz (h:fj E T w B v l) {G:Nat}(hG:v.ownBlock=some G):B≤G∧G < w.heap.size:=by obtain⟨ys,h1,h2⟩:=h.has;exact⟨(h1.lt hG).2.1,(h1.lt hG).1⟩
theorem fj.grown (h:fj E T w B v l)(hb:w.grownBy w' (some g))(hg:g < B):fj E T w' B v l:=by obtain⟨ys,h1,h2⟩:=h.has;exact⟨ys,h1.grown hb (fun e=>by have:=(h1.lt e).2.1;omega),h2.imp fun x y=>E.keep (jG hb hg)⟩
theorem fj.sl (h:fj E T w B v l) {B':Nat}(hB:B'≤B):∃y:Sl,v=kn y∧y.n=l.length∧E.sl w (gK B' w) y l:=by obtain⟨ys,h1,h2⟩:=h.has;obtain⟨A,c,hv,hr⟩:=rH E.hf h1 (S:=gK B' w) (fun g h3 h4=>⟨by omega,h4⟩);refine⟨⟨A,l.length,c⟩,?_,rfl,rfl,ys,hr,h2.imp fun x y=>E.keep (EN hB)⟩;rw[hv,h2.len];rfl
theorem fj.nil (E:El α)(T:TypeId)(w:World)(B:Nat):fj E T w B (.slice none 0 0) []:=⟨[],aQ.nil,.nil⟩
end
theorem Sk {β:Type} {f:β→List Value} {e:TypeId} {size:Nat}(hf:∀x,(f x).length=size) {w:World} {base G:Nat} {y:β}(h:ag w G e (f y).toArray)(hb:base≤G):aQ f e size w base (.slice (some ⟨G,0,none⟩) 1 1) [y]:=by
 refine⟨by simp[hf],.inr ⟨G,1,(f y).toArray,rfl,hb,h,Nat.le_refl _,?_,by simp[hf],?_⟩⟩
 ·unfold maxLen;omega
 ·simp[hf,List.take_of_length_le]
theorem fj.one {α:Type} {E:El α} {T:TypeId} {w:World} {B G:Nat} {x:α} {y:E.β}(h:ag w G T (E.f y).toArray)(hb:B≤G)(hx:E.rel w (nV B (.slice (some ⟨G,0,none⟩) 1 1) w) x y):fj E T w B (.slice (some ⟨G,0,none⟩) 1 1) [x]:=
 ⟨[y],Sk E.hf h hb,.one hx⟩
theorem nt (b:Bool)(n:Nat):((b || decide (64 < n - 1))|| decide (64 < n))=(b || decide (64 < n)):=by
 by_cases h:64 < n
 ·simp[h]
 ·have h2:¬64 < n - 1:=by omega
  simp[h,h2]
structure Js (ρ:cB) (w:World) (big:Bool) (σ:aH) (k:Nat) (v:Value) (wr:World) (bB:aH) (acc:List Tr):Prop where
 pos:0 < acc.length
 few:acc.length+bB.left≤5001
 le:bB.left≤k
 row:fj nh 34 wr w.heap.size v acc
 did:dH ρ w wr bB (big || decide (64 < acc.length - 1))
 todo:ez dL σ acc bB
theorem Hi (ρ:cB)(w:World)(σ:aH)(big:Bool)(h:ρ.at w σ big):
  Calls Tryz.prog 128 #[ρ.ptr] w (VT nh ρ w big (ic dL) σ):=by
 have dh:=h.rP;have hsm:=h.small;have Eb:=h.left;have HH:=hid h;clear h;go_enter Tryz.func128,Tryz.ntmps128;go_wp2_with fail;refine(uv ρ _ σ big HH.out).mono ?_;rintro e w2 ⟨t,y,rfl,ht,d2,fP⟩;unfold ji cW;have hs2:=d2.size;go_wp2_with fail;have hA:Js ρ w big σ 5000 (.slice (some ⟨w2.heap.size,0,none⟩) 1 1) (w2.alloc (ky y)) (af dL σ) [t]:=by have hl:=aH.bs fB σ;refine⟨by simp,by simp;omega,by omega,fj.one (E:=nh) (ag.new w2 _ _) hs2 (Tr.at_.keep (fun b hb=>⟨cell_of_heap (Below.heap_alloc w2 _ b hb.2),hb.1,by have:=hb.2;simp;omega,by have:=hb.2;simp[Value.ownBlock];omega⟩) _ _ ht),?_,ez.start fP⟩;have:=d2.later (aa w2 (ky y));simpa using this
 unfold ky cW at hA;have HA:=hid hA;clear hA fP ht d2;generalize w2.alloc _=W3 at*;go_loopg [3] 5000 (fun k v wr=>∃bB acc u,v=u∧Js ρ w big σ k u wr bB acc);case atStart=>exact⟨_,_,_,rfl,HA.out⟩
 case round=>
  obtain⟨bB,acc,u,hu,hE⟩:=hrel;have O8:=hu.symm;clear hu;subst O8;obtain⟨sl,kG,qH,_⟩:=hE.row.sl (B':=w.heap.size) (Nat.le_refl _);have HE:=hid hE;clear hE HA;obtain⟨A,n,c⟩:=sl;replace qH:n=acc.length:=qH;replace kG:_=Value.slice A n c:=kG;have yM:0 < n:=by have:=HE.out.pos;omega
  have rQ:n≤5001:=by have:=HE.out.few;omega
  subst kG;have Je:=hid qH;clear qH;go_wp2_with fail;refine(um ρ wr bB _ HE.out.did.at_ n (by omega)).mono ?_;rintro e w4 ⟨rfl,d4⟩;have hs4:=d4.size;have hs0:=HE.out.did.size;cases hh:bB.head aX
  ·rw[aw hh] at d4;have Md:=hid d4;have hdone:=ez.done fB HE.out.todo hh;have Qh:=hid hdone;clear hh d4 hdone;go_wp2_with fail;go_ret;obtain⟨y2,iq,_,hy3⟩:=(HE.out.row.grown Md.out.grown dh).sl (B':=w.heap.size) (Nat.le_refl _);refine⟨acc,y2,by rw[← iq];rfl,hy3,?_,Qh.out.2⟩;rw[Qh.out.1];have:=HE.out.did.trans Md.out;rwa [Je.out,nt] at this
  ·rw[aB hh] at d4;obtain⟨l1,l2,l3⟩:=jD hh;have xY:=hid hh;have Md:=hid d4;clear hh;go_wp2_with fail;refine(uv ρ _ _ _ d4.at_).mono ?_;rintro e w5 ⟨t2,y2,rfl,Lc,d5,Ld⟩;unfold ji cW;have hs5:=d5.size;have hR:=(HE.out.row.grown Md.out.grown dh);have hown:∀g,(Value.slice A n c).ownBlock=some g→g < w4.heap.size:=fun g hg=>(hR.uz hg).2
   have T3:=(hR.grown d5.grown dh).later (aa w5 (ky y2));have ht5:=Tr.at_.keep (gI (aa w5 (ky y2))) _ _ (Tr.at_.keep (EM (B':=w.heap.size) (by omega) hown) _ _ Lc);have hG:=ag.new w5 34 (cW y2).toArray;have hD:=((HE.out.did.trans Md.out).trans d5).later (aa w5 (ky y2));have hgo:=ez.go fB HE.out.todo xY.out Ld;have HGO:=hid hgo;have hl5:=aH.bs fB (aH.good bB.words.tail);obtain⟨ys,ho,ha⟩:∃ys:List Ex,aQ cW 34 7 (w5.alloc (ky y2)) w.heap.size (Value.slice A n c) ys∧jC (Tr.at_ (w5.alloc (ky y2)) (nV w.heap.size (Value.slice A n c) (w5.alloc (ky y2)))) acc ys:=T3.has;have Wh:=ha.len;have A0:ys.length≤5001:=by have:=HE.out.few;omega
   clear Wh;have hrow:∀g,(Value.slice A n c).ownBlock=some g→w.heap.size≤g:=fun g hg=>(T3.uz hg).1
   have vC:=hid hrow;have HO:=hid ho;have yS:=hid ha;have HT5:=hid ht5;have HD5:=hid hD;have SV:=hid hG;have hbase:w.heap.size≤(w5.alloc (ky y2)).heap.size:=by simp;omega
   unfold ky cW at HO yS HT5 HD5 hbase;unfold cW at SV;clear hR hown T3 ht5 hG hD hgo ho ha Lc d5 Ld d4 hrow;go_wp2_with (first
    |(at_builtin
      go_loud (refine rM rfl (.tmp 11) (.tmp 14) 22 rfl _ 88 Tryz.underlying22 mn rfl (by omega) y2 rfl (by intro u hu;simp[cW] at hu;rcases hu with rfl | rfl | rfl | rfl | rfl | rfl | rfl <;> rfl) rfl HO.out w5.heap.size rfl SV.out (by omega) (by omega) hbase ?_
               intro v6 w6 o6 g6 hv6)))
   go_roundg (af dL (aH.good bB.words.tail)).left;case measure=>have:=HE.out.le;omega
   case rel=>refine⟨af dL (aH.good bB.words.tail),acc++ [t2],v6,rfl,?_⟩;refine⟨by simp,by have:=HE.out.few;simp;omega,Nat.le_refl _,⟨ys++ [y2],o6,(yS.out.imp fun x y=>Tr.at_.keep (np g6 hv6) x y).append (.one (Tr.at_.keep (np g6 hv6) _ _ HT5.out))⟩,?_,HGO.out⟩;have:=HD5.out.own dh g6 vC.out;rw[Je.out,nt] at this;rw[List.length_append,List.length_singleton,Nat.add_sub_cancel];exact this
def gO (v:Val):Value:=.agg (Ln v).toArray
end Go.Proofs.YtfmbcoeallmnnaaGreatDoor.R
