/- Parts of the proof. -/
import Derived.Test.YtfmbcoeallmnnaaGreatDoorC32
namespace Go.Proofs.YtfmbcoeallmnnaaGreatDoor.R
open Go.Lib (hid)
open Go.ChangeShapes Go.WideShapes Go.ChangeAt Go.RowKit
set_option linter.unusedVariables false
set_option linter.unusedSimpArgs false
theorem NQ {s:ByteArray} {l:List Tok}(h:qm s.data.toList=.ok l) {w:World}(hs:s.size≤4294967280):
  Calls Tryz.prog 72 #[.string s] w fun e w'=>∃A c,e=.returned (.tuple #[.slice A l.length c,.int .i64 0,.int .i64 0])∧Bi w' w.heap.size (.slice A l.length c) l∧Below w.heap.size w w':=by
 refine(Kt s w hs).mono ?_;intro e w' hp;unfold ry at hp;rw[h] at hp;obtain⟨v,rfl,ho,hb⟩:=hp;obtain⟨A,c,rfl⟩:=ho.form;exact⟨A,c,rfl,ho,hb⟩
set_option maxHeartbeats 1000000
set_option maxRecDepth 100000
theorem Ee (ρ:cu)(w:World)(σ:aF)(big:Bool)(h:ρ.at w σ big)(has:(af dE σ).head vt=true):
  Calls Tryz.prog 127 #[ρ.ptr] w (zC jM NA (fun _=>false) ρ w big gJ σ):=by
 have cU:=h.qJ;have hb:=aa w SG;have h0:=h.later hb;have HQ:=hid (ah.new w 138 #[.int .u8 0,.int .u8 0,.int .i64 0,.string ⟨#[]⟩,.string ⟨#[]⟩,.int .i64 0,.slice none 0 0,.string ⟨#[]⟩]);have hsz:(w.alloc SG).heap.size=w.heap.size+1:=by simp
 unfold SG at*;go_enter Tryz.func127,Tryz.ntmps127;go_wp2_with fail;refine(sM ρ _ σ big h0).mono ?_;rintro e w2 ⟨t,y,rfl,ht,d2,fC⟩;unfold iL cM;have hs2:=d2.size;go_wp2_with fail;have D3:=((dz.bH h hb).trans d2).later (aa w2 (.cells (xW (y,⟨#[]⟩)).toArray 138));have HX:=ah.new w2 138 (xW (y,⟨#[]⟩)).toArray;have gC:=(d2.blk HQ.out (by omega)).alloc (.cells (xW (y,⟨#[]⟩)).toArray 138);have Pr:=(ht.later (aa w2 (.cells (xW (y,⟨#[]⟩)).toArray 138))).more (B':=w.heap.size+1) (by omega);have RM:=Tr.at_.keep (qs (.cells (xW (y,⟨#[]⟩)).toArray 138) (show w.heap.size+1≤_ by omega)) _ _ ht;have hs3:(w2.alloc (.cells (xW (y,⟨#[]⟩)).toArray 138)).heap.size=w2.heap.size+1:=by simp
 unfold xW cM at D3 HX gC Pr RM hs3;simp only[List.cons_append,List.nil_append] at D3 HX gC Pr RM hs3;generalize w2.alloc _=W3 at*;have Yf:=hid fC;have HAS:=hid has;have hm:=kT ρ W3 _ big D3.at_ ⟨#[97,115]⟩ has;clear has fC h0 hb HQ ht d2;refine hm.mono ?_;rintro e w4 ⟨rfl,d4⟩;go_wp2_with fail;refine(oT ρ _ _ big d4.at_).mono ?_;rintro e w5 ⟨n,rfl,d5,xc⟩;have ZL:=d4.size;have hit:=Hi Yf.out HAS.out xc;have Pt:=hid hit;clear hit xc;have NR:=d5.blk (d4.blk HX (by omega)) (by omega);have hx2:=HX.lt;have RN:=NR.cn 7 (.string n);simp only[List.setIfInBounds_toArray,List.set_cons_zero,List.set_cons_succ] at RN;have Hf:=NR.frozen 7;have O8:=NR.cell 7;have qB:=(d5.blk (d4.blk gC (by omega)) (by omega)).far (p:=⟨w2.heap.size,7,none⟩) (by simp;omega) (.string n);have D6:=((D3.trans d4).trans d5).far cU (show w.heap.size≤w2.heap.size by omega) 7 (.string n);have Yg:=hid (Tr.at_.keep (kN (Nat.le_refl _)) _ _ (Tr.at_.keep (zf 7 (.string n)) _ _ (Tr.at_.keep (eB d5.grown (by omega)) _ _ (Tr.at_.keep (eB d4.grown (by omega)) _ _ RM))));have Fh:=hid D6;have wb:=hid qB;obtain⟨x0,x1,x2,x3,x4,x5,x6,x7⟩:=cz RN;obtain⟨y0,y1,y2,y3,y4,y5,y6,y7⟩:=cz qB;obtain⟨z0,z1,z2,z3,z4,z5,z6,z7⟩:=iP qB;clear NR RN qB HX gC Pr D3 d4 hm d5 D6 hx2;go_wp2_with fail;have HP:=wy wb.out y (.string n);have HR:=cz HP;unfold qE cr at HR;obtain⟨r0,r1,r2,r3,r4,r5,r6,r7⟩:=HR;refine bodyPost_ret (v:=NA (y,n)) ?_ rfl ?_
 ·simp[results,Tryz.results127,go_sem,r0,r1,r2,r3,r4,r5,r6,r7];rfl
 ·refine⟨(t,n),(y,n),rfl,⟨(Yg.out.qE (Nat.lt_succ_self _) y (.string n)).more (by omega),rfl⟩,?_,Pt.out.2⟩;rw[Pt.out.1,Bool.or_false];exact Fh.out.qE cU (Nat.le_refl _) y (.string n)
theorem ya (ρ:cu)(w:World)(σ:aF)(big:Bool)(h:ρ.at w σ big):
  Calls Tryz.prog 127 #[ρ.ptr] w (zC jM NA (fun _=>false) ρ w big gJ σ):=by
 cases has:(af dE σ).head vt
 ·exact BI ρ w σ big h has
 ·exact Ee ρ w σ big h has
theorem ub {α:Type} {f:α→List Value} {e:TypeId} {size:Nat} {base:Nat} {lv:Value} {l:List α} {y:α} {P:Program} {w:World}(t ty:TypeId)(z:Value)(bytes:Nat)(ht:P.underlying t=some (.slice e))(jw:(P.info? e).map (fun i=>(i.zero,i.size,i.bytes))=some (some z,size,bytes))(hzs:z.cells.size=size)(hsz:0 < size)
  (hf:∀x,(f x).length=size) (h1:∀u∈f y,u.oneCell'=true) (hown:aW f e size w base lv l)
  (g0:Nat) (hg0:ah w g0 e (f y).toArray) (hlen:(l.length+1)*bytes≤140737488355328) (kD:l.length+1≤140737488355328) (hbase:base≤w.heap.size):
  ∃v' w',(Builtin.append_ #[t,t] ty #[lv,.slice (some ⟨g0,0,none⟩) 1 1]).run P w=.ok v' w'∧aW f e size w' base v' (l++ [y])∧AR f e size base lv l y w w'∧(v'.ownBlock=lv.ownBlock∨v'.ownBlock=some w.heap.size):=by
 obtain⟨v',w',hr,ho,ha⟩:=fO t ty z bytes ht jw hzs hsz hf h1 hown g0 hg0 hlen kD hbase;obtain⟨i0,pj,hz0,hz1,hz2⟩:=info_parts jw;obtain⟨v2,w2,hr2,_,_,h4⟩:=fL (P:=P) w base t ty e i0 z size bytes ht pj hz0 hz1 hz2 hzs hsz lv l.length (l.flatMap f) hown (g0+1) (some ⟨g0,0,none⟩) 1 1 (f y) ⟨by rw[hf];omega,fun _=>⟨_,rfl,Nat.lt_succ_self _,by
  intro j u hu
  have:(Addr.add ⟨g0,0,none⟩ j)=⟨g0,j,none⟩:=by unfold Addr.add;split <;> simp_all
  rw[this,hg0.cell]
  simpa using hu⟩⟩ h1 (by unfold maxLen;omega) hlen hbase
 rw[hr] at hr2;injection hr2 with e1 e2;subst e1 e2;exact⟨v',w',hr,ho,ha,h4⟩
theorem qH {α:Type} {f:α→List Value} {e:TypeId} {size:Nat} {base:Nat} {v:Value} {l:List α} {w:World} {P:Program} {ops:Array Oper} {rest:List Oper} {o:Oper} {a:Act} {Q:Exit→Act→World→Prop}(hgd:o.guard=none)(s x:Operand)(t:TypeId)
  (ho:o.op=.call { callee:=.builtin .append,args:= #[s,x],argTypes:= #[t,t] })
  (z:Value) (bytes:Nat) (ht:P.underlying t=some (.slice e)) (jw:(P.info? e).map (fun i=>(i.zero,i.size,i.bytes))=some (some z,size,bytes)) (hzs:z.cells.size=size) (hsz:0 < size)
  (y:α) (hf:(f y).length=size) (h1:∀u∈f y,u.oneCell'=true)
  (hs:a.eval s=v) (hown:aW f e size w base v l)
  (g:Nat) (hx:a.eval x=.slice (some ⟨g,0,none⟩) 1 1) (hg:ah w g e (f y).toArray)
  (hlen:(l.length+1)*bytes≤140737488355328) (kD:l.length+1≤140737488355328) (hbase:base≤w.heap.size)
  (h:∀v' w',aW f e size w' base v' (l++ [y])→w.grownBy w' v.ownBlock→(v'.ownBlock=v.ownBlock∨v'.ownBlock=some w.heap.size)→wpList P ops Q rest (a.put o.dst v') w'):wpList P ops Q (o::rest) a w:=by
 obtain⟨i0,pj,hz0,hz1,hz2⟩:=info_parts jw;refine eu w hgd s x t ho base e i0 z size bytes ht pj hz0 hz1 hz2 hzs hsz v l.length (l.flatMap f) hs hown (g+1) (some ⟨g,0,none⟩) 1 1 (f y) hx ⟨by omega,fun _=>⟨_,rfl,Nat.lt_succ_self _,?_⟩⟩ h1 (by unfold maxLen;omega) hlen hbase ?_
 ·intro j u hu;have:(Addr.add ⟨g,0,none⟩ j)=⟨g,j,none⟩:=by unfold Addr.add;split <;> simp_all
  rw[this,hg.cell];simpa using hu
 ·intro v' w' h2 h3 h4;refine h v' w' ?_ h3 h4;unfold aW;rw[List.length_append,List.flatMap_append];simpa using h2
section
variable {P:Program} {β:Type} (f:β→List Value) (val:β→Value) (e:TypeId) (size base:Nat) (l:List β) (lv:Value) (Post:β→World→World→Prop) (w0:World)
def zK:List Value→World→Prop
 | [],w=>ae w0 w
 | [a],w=>∃y w1 fF,a=val y∧ae w0 w1∧Post y w1 fF∧ae fF w
 | [a,s],w=>∃y w1 fF g0,a=val y∧s=.slice (some ⟨g0,0,none⟩) 1 1∧ae w0 w1∧Post y w1 fF∧ae fF w∧ah w g0 e (f y).toArray
 | [a,s,v],w=>∃y w1 fF w2,a=val y∧ae w0 w1∧Post y w1 fF∧ae fF w2∧aW f e size w2 base lv l∧w2.grownBy w lv.ownBlock∧aW f e size w base v (l++ [y])∧(v.ownBlock=lv.ownBlock∨v.ownBlock=some w2.heap.size)
 | _,_=>False
theorem BZ (vs:List Value)(w:World)(h:zK f val e size base l lv Post w0 vs w):zK f val e size base l lv Post w0 vs w.drew:=by
 match vs,h with
 | [],h=>exact ae.trans h (ae.drew _)
 | [a],⟨y,w1,fF,h1,h2,h3,h4⟩=>exact⟨y,w1,fF,h1,h2,h3,h4.trans (ae.drew _)⟩
 | [a,s],⟨y,w1,fF,g0,h1,h2,h3,h4,h5,h6⟩=>exact⟨y,w1,fF,g0,h1,h2,h3,h4,h5.trans (ae.drew _),h6.drew⟩
 | [a,s,v],⟨y,w1,fF,w2,h1,h2,h3,h4,h5,h6,h7,h8⟩=>exact⟨y,w1,fF,w2,h1,h2,h3,h4,h5,⟨h6.os,h6.tape,h6.output,h6.size,h6.block⟩,h7.later (ae.drew _),h8⟩
 | _::_::_::_::_,h=>exact h.elim
variable {f val e size base l lv Post w0}
variable {Q:Exit→Act→World→Prop} {a0:Act} {id:Nat} {o0 o1 o2 o3 o4 o5 o6 o7:Oper} {q d0 d1 d2 d3 d4 d5 d6:Tmp} {qb k g:Nat} {pq ptr:Value} {F:FuncId} {args:Array Value}
theorem kq (t ty:TypeId)(z:Value)(bytes:Nat)
  (hm:P.follows .mixedOrders=true) (aS:bR [o0,o1,o2,o3,o4,o5,o6] a0.tmps.size [o0,o1,o2,o3,o4,o5,o6] 0=true) (hz:cF [o0,o1,o2,o3,o4,o5,o6,o7] [o7] 7=true) (hch:fu [o0,o1,o2,o3,o4,o5,o6] [3,4,5]=true) (Pf:zu o0 o1 o2 o3 o4 o5 o6 q d0 d1 d2 d3 d4 d5 d6=true)
  (hq:a0.eval (.tmp q)=pq) (h0:a0.eval (.tmp 0)=ptr)
  (Xy:∀ρ w,ρ (.tmp q)=pq→(execOp ρ o0).run P w=.ok (.value (.pointer (some ⟨qb,k,none⟩))) w) (Rj:∀ρ w,ρ (.tmp q)=pq→(execOp ρ o6).run P w=.ok (.value (.pointer (some ⟨qb,k,none⟩))) w)
  (Xz:∀ρ w,ρ (.tmp d0)=.pointer (some ⟨qb,k,none⟩)→w.cell? ⟨qb,k,none⟩=some lv→(execOp ρ o1).run P w=.ok (.value lv) w)
  (UH:∀ρ w,ρ (.tmp 0)=ptr→(execOp ρ o2).run P w=.ok (.value ptr) w)
  (gR:∀ρ w,eX ρ→ρ (.tmp d2)=ptr→(execOp ρ o3).run P w=.ok (.enter F args) w)
  (Bv:∀ρ w y,ρ (.tmp d3)=val y→(execOp ρ o4).run P w=.ok (.value (.slice (some ⟨w.heap.size,0,none⟩) 1 1)) (w.alloc (.cells (f y).toArray e)))
  (hap:∀ρ w s v' w',ρ (.tmp d1)=lv→ρ (.tmp d4)=s→(Builtin.append_ #[t,t] ty #[lv,s]).run P w=.ok v' w'→(execOp ρ o5).run P w=.ok (.value v') w')
  (ht:P.underlying t=some (.slice e)) (jw:(P.info? e).map (fun i=>(i.zero,i.size,i.bytes))=some (some z,size,bytes)) (hzs:z.cells.size=size) (hsz:0 < size) (hf:∀x,(f x).length=size) (h1:∀y,∀u∈f y,u.oneCell'=true)
  (hown:aW f e size w0 base lv l) (hcell:w0.cell? ⟨qb,k,none⟩=some lv) (LQ:qb≠g) (KC:lv.ownBlock≠some g) (XA:lv.ownBlock≠some qb) (hlen:(l.length+1)*bytes≤140737488355328) (kD:l.length+1≤140737488355328) (hbase:base≤w0.heap.size)
  (KD:∀w,ae w0 w→Calls P F args w fun e w'=>∃y,e=.returned (val y)∧Post y w w') (XB:∀y w w',Post y w w'→w.grownBy w' (some g))
  (KE:∀y s v' w1 fF w2 W,ae w0 w1→Post y w1 fF→ae fF w2→aW f e size w2 base lv l→w2.grownBy W lv.ownBlock→aW f e size W base v' (l++ [y])→(v'.ownBlock=lv.ownBlock∨v'.ownBlock=some w2.heap.size)→W.cell? ⟨qb,k,none⟩=some lv→
    wpList P [o0,o1,o2,o3,o4,o5,o6,o7].toArray Q [o7] (((((((a0.put (some d0) (.pointer (some ⟨qb,k,none⟩))).put (some d1) lv).put (some d2) ptr).put (some d3) (val y)).put (some d4) s).put (some d5) v').put (some d6) (.pointer (some ⟨qb,k,none⟩))) W):
  (Code.region id [o0,o1,o2,o3,o4,o5,o6,o7].toArray true).wp P Q a0 w0:=by
 simp only[zu,Bool.and_eq_true,beq_iff_eq,Option.isNone_iff_eq_none] at Pf;obtain⟨⟨⟨⟨⟨⟨⟨⟨⟨⟨⟨⟨⟨⟨⟨⟨⟨⟨⟨⟨⟨⟨⟨⟨⟨⟨⟨⟨t0,s0⟩,t1⟩,s1⟩,t2⟩,s2⟩,t3⟩,s3⟩,t4⟩,s4⟩,t5⟩,s5⟩,XC⟩,t6⟩,s6⟩,e0⟩,e1⟩,e2⟩,e3⟩,e4⟩,e5⟩,e6⟩,g0⟩,g1⟩,g2⟩,g3⟩,g4⟩,g5⟩,g6⟩:=Pf;have GY:qb < w0.heap.size:=(by rcases Nat.lt_or_ge qb w0.heap.size with h | h;exact h;exact absurd hcell (by unfold World.cell?;rw[Array.getElem?_eq_none h];simp))
 -- the cell stays
 have rB:∀ {y w1 fF w},ae w0 w1→Post y w1 fF→ae fF w→w.cell? ⟨qb,k,none⟩=some lv∧aW f e size w base lv l∧w0.heap.size≤w.heap.size:=by
  intro y w1 fF w ha hb hc;have hg:=XB _ _ _ hb;have z1:qb < w1.heap.size:=Nat.lt_of_lt_of_le GY ha.size;have z2:qb < fF.heap.size:=Nat.lt_of_lt_of_le z1 hg.size;refine⟨?_,?_,Nat.le_trans ha.size (Nat.le_trans hg.size hc.size)⟩
  ·rw[hc.cell (p:=⟨qb,k,none⟩) z2,nh hg (p:=⟨qb,k,none⟩) z1 (fun e=>LQ (by injection e)),ha.cell (p:=⟨qb,k,none⟩) GY];exact hcell
  ·exact((hown.later ha).grown hg KC).later hc
 have vX:∀vs w,zK f val e size base l lv Post w0 vs w→w.cell? ⟨qb,k,none⟩=some lv:=by
  intro vs w h
  match vs,h with
  | [],h=>rw[ae.cell h (p:=⟨qb,k,none⟩) GY];exact hcell
  | [a],⟨y,w1,fF,_,h2,h3,h4⟩=>exact(rB h2 h3 h4).1
  | [a,s],⟨y,w1,fF,_,_,_,h2,h3,h4,_⟩=>exact(rB h2 h3 h4).1
  | [a,s,v],⟨y,w1,fF,w2,_,h2,h3,h4,_,h6,_,_⟩=>obtain⟨k1,_,k3⟩:=rB h2 h3 h4;rw[nh h6 (p:=⟨qb,k,none⟩) (Nat.lt_of_lt_of_le GY k3) (fun e=>XA e.symm)];exact k1
  | _::_::_::_::_,h=>exact h.elim
 refine jZ [o7] [o0,o1,o2,o3,o4,o5,o6] rfl (fun i=>if i=0 then .pointer (some ⟨qb,k,none⟩)else if i=1 then lv else if i=2 then ptr else .pointer (some ⟨qb,k,none⟩)) [3,4,5] (zK f val e size base l lv Post w0) (BZ f val e size base l lv Post w0) (ae.refl w0) hm aS hz hch (by decide) rfl ?_ ?_
 ·refine⟨?_,?_,?_,?_,?_,?_,?_,trivial⟩
  ·intro ρ w vs hc hG hr;rw[t0] at hr;have r0:=hr.1;simp only[s0] at r0;exact⟨g0,Xy ρ w (r0.trans hq)⟩
  ·intro ρ w vs hc hG hr;rw[t1] at hr;have r0:=hr.1;simp only[s1] at r0;exact⟨g1,Xz ρ w r0 (vX _ _ hG)⟩
  ·intro ρ w vs hc hG hr;rw[t2] at hr;have r0:=hr.1;simp only[s2] at r0;exact⟨g2,UH ρ w (r0.trans h0)⟩
  ·intro ρ w vs hc hG hr;rw[t3] at hr;have r0:=hr.1;simp only[s3] at r0;refine⟨g3,?_⟩;show vs.length=0→_;intro hl;obtain rfl:=List.eq_nil_of_length_eq_zero hl;refine lZ (gR ρ w hc r0) ((KD w hG).mono ?_);rintro e' w' ⟨y,rfl,hp⟩;exact⟨_,rfl,y,w,w',rfl,hG,hp,ae.refl _⟩
  ·intro ρ w vs hc hG hr;rw[t4] at hr;have r0:=hr.1;simp only[s4] at r0;refine⟨g4,?_⟩;show vs.length=1→_;intro hl
   match vs,hl with
   | [a],_=>have r0:some a=some (ρ (.tmp d3)):=r0;injection r0 with r0;obtain⟨y,w1,fF,ha,h2,h3,h4⟩:=hG;refine cJ (Bv ρ w y (r0.symm.trans ha)) ?_;exact⟨y,w1,fF,w.heap.size,ha,rfl,h2,h3,h4.trans ((Below.refl _ _).alloc (Nat.le_refl _) _),ah.new w e _⟩
  ·intro ρ w vs hc hG hr;rw[t5] at hr;have r0:=hr.1;have r1:=hr.2.1;simp only[s5] at r0;simp only[XC] at r1;refine⟨g5,?_⟩;show vs.length=2→_;intro hl
   match vs,hl with
   | [a,s],_=>have r1:some s=some (ρ (.tmp d4)):=r1;injection r1 with r1;obtain⟨y,w1,fF,gg,ha,hs,h2,h3,B9,h5⟩:=hG;obtain⟨k1,k2,k3⟩:=rB h2 h3 B9;obtain⟨v',w',hrun,ho,XD,h4⟩:=ub (P:=P) (w:=w) t ty z bytes ht jw hzs hsz hf (h1 y) k2 gg h5 hlen kD (Nat.le_trans hbase k3);exact cJ (hap ρ w _ v' w' r0 (r1.symm.trans hs) hrun) ⟨y,w1,fF,w,ha,h2,h3,B9,k2,XD.grown,ho,h4⟩
  ·intro ρ w vs hc hG hr;rw[t6] at hr;have r0:=hr.1;simp only[s6] at r0;exact⟨g6,Rj ρ w (r0.trans hq)⟩
 ·intro vs w hl hG;have AB:=vX _ _ hG
  match vs,hl with
  | [a,s,v],_=>obtain⟨y,w1,fF,w2,ha,h2,h3,h4,h5,h6,h7,h8⟩:=hG;simp only[dr,e0,e1,e2,e3,e4,e5,e6];intro UI p0 a1 p1 a2 p2 a3 p3 a4 p4 a5 p5 a6 p6;have z0:UI=.pointer (some ⟨qb,k,none⟩):=p0;have z1:a1=lv:=p1;have z2:a2=ptr:=p2;have z3:some a=some a3:=p3;have z4:some s=some a4:=p4;have z5:some v=some a5:=p5;have z6:a6=.pointer (some ⟨qb,k,none⟩):=p6;injection z3 with z3;injection z4 with z4;injection z5 with z5;rw[z0,z1,z2,← z3,← z4,← z5,z6,ha];exact KE y s v w1 fF w2 w h2 h3 h4 h5 h6 h7 h8 AB
end
def Fw (y:Ex×Bool):List Value:=cM y.1++ [.bool y.2]
def SI (y:Ex×Bool):Value:=.agg (Fw y).toArray
def Yh:Obj:=.cells #[.int .u8 0,.int .u8 0,.int .i64 0,.string ⟨#[]⟩,.string ⟨#[]⟩,.int .i64 0,.slice none 0 0,.bool false] 140
theorem wB (ρ:cu)(w:World)(σ:aF)(big:Bool)(h:ρ.at w σ big):
  Calls Tryz.prog 129 #[ρ.ptr] w (zC js SI (fun _=>false) ρ w big fS σ):=by
 have cU:=h.qJ;have hb:=aa w Yh;have h0:=h.later hb;have HQ:=hid (ah.new w 140 #[.int .u8 0,.int .u8 0,.int .i64 0,.string ⟨#[]⟩,.string ⟨#[]⟩,.int .i64 0,.slice none 0 0,.bool false]);have hsz:(w.alloc Yh).heap.size=w.heap.size+1:=by simp
 unfold Yh at*;go_enter Tryz.func129,Tryz.ntmps129;go_wp2_with fail;refine(sM ρ _ σ big h0).mono ?_;rintro e w2 ⟨t,y,rfl,ht,d2,fC⟩;unfold iL cM;have hs2:=d2.size;go_wp2_with fail;have D3:=((dz.bH h hb).trans d2).later (aa w2 (.cells (Fw (y,false)).toArray 140));have HX:=ah.new w2 140 (Fw (y,false)).toArray;have gC:=(d2.blk HQ.out (by omega)).alloc (.cells (Fw (y,false)).toArray 140);have RM:=Tr.at_.keep (qs (.cells (Fw (y,false)).toArray 140) (show w.heap.size+1≤_ by omega)) _ _ ht;have hs3:(w2.alloc (.cells (Fw (y,false)).toArray 140)).heap.size=w2.heap.size+1:=by simp
 unfold Fw cM at D3 HX gC RM hs3;simp only[List.cons_append,List.nil_append] at D3 HX gC RM hs3;generalize w2.alloc _=W3 at*;have Pt:=hid (ik fC);have hm:=cT ρ W3 _ big D3.at_ ⟨#[100,101,115,99]⟩;clear fC h0 hb HQ ht d2;refine hm.mono ?_;rintro e w4 ⟨rfl,d4⟩;have hdd:(af dE σ).head (⟨#[100,101,115,99]⟩:ByteArray).data.toList=(af dE σ).head qo:=rfl;rw[hdd];generalize (af dE σ).head qo=dd at*;clear hdd;have NR:=d4.blk HX (by omega);have hx2:=HX.lt;have RN:=NR.cn 7 (.bool dd);simp only[List.setIfInBounds_toArray,List.set_cons_zero,List.set_cons_succ] at RN;have Hf:=NR.frozen 7;have O8:=NR.cell 7;have qB:=(d4.blk gC (by omega)).far (p:=⟨w2.heap.size,7,none⟩) (by simp;omega) (.bool dd);have D6:=(D3.trans d4).far cU (show w.heap.size≤w2.heap.size by omega) 7 (.bool dd);have Yg:=hid (Tr.at_.keep (kN (Nat.le_refl _)) _ _ (Tr.at_.keep (zf 7 (.bool dd)) _ _ (Tr.at_.keep (eB d4.grown (by omega)) _ _ RM)));have Fh:=hid D6;have wb:=hid qB;obtain⟨x0,x1,x2,x3,x4,x5,x6,x7⟩:=cz RN;obtain⟨y0,y1,y2,y3,y4,y5,y6,y7⟩:=cz qB;obtain⟨z0,z1,z2,z3,z4,z5,z6,z7⟩:=iP qB;clear NR RN qB HX gC D3 d4 hm D6 hx2;go_wp2_with fail;have HP:=wy wb.out y (.bool dd);have HR:=cz HP;unfold qE cr at HR;obtain⟨r0,r1,r2,r3,r4,r5,r6,r7⟩:=HR;refine bodyPost_ret (v:=SI (y,dd)) ?_ rfl ?_
 ·simp[results,Tryz.results129,go_sem,r0,r1,r2,r3,r4,r5,r6,r7];rfl
 ·refine⟨(t,dd),(y,dd),rfl,⟨(Yg.out.qE (Nat.lt_succ_self _) y (.bool dd)).more (by omega),rfl⟩,?_,Pt.out.2⟩;rw[Pt.out.1,Bool.or_false];exact Fh.out.qE cU (Nat.le_refl _) y (.bool dd)
def nj (B:Nat)(v:Value)(w:World):Nat→Prop:=fun b=>B≤b∧b < w.heap.size∧some b≠v.ownBlock
theorem jh {B g:Nat} {v:Value} {w w':World}(h:w.grownBy w' (some g))(hg:g < B):∀b,nj B v w b→(∀o,w'.cell? ⟨b,o,none⟩=w.cell? ⟨b,o,none⟩)∧nj B v w' b:=fun b hb=>
 ⟨cell_of_heap (h.block b hb.2.1 (fun e=>by injection e with e;have:=hb.1;omega)),hb.1,Nat.lt_of_lt_of_le hb.2.1 h.size,hb.2.2⟩
theorem fY {B:Nat} {v:Value} {w w':World}(h:Below w.heap.size w w'):∀b,nj B v w b→(∀o,w'.cell? ⟨b,o,none⟩=w.cell? ⟨b,o,none⟩)∧nj B v w' b:=fun b hb=>
 ⟨cell_of_heap (h.block b hb.2.1),hb.1,Nat.lt_of_lt_of_le hb.2.1 h.size,hb.2.2⟩
theorem mC {B:Nat} {v v':Value} {w w':World}(h:w.grownBy w' v.ownBlock)(hv:v'.ownBlock=v.ownBlock∨v'.ownBlock=some w.heap.size):∀b,nj B v w b→(∀o,w'.cell? ⟨b,o,none⟩=w.cell? ⟨b,o,none⟩)∧nj B v' w' b:=fun b hb=>
 ⟨cell_of_heap (h.block b hb.2.1 hb.2.2),hb.1,Nat.lt_of_lt_of_le hb.2.1 h.size,fun e=>by
   rcases hv with hv | hv
   ·exact hb.2.2 (e.trans hv)
   ·rw[hv] at e;injection e with e;have:=hb.2.1;omega⟩
theorem Ca {B B':Nat} {v:Value} {w:World}(hB:B'≤B)(hv:∀g,v.ownBlock=some g→g < B):∀b,gf B w b→(∀o,w.cell? ⟨b,o,none⟩=w.cell? ⟨b,o,none⟩)∧nj B' v w b:=fun b hb=>
 ⟨fun _=>rfl,Nat.le_trans hB hb.1,hb.2,fun e=>by have:=hv b e.symm;have:=hb.1;omega⟩
theorem Cb {B B':Nat} {v:Value} {w:World}(hB:B'≤B):∀b,nj B v w b→(∀o,w.cell? ⟨b,o,none⟩=w.cell? ⟨b,o,none⟩)∧gf B' w b:=fun b hb=>⟨fun _=>rfl,Nat.le_trans hB hb.1,hb.2.1⟩
structure eW {α:Type} (E:El α) (T:TypeId) (w:World) (B:Nat) (v:Value) (l:List α):Prop where
 has:∃ys:List E.β,aW E.f T E.size w B v ys∧jd (E.rel w (nj B v w)) l ys
section
variable {α:Type} {E:El α} {T:TypeId} {w w':World} {B g:Nat} {v:Value} {l:List α}
theorem eW.later (h:eW E T w B v l)(hb:Below w.heap.size w w'):eW E T w' B v l:=by obtain⟨ys,h1,h2⟩:=h.has;exact⟨ys,h1.later hb,h2.imp fun x y=>E.keep (fY hb)⟩
theorem eW.sQ (h:eW E T w B v l) {G:Nat}(hG:v.ownBlock=some G):B≤G∧G < w.heap.size:=by obtain⟨ys,h1,h2⟩:=h.has;exact⟨(h1.lt hG).2.1,(h1.lt hG).1⟩
theorem eW.grown (h:eW E T w B v l)(hb:w.grownBy w' (some g))(hg:g < B):eW E T w' B v l:=by obtain⟨ys,h1,h2⟩:=h.has;exact⟨ys,h1.grown hb (fun e=>by have:=(h1.lt e).2.1;omega),h2.imp fun x y=>E.keep (jh hb hg)⟩
theorem eW.sl (h:eW E T w B v l) {B':Nat}(hB:B'≤B):∃y:Sl,v=jF y∧y.n=l.length∧E.sl w (gf B' w) y l:=by obtain⟨ys,h1,h2⟩:=h.has;obtain⟨A,c,hv,hr⟩:=qC E.hf h1 (S:=gf B' w) (fun g h3 h4=>⟨by omega,h4⟩);refine⟨⟨A,l.length,c⟩,?_,rfl,rfl,ys,hr,h2.imp fun x y=>E.keep (Cb hB)⟩;rw[hv,h2.len];rfl
theorem eW.nil (E:El α)(T:TypeId)(w:World)(B:Nat):eW E T w B (.slice none 0 0) []:=⟨[],aW.nil,.nil⟩
end
theorem NS {β:Type} {f:β→List Value} {e:TypeId} {size:Nat}(hf:∀x,(f x).length=size) {w:World} {base G:Nat} {y:β}(h:ah w G e (f y).toArray)(hb:base≤G):aW f e size w base (.slice (some ⟨G,0,none⟩) 1 1) [y]:=by
 refine⟨by simp[hf],.inr ⟨G,1,(f y).toArray,rfl,hb,h,Nat.le_refl _,?_,by simp[hf],?_⟩⟩
 ·unfold maxLen;omega
 ·simp[hf,List.take_of_length_le]
theorem eW.one {α:Type} {E:El α} {T:TypeId} {w:World} {B G:Nat} {x:α} {y:E.β}(h:ah w G T (E.f y).toArray)(hb:B≤G)(hx:E.rel w (nj B (.slice (some ⟨G,0,none⟩) 1 1) w) x y):eW E T w B (.slice (some ⟨G,0,none⟩) 1 1) [x]:=
 ⟨[y],NS E.hf h hb,.one hx⟩
theorem mD (b:Bool)(n:Nat):((b || decide (64 < n - 1))|| decide (64 < n))=(b || decide (64 < n)):=by
 by_cases h:64 < n
 ·simp[h]
 ·have h2:¬64 < n - 1:=by omega
  simp[h,h2]
structure Fx (ρ:cu) (w:World) (big:Bool) (σ:aF) (k:Nat) (v:Value) (wr:World) (bw:aF) (acc:List Tr):Prop where
 pos:0 < acc.length
 few:acc.length+bw.left≤5001
 le:bw.left≤k
 row:eW my 34 wr w.heap.size v acc
 did:dz ρ w wr bw (big || decide (64 < acc.length - 1))
 todo:ei dE σ acc bw
theorem Ef (ρ:cu)(w:World)(σ:aF)(big:Bool)(h:ρ.at w σ big):
  Calls Tryz.prog 128 #[ρ.ptr] w (Rs my ρ w big (gI dE) σ):=by
 have cU:=h.qJ;have hsm:=h.small;have Bl:=h.left;have HH:=hid h;clear h;go_enter Tryz.func128,Tryz.ntmps128;go_wp2_with fail;refine(sM ρ _ σ big HH.out).mono ?_;rintro e w2 ⟨t,y,rfl,ht,d2,fC⟩;unfold iL cM;have hs2:=d2.size;go_wp2_with fail;have hA:Fx ρ w big σ 5000 (.slice (some ⟨w2.heap.size,0,none⟩) 1 1) (w2.alloc (jP y)) (af dE σ) [t]:=by have hl:=aF.bh fj σ;refine⟨by simp,by simp;omega,by omega,eW.one (E:=my) (ah.new w2 _ _) hs2 (Tr.at_.keep (fun b hb=>⟨cell_of_heap (Below.heap_alloc w2 _ b hb.2),hb.1,by have:=hb.2;simp;omega,by have:=hb.2;simp[Value.ownBlock];omega⟩) _ _ ht),?_,ei.start fC⟩;have:=d2.later (aa w2 (jP y));simpa using this
 unfold jP cM at hA;have HA:=hid hA;clear hA fC ht d2;generalize w2.alloc _=W3 at*;go_loopg [3] 5000 (fun k v wr=>∃bw acc u,v=u∧Fx ρ w big σ k u wr bw acc);case atStart=>exact⟨_,_,_,rfl,HA.out⟩
 case round=>
  obtain⟨bw,acc,u,hu,hE⟩:=hrel;have Xw:=hu.symm;clear hu;subst Xw;obtain⟨sl,jV,pJ,_⟩:=hE.row.sl (B':=w.heap.size) (Nat.le_refl _);have HE:=hid hE;clear hE HA;obtain⟨A,n,c⟩:=sl;replace pJ:n=acc.length:=pJ;replace jV:_=Value.slice A n c:=jV;have wI:0 < n:=by have:=HE.out.pos;omega
  have uN:n≤5001:=by have:=HE.out.few;omega
  subst jV;have Fg:=hid pJ;clear pJ;go_wp2_with fail;refine(sH ρ wr bw _ HE.out.did.at_ n (by omega)).mono ?_;rintro e w4 ⟨rfl,d4⟩;have ZL:=d4.size;have hs0:=HE.out.did.size;cases hh:bw.head aU
  ·rw[av hh] at d4;have Im:=hid d4;have hdone:=ei.done fj HE.out.todo hh;have Mg:=hid hdone;clear hh d4 hdone;go_wp2_with fail;go_ret;obtain⟨y2,uj,_,O9⟩:=(HE.out.row.grown Im.out.grown cU).sl (B':=w.heap.size) (Nat.le_refl _);refine⟨acc,y2,by rw[← uj];rfl,O9,?_,Mg.out.2⟩;rw[Mg.out.1];have:=HE.out.did.trans Im.out;rwa [Fg.out,mD] at this
  ·rw[az hh] at d4;obtain⟨l1,l2,l3⟩:=je hh;have vP:=hid hh;have Im:=hid d4;clear hh;go_wp2_with fail;refine(sM ρ _ _ _ d4.at_).mono ?_;rintro e w5 ⟨t2,y2,rfl,GZ,d5,Ha⟩;unfold iL cM;have hs5:=d5.size;have hR:=(HE.out.row.grown Im.out.grown cU);have hown:∀g,(Value.slice A n c).ownBlock=some g→g < w4.heap.size:=fun g hg=>(hR.sQ hg).2
   have Yi:=(hR.grown d5.grown cU).later (aa w5 (jP y2));have C1:=Tr.at_.keep (fY (aa w5 (jP y2))) _ _ (Tr.at_.keep (Ca (B':=w.heap.size) (by omega) hown) _ _ GZ);have hG:=ah.new w5 34 (cM y2).toArray;have hD:=((HE.out.did.trans Im.out).trans d5).later (aa w5 (jP y2));have hgo:=ei.go fj HE.out.todo vP.out Ha;have P0:=hid hgo;have C2:=aF.bh fj (aF.good bw.words.tail);obtain⟨ys,ho,ha⟩:∃ys:List Ex,aW cM 34 7 (w5.alloc (jP y2)) w.heap.size (Value.slice A n c) ys∧jd (Tr.at_ (w5.alloc (jP y2)) (nj w.heap.size (Value.slice A n c) (w5.alloc (jP y2)))) acc ys:=Yi.has;have RG:=ha.len;have Vi:ys.length≤5001:=by have:=HE.out.few;omega
   clear RG;have hrow:∀g,(Value.slice A n c).ownBlock=some g→w.heap.size≤g:=fun g hg=>(Yi.sQ hg).1
   have tY:=hid hrow;have HO:=hid ho;have IQ:=hid ha;have C3:=hid C1;have C4:=hid hD;have Oy:=hid hG;have hbase:w.heap.size≤(w5.alloc (jP y2)).heap.size:=by simp;omega
   unfold jP cM at HO IQ C3 C4 hbase;unfold cM at Oy;clear hR hown Yi C1 hG hD hgo ho ha GZ d5 Ha d4 hrow;go_wp2_with (first
    |(at_builtin
      go_loud (refine qH rfl (.tmp 11) (.tmp 14) 22 rfl _ 88 Tryz.underlying22 lJ rfl (by omega) y2 rfl (by intro u hu;simp[cM] at hu;rcases hu with rfl | rfl | rfl | rfl | rfl | rfl | rfl <;> rfl) rfl HO.out w5.heap.size rfl Oy.out (by omega) (by omega) hbase ?_
               intro v6 w6 o6 g6 C5)))
   go_roundg (af dE (aF.good bw.words.tail)).left;case measure=>have:=HE.out.le;omega
   case rel=>refine⟨af dE (aF.good bw.words.tail),acc++ [t2],v6,rfl,?_⟩;refine⟨by simp,by have:=HE.out.few;simp;omega,Nat.le_refl _,⟨ys++ [y2],o6,(IQ.out.imp fun x y=>Tr.at_.keep (mC g6 C5) x y).append (.one (Tr.at_.keep (mC g6 C5) _ _ C3.out))⟩,?_,P0.out⟩;have:=C4.out.own cU g6 tY.out;rw[Fg.out,mD] at this;rw[List.length_append,List.length_singleton,Nat.add_sub_cancel];exact this
def fQ (v:Val):Value:=.agg (Hj v).toArray
end Go.Proofs.YtfmbcoeallmnnaaGreatDoor.R
