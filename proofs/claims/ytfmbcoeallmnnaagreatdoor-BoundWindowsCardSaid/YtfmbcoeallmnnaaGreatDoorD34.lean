/- Parts of the proof. -/
import Derived.Test.YtfmbcoeallmnnaaGreatDoorD33
namespace Go.Proofs.YtfmbcoeallmnnaaGreatDoor.R
open Go.Lib (hid)
open Go.ChangeShapes Go.WideShapes Go.ChangeAt Go.RowKit
set_option linter.unusedVariables false
set_option linter.unusedSimpArgs false
theorem kR (m:Fk):(mo m).toArray.size=28:=rfl
theorem uy (m:Fk):(mo m).toArray.all (·.oneCell')=true:=by simp[mo,yN,Ln,kn,Value.oneCell']
theorem gW:(Tryz.prog.info? 89).map (·.size)=some 28:=by kernel_rfl
theorem R5 (b o j:Nat):(Addr.add ⟨b,o,none⟩ j)=⟨b,o+j,none⟩:=by unfold Addr.add;split <;> simp_all
theorem EI {α:Type} {f:α→List Value} {size:Nat}(hf:∀x,(f x).length=size)(h0:0 < size):∀(l:List α) (j:Nat) (u:Value),(l.flatMap f)[j]?=some u→∃k r x,j=k*size+r∧l[k]?=some x∧(f x)[r]?=some u
 | [],j,u,h=>by simp at h
 | y::l,j,u,h=>by
   rw[List.flatMap_cons] at h;by_cases hj:j < size
   ·rw[List.getElem?_append_left (by rw[hf];exact hj)] at h;exact⟨0,j,y,by omega,rfl,h⟩
   ·rw[List.getElem?_append_right (by rw[hf];omega),hf] at h;obtain⟨k,r,x,h1,h2,h3⟩:=EI hf h0 l _ u h;exact⟨k+1,r,x,by rw[Nat.succ_mul];omega,by simpa using h2,h3⟩
theorem TW:∀ys:List Ex,(ys.flatMap cW).length=ys.length*7
 | []=>rfl
 | y::ys=>by rw[List.flatMap_cons,List.length_append,TW ys,ku,List.length_cons];omega
theorem Pc {w:World} {S:Nat→Prop} {A:Option Addr} {ys:List Ex}(h:RL cW 7 w S A ys) {B:Nat}(hS:∀b,S b→b < B):Reads w B 7 A ys.length (ys.flatMap cW):=by
 refine⟨TW ys,fun hn=>?_⟩;rcases h with h |⟨b,off,hA,hb,hc⟩
 ·subst h;simp at hn
 ·refine⟨⟨b,off,none⟩,hA,hS b hb,fun j u hu=>?_⟩;obtain⟨k,r,x,rfl,h2,h3⟩:=EI ku (by omega) ys j u hu;rw[R5,← Nat.add_assoc];exact hc k x r u h2 h3
theorem Pf:∀(ys:List Ex),∀u∈ys.flatMap cW,u.oneCell'=true:=by intro ys u hu;obtain⟨y,_,hu⟩:=List.mem_flatMap.1 hu;simp[cW] at hu;rcases hu with rfl | rfl | rfl | rfl | rfl | rfl | rfl <;> rfl
structure vE (w:World) (S:Nat→Prop) (v:Value) (wr:World) (acc:List Tr):Prop where
 has:∃ys:List Ex,aQ cW 34 7 wr w.heap.size v ys∧jC (fun t y=>Tr.at_ w S t y) acc ys
 below:Below w.heap.size w wr
section
variable {w wr wr':World} {S:Nat→Prop} {v v':Value} {acc l:List Tr} {B:Nat}
theorem vE.start (w:World)(S:Nat→Prop):vE w S (.slice none 0 0) w []:=⟨⟨[],aQ.nil,.nil⟩,Below.refl _ _⟩
theorem vE.later (h:vE w S v wr acc)(hb:Below wr.heap.size wr wr'):vE w S v wr' acc:=by obtain⟨ys,h1,h2⟩:=h.has;exact⟨⟨ys,h1.later hb,h2⟩,ae.then h.below hb⟩
theorem vE.len (h:vE w S v wr acc):∃A c,v=.slice A acc.length c:=by obtain⟨ys,h1,h2⟩:=h.has;obtain⟨A,c,hv,_⟩:=h1.reads;exact⟨A,c,by rw[hv,h2.len]⟩
theorem vE.far (h:vE w S v wr acc)(hg:wr.grownBy wr' v.ownBlock) {q:Nat} {t:TypeId} {cs:Array Value}(hq:ag wr q t cs)(ht:t≠34):ag wr' q t cs:=by obtain⟨ys,h1,h2⟩:=h.has;exact hq.NL h1 ht hg
theorem vE.sl (h:vE w S v wr acc)(hS:∀b,S b→b < w.heap.size):∃y:Sl,v=kn y∧y.n=acc.length∧nh.sl wr (gK 0 wr) y acc:=by obtain⟨ys,h1,h2⟩:=h.has;obtain⟨A,c,hv,hr⟩:=rH nh.hf h1 (S:=gK 0 wr) (fun g h3 h4=>⟨by omega,h4⟩);have hs:=h.below.size;have e:v=.slice A (List.length (α:=Ex) ys) c:=hv;refine⟨⟨A,acc.length,c⟩,by rw[e,h2.len];rfl,rfl,rfl,ys,hr,h2.imp fun t y ht=>?_⟩;exact Tr.at_.keep (fun b hb=>⟨cell_of_heap (h.below.block b (hS b hb)),Nat.zero_le _,Nat.lt_of_lt_of_le (hS b hb) hs⟩) _ _ ht
def Pg (w:World)(S:Nat→Prop)(v:Value)(wr:World)(acc l:List Tr)(v':Value)(w':World):Prop:=vE w S v' w' (acc++l)∧wr.grownBy w' v.ownBlock
theorem iz (t ty:TypeId)(ht:Tryz.prog.underlying t=some (.slice 34))(h:vE w S v wr acc) {A:Option Addr} {n c:Nat}(hl:nh.sl w S ⟨A,n,c⟩ l)(hS:∀b,S b→b < w.heap.size)(hlen:acc.length+l.length≤1000000):
  ∃v' w',(Builtin.append_ #[t,t] ty #[v,.slice A n c]).run Tryz.prog wr=.ok v' w'∧Pg w S v wr acc l v' w':=by
 obtain⟨hn,(zs:List Ex),hr,ha⟩:=hl;have ha:jC (fun t y=>Tr.at_ w S t y) l zs:=ha;replace hn:n=l.length:=hn;obtain⟨ys,h1,h2⟩:=h.has;have hr2:=Pc hr hS;have hr3:=(hr2.below h.below).more h.below.size;obtain⟨i0,qj,hz0,hz1,hz2⟩:=info_parts mn;have hzl:=ha.len;have Wh:=h2.len;obtain⟨v',w',hrun,h3,h4,h5⟩:=gh (P:=Tryz.prog) wr w.heap.size t ty 34 i0 _ 7 88 ht qj hz0 hz1 hz2 rfl (by omega) v ys.length (ys.flatMap cW) h1 wr.heap.size A zs.length c (zs.flatMap cW) hr3 (Pf _) (by unfold maxLen;omega) (by omega) h.below.size;rw[hzl,← hn] at hrun;refine⟨v',w',hrun,⟨⟨ys++zs,?_,jC.append h2 ha⟩,?_⟩,h4⟩
 ·unfold aQ;rw[List.length_append,List.flatMap_append];exact h3
 ·exact h.below.trans (eR h1 h4 h.below.size)
theorem mB (t ty:TypeId)(ht:Tryz.prog.underlying t=some (.slice 34))(h:vE w S v wr acc) {g:Nat} {y:Ex} {x:Tr}(hg:ag wr g 34 (cW y).toArray)(hx:Tr.at_ w S x y)(hlen:acc.length+1≤1000000):
  ∃v' w',(Builtin.append_ #[t,t] ty #[v,.slice (some ⟨g,0,none⟩) 1 1]).run Tryz.prog wr=.ok v' w'∧Pg w S v wr acc [x] v' w':=by
 obtain⟨ys,h1,h2⟩:=h.has;have Wh:=h2.len;obtain⟨v',w',hr,ho,ha⟩:=ei (P:=Tryz.prog) (w:=wr) t ty _ 88 ht mn rfl (by omega) ku (y:=y) (by intro u hu;exact Pf [y] u (by simpa using hu)) h1 g hg (by omega) (by omega) h.below.size;exact⟨v',w',hr,⟨⟨ys++ [y],ho,jC.append h2 (.one hx)⟩,h.below.trans (eR h1 ha.grown h.below.size)⟩,ha.grown⟩
theorem zx {o:Oper} {a:Act} {K:Act→World→Prop} {Q:Exit→Act→World→Prop}(s x:Operand)(t:TypeId)
  (ho:o.op=.call { callee:=.builtin .append,args:= #[s,x],argTypes:= #[t,t] }) {P:Value→World→Prop} {xv:Value} (hs:a.eval s=v) (hx:a.eval x=xv)
  (hr:∃v' w',(Builtin.append_ #[t,t] o.type #[v,xv]).run Tryz.prog wr=.ok v' w'∧P v' w') (h:∀v' w',P v' w'→K (a.put o.dst v') w'):o.wp Tryz.prog a wr K Q:=by
 obtain⟨v',w',hrun,hp⟩:=hr;unfold Oper.wp execOp;simp only[ho,resolve,invoke,builtin,Sem.run_bind,Sem.run_pure,Result.andThen_ok,List.map_toArray,List.map_cons,List.map_nil,hs,hx,hrun];exact h v' w' hp
theorem eJ {ops:Array Oper} {rest:List Oper} {o:Oper} {a:Act} {Q:Exit→Act→World→Prop}(hgd:o.guard=none)(s x:Operand)(t:TypeId)
  (ho:o.op=.call { callee:=.builtin .append,args:= #[s,x],argTypes:= #[t,t] }) {P:Value→World→Prop} {xv:Value} (hs:a.eval s=v) (hx:a.eval x=xv)
  (hr:∃v' w',(Builtin.append_ #[t,t] o.type #[v,xv]).run Tryz.prog wr=.ok v' w'∧P v' w') (h:∀v' w',P v' w'→wpList Tryz.prog ops Q rest (a.put o.dst v') w'):wpList Tryz.prog ops Q (o::rest) a wr:=
 wpList_plain hgd fun _ hK=>zx s x t ho hs hx hr fun v' w' hp=>hK _ _ (h v' w' hp)
end
def Ph (o0 o1 o2 o3 o4 o5 o6 o7 o8 o9:Oper)(q s d0 d1 d2 d3 d4 d5 d6 d7 d8 d9:Tmp):Bool:=
 (tmpsOf o0== [s])&&(ed [o0,o1,o2,o3,o4,o5,o6,o7,o8,o9] o0 s==none)&&(tmpsOf o1== [q])&&(ed [o0,o1,o2,o3,o4,o5,o6,o7,o8,o9] o1 q==none)&&(tmpsOf o2== [d1])&&(ed [o0,o1,o2,o3,o4,o5,o6,o7,o8,o9] o2 d1==some 1)&&(tmpsOf o3== [d0,d2])&&(ed [o0,o1,o2,o3,o4,o5,o6,o7,o8,o9] o3 d0==some 0)&&(ed [o0,o1,o2,o3,o4,o5,o6,o7,o8,o9] o3 d2==some 2)&&(tmpsOf o4== [q])&&(ed [o0,o1,o2,o3,o4,o5,o6,o7,o8,o9] o4 q==none)&&(tmpsOf o5== [d4])&&(ed [o0,o1,o2,o3,o4,o5,o6,o7,o8,o9] o5 d4==some 4)&&(tmpsOf o6== [d3,d5])&&(ed [o0,o1,o2,o3,o4,o5,o6,o7,o8,o9] o6 d3==some 3)&&(ed [o0,o1,o2,o3,o4,o5,o6,o7,o8,o9] o6 d5==some 5)&&(tmpsOf o7== [q])&&(ed [o0,o1,o2,o3,o4,o5,o6,o7,o8,o9] o7 q==none)&&(tmpsOf o8== [d7])&&(ed [o0,o1,o2,o3,o4,o5,o6,o7,o8,o9] o8 d7==some 7)&&(tmpsOf o9== [d6,d8])&&(ed [o0,o1,o2,o3,o4,o5,o6,o7,o8,o9] o9 d6==some 6)&&(ed [o0,o1,o2,o3,o4,o5,o6,o7,o8,o9] o9 d8==some 8)&&(o0.dst==some d0)&&(o1.dst==some d1)&&(o2.dst==some d2)&&(o3.dst==some d3)&&(o4.dst==some d4)&&(o5.dst==some d5)&&(o6.dst==some d6)&&(o7.dst==some d7)&&(o8.dst==some d8)&&(o9.dst==some d9)&& o0.guard.isNone && o1.guard.isNone && o2.guard.isNone && o3.guard.isNone && o4.guard.isNone && o5.guard.isNone && o6.guard.isNone && o7.guard.isNone && o8.guard.isNone && o9.guard.isNone
section
variable {P:Program} {J:List Value→World→Prop} {w0:World} {Q:Exit→Act→World→Prop} {a0:Act} {id:Nat} {o0 o1 o2 o3 o4 o5 o6 o7 o8 o9 Xx:Oper} {q s d0 d1 d2 d3 d4 d5 d6 d7 d8 d9:Tmp} {pq v0 p1 p2 p3 s1 s2 s3:Value} {A1 A2 A3:Addr}
theorem EJ (t:TypeId)
  (iW:∀vs w,J vs w→J vs w.drew) (hJ:J [] w0)
  (hm:P.follows .mixedOrders=true) (aZ:bX [o0,o1,o2,o3,o4,o5,o6,o7,o8,o9] a0.tmps.size [o0,o1,o2,o3,o4,o5,o6,o7,o8,o9] 0=true) (hz:cH ([o0,o1,o2,o3,o4,o5,o6,o7,o8,o9]++ [Xx]) [Xx] 10=true) (hch:fJ [o0,o1,o2,o3,o4,o5,o6,o7,o8,o9] [3,6,9]=true) (TF:Ph o0 o1 o2 o3 o4 o5 o6 o7 o8 o9 q s d0 d1 d2 d3 d4 d5 d6 d7 d8 d9=true)
  (hq:a0.eval (.tmp q)=pq) (h0:a0.eval (.tmp s)=v0)
  (Zx:∀ρ w,ρ (.tmp s)=v0→(execOp ρ o0).run P w=.ok (.value v0) w)
  (YT:∀ρ w,ρ (.tmp q)=pq→(execOp ρ o1).run P w=.ok (.value p1) w) (hf2:∀ρ w,ρ (.tmp q)=pq→(execOp ρ o4).run P w=.ok (.value p2) w) (hf3:∀ρ w,ρ (.tmp q)=pq→(execOp ρ o7).run P w=.ok (.value p3) w)
  (hc:∀vs w,J vs w→w.cell? A1=some s1∧w.cell? A2=some s2∧w.cell? A3=some s3)
  (dN:∀ρ w,ρ (.tmp d1)=p1→w.cell? A1=some s1→(execOp ρ o2).run P w=.ok (.value s1) w) (hl2:∀ρ w,ρ (.tmp d4)=p2→w.cell? A2=some s2→(execOp ρ o5).run P w=.ok (.value s2) w) (yX:∀ρ w,ρ (.tmp d7)=p3→w.cell? A3=some s3→(execOp ρ o8).run P w=.ok (.value s3) w)
  (R6:∀ρ w v x v' w',ρ (.tmp d0)=v→ρ (.tmp d2)=x→(Builtin.append_ #[t,t] t #[v,x]).run P w=.ok v' w'→(execOp ρ o3).run P w=.ok (.value v') w')
  (R7:∀ρ w v x v' w',ρ (.tmp d3)=v→ρ (.tmp d5)=x→(Builtin.append_ #[t,t] t #[v,x]).run P w=.ok v' w'→(execOp ρ o6).run P w=.ok (.value v') w')
  (R8:∀ρ w v x v' w',ρ (.tmp d6)=v→ρ (.tmp d8)=x→(Builtin.append_ #[t,t] t #[v,x]).run P w=.ok v' w'→(execOp ρ o9).run P w=.ok (.value v') w')
  (ha1:∀w,J [] w→∃v' w',(Builtin.append_ #[t,t] t #[v0,s1]).run P w=.ok v' w'∧J [v'] w')
  (ha2:∀a w,J [a] w→∃v' w',(Builtin.append_ #[t,t] t #[a,s2]).run P w=.ok v' w'∧J [a,v'] w')
  (ha3:∀a b w,J [a,b] w→∃v' w',(Builtin.append_ #[t,t] t #[b,s3]).run P w=.ok v' w'∧J [a,b,v'] w')
  (Oz:∀a b c W,J [a,b,c] W→wpList P [o0,o1,o2,o3,o4,o5,o6,o7,o8,o9,Xx].toArray Q [Xx] ((((((((((a0.put (some d0) v0).put (some d1) p1).put (some d2) s1).put (some d3) a).put (some d4) p2).put (some d5) s2).put (some d6) b).put (some d7) p3).put (some d8) s3).put (some d9) c) W):
  (Code.region id [o0,o1,o2,o3,o4,o5,o6,o7,o8,o9,Xx].toArray true).wp P Q a0 w0:=by
 simp only[Ph,Bool.and_eq_true,beq_iff_eq,Option.isNone_iff_eq_none] at TF;obtain⟨⟨⟨⟨⟨⟨⟨⟨⟨⟨⟨⟨⟨⟨⟨⟨⟨⟨⟨⟨⟨⟨⟨⟨⟨⟨⟨⟨⟨⟨⟨⟨⟨⟨⟨⟨⟨⟨⟨⟨⟨⟨t0,m0⟩,t1⟩,m1⟩,t2⟩,m2⟩,t3⟩,m3⟩,m3'⟩,t4⟩,m4⟩,t5⟩,m5⟩,t6⟩,m6⟩,m6'⟩,t7⟩,m7⟩,t8⟩,m8⟩,t9⟩,m9⟩,m9'⟩,e0⟩,e1⟩,e2⟩,e3⟩,e4⟩,e5⟩,e6⟩,e7⟩,e8⟩,e9⟩,g0⟩,g1⟩,g2⟩,g3⟩,g4⟩,g5⟩,g6⟩,g7⟩,g8⟩,g9⟩:=TF;refine kK [Xx] [o0,o1,o2,o3,o4,o5,o6,o7,o8,o9] rfl (fun i=>if i=0 then v0 else if i=1 then p1 else if i=2 then s1 else if i=4 then p2 else if i=5 then s2 else if i=7 then p3 else s3) [3,6,9] J iW hJ hm aZ hz hch (by decide) rfl ?_ ?_
 ·refine⟨?_,?_,?_,?_,?_,?_,?_,?_,?_,?_,trivial⟩
  ·intro ρ w vs hcs hG hr;rw[t0] at hr;have r0:=hr.1;simp only[m0] at r0;exact⟨g0,Zx ρ w (r0.trans h0)⟩
  ·intro ρ w vs hcs hG hr;rw[t1] at hr;have r0:=hr.1;simp only[m1] at r0;exact⟨g1,YT ρ w (r0.trans hq)⟩
  ·intro ρ w vs hcs hG hr;rw[t2] at hr;have r0:=hr.1;simp only[m2] at r0;exact⟨g2,dN ρ w r0 (hc _ _ hG).1⟩
  ·intro ρ w vs hcs hG hr;rw[t3] at hr;have r0:=hr.1;simp only[m3] at r0;have r1:=hr.2.1;simp only[m3'] at r1;refine⟨g3,?_⟩;show vs.length=0→_;intro hl;obtain rfl:=List.eq_nil_of_length_eq_zero hl;obtain⟨v',w',hrun,hj⟩:=ha1 w hG;exact ai (R6 ρ w _ _ v' w' r0 r1 hrun) hj
  ·intro ρ w vs hcs hG hr;rw[t4] at hr;have r0:=hr.1;simp only[m4] at r0;exact⟨g4,hf2 ρ w (r0.trans hq)⟩
  ·intro ρ w vs hcs hG hr;rw[t5] at hr;have r0:=hr.1;simp only[m5] at r0;exact⟨g5,hl2 ρ w r0 (hc _ _ hG).2.1⟩
  ·intro ρ w vs hcs hG hr;rw[t6] at hr;have r0:=hr.1;simp only[m6] at r0;have r1:=hr.2.1;simp only[m6'] at r1;refine⟨g6,?_⟩;show vs.length=1→_;intro hl
   match vs,hl with
   | [a],_=>have r0:some a=some (ρ (.tmp d3)):=r0;injection r0 with r0;obtain⟨v',w',hrun,hj⟩:=ha2 a w hG;exact ai (R7 ρ w _ _ v' w' r0.symm r1 hrun) hj
  ·intro ρ w vs hcs hG hr;rw[t7] at hr;have r0:=hr.1;simp only[m7] at r0;exact⟨g7,hf3 ρ w (r0.trans hq)⟩
  ·intro ρ w vs hcs hG hr;rw[t8] at hr;have r0:=hr.1;simp only[m8] at r0;exact⟨g8,yX ρ w r0 (hc _ _ hG).2.2⟩
  ·intro ρ w vs hcs hG hr;rw[t9] at hr;have r0:=hr.1;simp only[m9] at r0;have r1:=hr.2.1;simp only[m9'] at r1;refine⟨g9,?_⟩;show vs.length=2→_;intro hl
   match vs,hl with
   | [a,b],_=>have r0:some b=some (ρ (.tmp d6)):=r0;injection r0 with r0;obtain⟨v',w',hrun,hj⟩:=ha3 a b w hG;exact ai (R8 ρ w _ _ v' w' r0.symm r1 hrun) hj
 ·intro vs w hl hG
  match vs,hl with
  | [a,b,c],_=>simp only[cN,e0,e1,e2,e3,e4,e5,e6,e7,e8,e9];intro Zy z0 a1 z1 a2 z2 a3 z3 a4 z4 a5 z5 a6 z6 a7 z7 a8 z8 a9 z9;have z0:Zy=v0:=z0;have z1:a1=p1:=z1;have z2:a2=s1:=z2;have z3:some a=some a3:=z3;have z4:a4=p2:=z4;have z5:a5=s2:=z5;have z6:some b=some a6:=z6;have z7:a7=p3:=z7;have z8:a8=s3:=z8;have z9:some c=some a9:=z9;injection z3 with z3;injection z6 with z6;injection z9 with z9;rw[z0,z1,z2,← z3,z4,z5,← z6,z7,z8,← z9];exact Oz a b c w hG
end
theorem pD {α β:Type} {R:α→β→Prop} {l:List α} {m:List β}(h:jC R l m):∀ {i:Nat} {x:α} {y:β},l[i]?=some x→m[i]?=some y→R x y:=by
 induction h with
 | nil=>intro i x y hx;simp at hx
 | cons h1 h2 ih=>
   intro i x y hx hy
   match i with
   | 0=>simp at hx hy;subst hx hy;exact h1
   | i+1=>exact ih (by simpa using hx) (by simpa using hy)
theorem Az {α:Type} {l:List (List α)} {i:Nat} {r:List α}(h:l[i]?=some r):(l.take (i+1)).flatten=(l.take i).flatten++r:=by rw[List.take_add_one,h];simp
theorem Sg {α:Type} {l:List (List α)} {i:Nat} {r:List α}(h:l[i]?=some r):(l.take i).flatten.length+r.length≤l.flatten.length:=by
 have e:=Az h;have h2:(l.take (i+1)).flatten++(l.drop (i+1)).flatten=l.flatten:=by rw[← List.flatten_append,List.take_append_drop]
 rw[← h2,e];simp only[List.length_append];omega
theorem yz {α β:Type} {l:List α} {i:Nat} {x:α}(f:α→β)(h:l[i]?=some x):(l.take (i+1)).map f=(l.take i).map f++ [f x]:=by rw[List.take_add_one,h];simp
def G7 (w:World)(S:Nat→Prop)(q:Nat)(cs:Array Value)(v0:Value)(acc l1 l2 l3:List Tr):List Value→World→Prop
 | [],wr=>vE w S v0 wr acc∧ag wr q 59 cs
 | [a],wr=>vE w S a wr (acc++l1)∧ag wr q 59 cs
 | [_,b],wr=>vE w S b wr (acc++l1++l2)∧ag wr q 59 cs
 | [_,_,c],wr=>vE w S c wr (acc++l1++l2++l3)∧ag wr q 59 cs
 | _,_=>False
theorem Pj (w:World)(S:Nat→Prop)(q:Nat)(cs:Array Value)(v0:Value)(acc l1 l2 l3:List Tr):∀vs wr,G7 w S q cs v0 acc l1 l2 l3 vs wr→G7 w S q cs v0 acc l1 l2 l3 vs wr.drew
 | [],wr,h=>⟨h.1.later (ae.drew wr),h.2.drew⟩
 | [a],wr,h=>⟨h.1.later (ae.drew wr),h.2.drew⟩
 | [_,b],wr,h=>⟨h.1.later (ae.drew wr),h.2.drew⟩
 | [_,_,c],wr,h=>⟨h.1.later (ae.drew wr),h.2.drew⟩
 | _::_::_::_::_,wr,h=>h.elim
theorem LF (w:World)(S:Nat→Prop)(q:Nat)(cs:Array Value)(v0:Value)(acc l1 l2 l3:List Tr) {u1 u2 u3:Value}(h1:cs[3]?=some u1)(h2:cs[4]?=some u2)(h3:cs[5]?=some u3):∀vs wr,G7 w S q cs v0 acc l1 l2 l3 vs wr→wr.cell? ⟨q,3,none⟩=some u1∧wr.cell? ⟨q,4,none⟩=some u2∧wr.cell? ⟨q,5,none⟩=some u3:=by
 intro vs wr h;have hb:ag wr q 59 cs:=by
  match vs,h with
  | [],h=>exact h.2
  | [a],h=>exact h.2
  | [_,b],h=>exact h.2
  | [_,_,c],h=>exact h.2
  | _::_::_::_::_,h=>exact h.elim
 exact⟨(hb.cell 3).trans h1,(hb.cell 4).trans h2,(hb.cell 5).trans h3⟩
set_option maxHeartbeats 1000000
set_option maxRecDepth 100000
theorem EK (w:World)(d:St)(y:Fk)(S:Nat→Prop)(hS:∀b,S b→b < w.heap.size)(h:d.at_ w S y)(hlen:d.exprs.length≤100000)(hr0:d.rows.length≤64):
  Calls Tryz.prog 76 #[OO y] w fun e w'=>∃sl:Sl,e=.returned (kn sl)∧sl.n=d.exprs.length∧nh.sl w' (gK 0 w') sl d.exprs∧Below w.heap.size w w':=by
 have qM:=hid h;have HS:=hid hS;have hn:(d.rows.flatten.length+d.jf.length+d.cf.length)+(d.query.items.length+d.query.cf.length+d.query.group.length+d.query.having.length+d.query.order.length)≤100000:=by simp only[St.exprs,Qu.exprs,List.length_append,List.length_map] at hlen;omega
 have HN:=hid hn;have hb:=aa w (.cells (mo y).toArray 89);have hB:=ag.new w 89 (mo y).toArray;have HX:=hid ((vE.start w S).later hb);have hst:=kR y;unfold OO;clear h hS hn hlen;go_enter Tryz.func76,Tryz.ntmps76;go_wp2_with fail;generalize w.alloc _=W1 at*;have hs1:w.heap.size+1≤W1.heap.size:=hB.lt;clear hst;go_loopw [3,4] (fun v iv wr=>∃(i:Nat),i≤d.rows.length∧iv=.int .i64 i∧vE w S v wr (d.rows.take i).flatten∧ag wr w.heap.size 89 (mo y).toArray) (fun _ iv _=>d.rows.length - (intOf iv).toNat);case atStart=>exact⟨0,Nat.zero_le _,rfl,HX.out,hB⟩
 case round=>
  obtain⟨i,hi,rfl,hX,Ce⟩:=hrel;have LG:=qM.out.rows.1;obtain⟨(R9:List Sl),lX,Cf⟩:=qM.out.rows.2;have kG:(R9:List Sl).length=d.rows.length:=Cf.len;have S0:wr.cell? ⟨w.heap.size,19,none⟩=some (.slice y.rows.A y.rows.n y.rows.c):=Ce.cell 19;have ox:=hid hX;have jx:=hid Ce;have S1:=Ce.lt;clear hX Ce HX hB;rw[LG] at S0;by_cases hlt:i < d.rows.length
  ·obtain⟨r,hr⟩:∃r,d.rows[i]?=some r:=⟨_,List.getElem?_eq_getElem hlt⟩;obtain⟨z,hz⟩:∃z,R9[i]?=some z:=⟨_,List.getElem?_eq_getElem (by rw[kG];exact hlt)⟩;have Pk:nh.lies w S z.A z.n r:=pD Cf hr hz;have SL:=Sg hr;have Qe:=hid (Az hr);rcases lX with h0 |⟨b,off,Er,OP,hc⟩
   ·have h0:R9=([]:List Sl):=h0;rw[h0] at hz;exact absurd hz (by simp)
   have hcell:wr.cell? ⟨b,off+i*1+0,none⟩=some (.slice z.A z.n z.c):=(ox.out.below.cell (p:=⟨b,off+i*1+0,none⟩) (HS.out b OP)).trans (hc i z 0 _ hz rfl);simp only[Nat.mul_one,Nat.add_zero] at hcell;have Wi:=hid Pk;have HNX:=hid SL;have hap:=fun(v:Value) (hX:vE w S v wr (d.rows.take i).flatten) (ty:TypeId)=>iz 22 ty Tryz.underlying22 hX (c:=z.c) Wi.out HS.out (by have:=HNX.out;have:=HN.out;omega)
   have Qf:=hid hap;clear SL;generalize uh:(d.rows.take i).flatten=acc at*;have LH:=hid uh;clear uh;obtain⟨A3,c3,hv3⟩:=ox.out.len;subst hv3;rw[Er] at S0;clear hr hz Pk hc hap LG Cf kG;go_wp2_with (first
    |(at_builtin
      refine eJ rfl (.tmp 16) (.tmp 21) 22 rfl rfl rfl (Qf.out _ ox.out _) ?_
      rintro v' w' ⟨zy,nk⟩
      have Qg:=hid zy
      have Wj:=hid (ox.out.far nk jx.out (by decide))
      clear zy nk))
   go_roundw;case rel=>exact⟨i+1,hlt,by go_num,by rw[Qe.out];exact Qg.out,Wj.out⟩
   case measure=>simp[intOf];omega
  obtain rfl:i=d.rows.length:=by omega
  have S2:=hid (show vE w S _ wr d.rows.flatten by have:=ox.out;rw[List.take_length] at this;exact this);clear ox Cf lX;obtain⟨A3,c3,hv3⟩:=S2.out.len;subst hv3;generalize TX:d.rows.flatten=He at*;have ZQ:=hid TX;clear TX;go_wp2_with fail;clear hi hlt S0 kG LG;go_loopw [3,5] (fun v iv wr=>∃(i:Nat),i≤d.jf.length∧iv=.int .i64 i∧vE w S v wr (He++(d.jf.take i).map (fun x=>x.2))∧ag wr w.heap.size 89 (mo y).toArray) (fun _ iv _=>d.jf.length - (intOf iv).toNat);case atStart=>exact⟨0,Nat.zero_le _,rfl,by rw[List.take_zero,List.map_nil,List.append_nil];exact S2.out,jx.out⟩
  case round=>
   obtain⟨i,hi,rfl,hX,Ce⟩:=hrel;clear S2 jx;have LG:=qM.out.jf.1;obtain⟨(zs:List (ByteArray×Ex)),lX,Cf⟩:=qM.out.jf.2;have kG:(zs:List (ByteArray×Ex)).length=d.jf.length:=Cf.len;have xl:wr.cell? ⟨w.heap.size,20,none⟩=some (.slice y.jf.A y.jf.n y.jf.c):=Ce.cell 20;have ox:=hid hX;have jx:=hid Ce;have S1:=Ce.lt;clear hX Ce;rw[LG] at xl;have S3:d.jf.length≤100000:=by have:=HN.out;omega
   by_cases hlt:i < d.jf.length
   ·obtain⟨r,hr⟩:∃r,d.jf[i]?=some r:=⟨_,List.getElem?_eq_getElem hlt⟩;obtain⟨z,hz⟩:∃z,zs[i]?=some z:=⟨_,List.getElem?_eq_getElem (by rw[kG];exact hlt)⟩;have Pk:=(pD Cf hr hz).2;have Qe:=hid (yz (fun x=>x.2) hr);rcases lX with h0 |⟨b,off,Er,OP,hc⟩
    ·have h0:zs=([]:List (ByteArray×Ex)):=h0;rw[h0] at hz;exact absurd hz (by simp)
    have hcell:=fun j u hu=>(ox.out.below.cell (p:=⟨b,off+i*8+j,none⟩) (HS.out b OP)).trans (hc i z j u hz hu)
    have uK:(He++(d.jf.take i).map (fun x=>x.2)).length≤He.length+i:=by simp;omega
    obtain⟨zn,⟨Pl,zv,pF,zw,zA,zl,zc⟩⟩:=z;have k0:=hcell 1 _ rfl;have k1:=hcell 2 _ rfl;have k2:=hcell 3 _ rfl;have k3:=hcell 4 _ rfl;have k4:=hcell 5 _ rfl;have k5:=hcell 6 _ rfl;have k6:=hcell 7 _ rfl;have Wi:=hid Pk;have yS:=hid uK;clear uK Pk hcell hc hr hz;generalize uh:He++(d.jf.take i).map (fun x=>x.2)=acc at*;have LH:=hid uh;clear uh;obtain⟨A3,c3,hv3⟩:=ox.out.len;subst hv3;have bp:=ox.out.later (aa wr (.cells (cW ⟨Pl,zv,pF,zw,zA,zl,zc⟩).toArray 34));have Qf:=hid (fun(ty:TypeId)=>mB 22 ty Tryz.underlying22 bp (ag.new wr 34 (cW ⟨Pl,zv,pF,zw,zA,zl,zc⟩).toArray) Wi.out (by have:=yS.out;have:=HN.out;omega));have ZR:=hid (jx.out.alloc (.cells (cW ⟨Pl,zv,pF,zw,zA,zl,zc⟩).toArray 34));have rR:=hid bp;rw[Er] at xl;clear Er LG Cf kG bp;go_wp2_with (first
     |(at_builtin
       refine eJ rfl (.tmp 30) (.tmp 37) 22 rfl rfl rfl (Qf.out _) ?_
       rintro v' w9 ⟨zy,nk⟩
       have Qg:=hid zy
       have Wj:=hid (rR.out.far nk ZR.out (by decide))
       clear zy nk))
    go_roundw;case rel=>exact⟨i+1,hlt,by go_num,by(first | rw[Qe.out] | rw[← List.map_take,Qe.out]);rw[← List.append_assoc,LH.out];exact Qg.out,Wj.out⟩
    case measure=>simp[intOf];omega
   obtain rfl:i=d.jf.length:=by omega
   have Pm:=ox.out;rw[List.take_length] at Pm;clear ox;have uK:(He++d.jf.map (fun x=>x.2)).length=He.length+d.jf.length:=by simp
   have ox:=hid Pm;clear Cf lX Pm;obtain⟨A3,c3,hv3⟩:=ox.out.len;subst hv3;generalize TY:He++d.jf.map (fun x=>x.2)=Wk at*;have ZT:=hid TY;have LI:=hid uK;have hww:=qM.out.cf;have Qf:=hid (fun(ty:TypeId)=>iz 22 ty Tryz.underlying22 ox.out (c:=y.cf.c) hww HS.out (by have:=LI.out;have:=HN.out;omega));have x21:wr.cell? ⟨w.heap.size,21,none⟩=some (.slice y.cf.A y.cf.n y.cf.c):=jx.out.cell 21;clear TY uK hww;go_wp2_with (first
    |(at_builtin
      refine eJ rfl (.tmp 39) (.tmp 41) 22 rfl rfl rfl (Qf.out _) ?_
      rintro v' w9 ⟨zy,nk⟩
      have Pn:=ox.out.far nk jx.out (by decide)
      obtain⟨A4,c4,hv4⟩:=zy.len
      subst hv4
      have Po:=hid (show(Wk++d.cf).length=Wk.length+d.cf.length by simp)
      generalize TZ:Wk++d.cf=Hf at*
      have ZU:=hid TZ
      have Qg:=hid zy
      have S4:=hid Pn
      have q7:w9.cell? ⟨w.heap.size,7,none⟩=some (.slice y.query.items.A y.query.items.n y.query.items.c):=Pn.cell 7
      have q8:w9.cell? ⟨w.heap.size,8,none⟩=some (.string y.query.cy):=Pn.cell 8
      have q9:w9.cell? ⟨w.heap.size,9,none⟩=some (.bool y.query.only):=Pn.cell 9
      have ZV:w9.cell? ⟨w.heap.size,10,none⟩=some (.slice y.query.cf.A y.query.cf.n y.query.cf.c):=Pn.cell 10
      have ZW:w9.cell? ⟨w.heap.size,11,none⟩=some (.slice y.query.group.A y.query.group.n y.query.group.c):=Pn.cell 11
      have ZX:w9.cell? ⟨w.heap.size,12,none⟩=some (.slice y.query.having.A y.query.having.n y.query.having.c):=Pn.cell 12
      have Wl:w9.cell? ⟨w.heap.size,13,none⟩=some (.slice y.query.order.A y.query.order.n y.query.order.c):=Pn.cell 13
      have S5:w9.cell? ⟨w.heap.size,14,none⟩=some (.slice y.query.bU.A y.query.bU.n y.query.bU.c):=Pn.cell 14
      have hw9:=Pn.lt
      clear zy nk Pn TZ))
   clear x21 Qf ox;have HQ:=hid (ag.new w9 59 (yN y.query).toArray);have S6:=hid (Qg.out.later (aa w9 (.cells (yN y.query).toArray 59)));clear Qg S4 q7 q8 q9 ZV ZW ZX Wl S5 jx;unfold yN kn at HQ S6;generalize w9.alloc _=W9 at*;generalize w9.heap.size=q at*;clear hw9;go_loopw [3,7] (fun v iv wr=>∃(i:Nat),i≤d.query.items.length∧iv=.int .i64 i∧vE w S v wr (Hf++(d.query.items.take i).map (fun x=>x.1))∧ag wr q 59 #[.slice y.query.items.A y.query.items.n y.query.items.c,.string y.query.cy,.bool y.query.only,.slice y.query.cf.A y.query.cf.n y.query.cf.c,.slice y.query.group.A y.query.group.n y.query.group.c,.slice y.query.having.A y.query.having.n y.query.having.c,.slice y.query.order.A y.query.order.n y.query.order.c,.slice y.query.bU.A y.query.bU.n y.query.bU.c]) (fun _ iv _=>d.query.items.length - (intOf iv).toNat);case atStart=>exact⟨0,Nat.zero_le _,rfl,by rw[List.take_zero,List.map_nil,List.append_nil];exact S6.out,HQ.out⟩
   case round=>
    obtain⟨i,hi,rfl,hX,Ce⟩:=hrel;clear S6 HQ;have LG:=qM.out.query.items.1;obtain⟨(zs:List (Ex×ByteArray)),lX,Cf⟩:=qM.out.query.items.2;have kG:(zs:List (Ex×ByteArray)).length=d.query.items.length:=Cf.len;have xl:wr.cell? ⟨q,0,none⟩=some (.slice y.query.items.A y.query.items.n y.query.items.c):=Ce.cell 0;have ox:=hid hX;have jx:=hid Ce;have S1:=Ce.lt;clear hX Ce;rw[LG] at xl;have S3:d.query.items.length≤100000:=by have:=HN.out;omega
    by_cases hlt:i < d.query.items.length
    ·obtain⟨r,hr⟩:∃r,d.query.items[i]?=some r:=⟨_,List.getElem?_eq_getElem hlt⟩;obtain⟨z,hz⟩:∃z,zs[i]?=some z:=⟨_,List.getElem?_eq_getElem (by rw[kG];exact hlt)⟩;have Pk:=(pD Cf hr hz).1;have Qe:=hid (yz (fun x=>x.1) hr);rcases lX with h0 |⟨b,off,Er,OP,hc⟩
     ·have h0:zs=([]:List (Ex×ByteArray)):=h0;rw[h0] at hz;exact absurd hz (by simp)
     have hcell:=fun j u hu=>(ox.out.below.cell (p:=⟨b,off+i*8+j,none⟩) (HS.out b OP)).trans (hc i z j u hz hu)
     have uK:(Hf++(d.query.items.take i).map (fun x=>x.1)).length≤Hf.length+i:=by simp;omega
     obtain⟨⟨Pl,zv,pF,zw,zA,zl,zc⟩,zn⟩:=z;have k0:=hcell 0 _ rfl;have k1:=hcell 1 _ rfl;have k2:=hcell 2 _ rfl;have k3:=hcell 3 _ rfl;have k4:=hcell 4 _ rfl;have k5:=hcell 5 _ rfl;have k6:=hcell 6 _ rfl;simp only[Nat.add_zero] at k0;have Wi:=hid Pk;have yS:=hid uK;clear uK Pk hcell hc hr hz;generalize uh:Hf++(d.query.items.take i).map (fun x=>x.1)=acc at*;have LH:=hid uh;clear uh;obtain⟨A3,c3,hv3⟩:=ox.out.len;subst hv3;have bp:=ox.out.later (aa wr (.cells (cW ⟨Pl,zv,pF,zw,zA,zl,zc⟩).toArray 34));have Qf:=hid (fun(ty:TypeId)=>mB 22 ty Tryz.underlying22 bp (ag.new wr 34 (cW ⟨Pl,zv,pF,zw,zA,zl,zc⟩).toArray) Wi.out (by have:=yS.out;have:=HN.out;have:=LI.out;have:=Po.out;omega));have ZR:=hid (jx.out.alloc (.cells (cW ⟨Pl,zv,pF,zw,zA,zl,zc⟩).toArray 34));have rR:=hid bp;rw[Er] at xl;clear Er LG Cf kG bp;go_wp2_with (first
      |(at_builtin
        refine eJ rfl (.tmp 52) (.tmp 59) 22 rfl rfl rfl (Qf.out _) ?_
        rintro v' w9 ⟨zy,nk⟩
        have Qg:=hid zy
        have Wj:=hid (rR.out.far nk ZR.out (by decide))
        clear zy nk))
     go_roundw;case rel=>exact⟨i+1,hlt,by go_num,by(first | rw[Qe.out] | rw[← List.map_take,Qe.out]);rw[← List.append_assoc,LH.out];exact Qg.out,Wj.out⟩
     case measure=>simp[intOf];omega
    obtain rfl:i=d.query.items.length:=by omega
    have Pm:=ox.out;rw[List.take_length] at Pm;clear ox;have uK:(Hf++d.query.items.map (fun x=>x.1)).length=Hf.length+d.query.items.length:=by simp
    have ox:=hid Pm;clear Cf lX Pm;obtain⟨A3,c3,hv3⟩:=ox.out.len;subst hv3;have Sh:=hid uK;clear uK;generalize Ua:Hf++d.query.items.map (fun x=>x.1)=LJ at*;have ZY:=hid Ua;clear Ua;have x3:=jx.out.cell 3;have x4:=jx.out.cell 4;have x5:=jx.out.cell 5;simp only[List.getElem?_toArray,List.getElem?_cons_zero,List.getElem?_cons_succ] at x3 x4 x5;go_upto_region 16 with fail
    clear hi hlt xl LG S3;have SM:=qM.out.query.cf;have hga:=qM.out.query.group;have hha:=qM.out.query.having;have SP:=hid SM;have HGA:=hid hga;have HHA:=hid hha;clear SM hga hha x3 x4 x5;refine EJ (P:=Tryz.prog) (J:=G7 w S q (#[.slice y.query.items.A y.query.items.n y.query.items.c,.string y.query.cy,.bool y.query.only,.slice y.query.cf.A y.query.cf.n y.query.cf.c,.slice y.query.group.A y.query.group.n y.query.group.c,.slice y.query.having.A y.query.having.n y.query.having.c,.slice y.query.order.A y.query.order.n y.query.order.c,.slice y.query.bU.A y.query.bU.n y.query.bU.c]) (.slice A3 LJ.length c3) LJ d.query.cf d.query.group d.query.having) (q:=6) (s:=3) (d0:=61) (d1:=62) (d2:=63) (d3:=64) (d4:=65) (d5:=66) (d6:=67) (d7:=68) (d8:=69) (d9:=70) (pq:=.pointer (some ⟨q,0,none⟩)) (v0:=.slice A3 LJ.length c3) (p1:=.pointer (some ⟨q,3,none⟩)) (p2:=.pointer (some ⟨q,4,none⟩)) (p3:=.pointer (some ⟨q,5,none⟩)) (s1:=.slice y.query.cf.A y.query.cf.n y.query.cf.c) (s2:=.slice y.query.group.A y.query.group.n y.query.group.c) (s3:=.slice y.query.having.A y.query.having.n y.query.having.c) (A1:=⟨q,3,none⟩) (A2:=⟨q,4,none⟩) (A3:=⟨q,5,none⟩) 22 (Pj _ _ _ _ _ _ _ _ _) ⟨ox.out,jx.out⟩ (by kernel_rfl) (by kernel_rfl) (by kernel_rfl) (by kernel_rfl) (by kernel_rfl) rfl rfl ?_ ?_ ?_ ?_ (LF _ _ _ _ _ _ _ _ _ rfl rfl rfl) ?_ ?_ ?_ ?_ ?_ ?_ ?_ ?_ ?_ ?_
    ·intro ρ' w' h';simp[go_sem,h']
    ·intro ρ' w' h';simp[go_sem,h']
    ·intro ρ' w' h';simp[go_sem,h']
    ·intro ρ' w' h';simp[go_sem,h']
    ·intro ρ' w' h' hc';simp[go_sem,h',hc']
    ·intro ρ' w' h' hc';simp[go_sem,h',hc']
    ·intro ρ' w' h' hc';simp[go_sem,h',hc']
    ·intro ρ' w' v' x' u' LY kD tE jl;simp only[execOp,resolve,invoke,builtin,Sem.run_bind,Sem.run_pure,Result.andThen_ok,List.map_toArray,List.map_cons,List.map_nil,kD,tE,jl]
    ·intro ρ' w' v' x' u' LY kD tE jl;simp only[execOp,resolve,invoke,builtin,Sem.run_bind,Sem.run_pure,Result.andThen_ok,List.map_toArray,List.map_cons,List.map_nil,kD,tE,jl]
    ·intro ρ' w' v' x' u' LY kD tE jl;simp only[execOp,resolve,invoke,builtin,Sem.run_bind,Sem.run_pure,Result.andThen_ok,List.map_toArray,List.map_cons,List.map_nil,kD,tE,jl]
    ·rintro w5 ⟨hx,hq⟩;obtain⟨v',w',hrun,zy,nk⟩:=iz 22 22 Tryz.underlying22 hx (c:=y.query.cf.c) SP.out HS.out (by have:=Sh.out;have:=Po.out;have:=LI.out;have:=HN.out;omega);exact⟨v',w',hrun,zy,hx.far nk hq (by decide)⟩
    ·rintro a w5 ⟨hx,hq⟩;obtain⟨v',w',hrun,zy,nk⟩:=iz 22 22 Tryz.underlying22 hx (c:=y.query.group.c) HGA.out HS.out (by have:=Sh.out;have:=Po.out;have:=LI.out;have:=HN.out;simp only[List.length_append];omega);exact⟨v',w',hrun,zy,hx.far nk hq (by decide)⟩
    ·rintro a b w5 ⟨hx,hq⟩;obtain⟨v',w',hrun,zy,nk⟩:=iz 22 22 Tryz.underlying22 hx (c:=y.query.having.c) HHA.out HS.out (by have:=Sh.out;have:=Po.out;have:=LI.out;have:=HN.out;simp only[List.length_append];omega);exact⟨v',w',hrun,zy,hx.far nk hq (by decide)⟩
    rintro va vb vc W7 ⟨hX7,hB7⟩;have S7:=hid hX7;have HB7:=hid hB7;clear hX7 hB7 ox jx SP HGA HHA;have S8:=hid (show(LJ++d.query.cf++d.query.group++d.query.having).length=LJ.length+d.query.cf.length+d.query.group.length+d.query.having.length by simp only[List.length_append]);generalize Ub:LJ++d.query.cf++d.query.group++d.query.having=Hg at*;have ZZ:=hid Ub;clear Ub;obtain⟨A8,c8,hv8⟩:=S7.out.len;subst hv8;simp only[Act.put,List.setIfInBounds_toArray,List.set_cons_succ,List.set_cons_zero];go_wp2_with fail;go_loopw [3,8] (fun v iv wr=>∃(i:Nat),i≤d.query.order.length∧iv=.int .i64 i∧vE w S v wr (Hg++(d.query.order.take i).map (fun x=>x.1))∧ag wr q 59 #[.slice y.query.items.A y.query.items.n y.query.items.c,.string y.query.cy,.bool y.query.only,.slice y.query.cf.A y.query.cf.n y.query.cf.c,.slice y.query.group.A y.query.group.n y.query.group.c,.slice y.query.having.A y.query.having.n y.query.having.c,.slice y.query.order.A y.query.order.n y.query.order.c,.slice y.query.bU.A y.query.bU.n y.query.bU.c]) (fun _ iv _=>d.query.order.length - (intOf iv).toNat);case atStart=>exact⟨0,Nat.zero_le _,rfl,by rw[List.take_zero,List.map_nil,List.append_nil];exact S7.out,HB7.out⟩
    case round=>
     obtain⟨i,hi,rfl,hX,Ce⟩:=hrel;clear S7 HB7;have LG:=qM.out.query.order.1;obtain⟨(zs:List (Ex×Bool)),lX,Cf⟩:=qM.out.query.order.2;have kG:(zs:List (Ex×Bool)).length=d.query.order.length:=Cf.len;have xl:wr.cell? ⟨q,6,none⟩=some (.slice y.query.order.A y.query.order.n y.query.order.c):=Ce.cell 6;have ox:=hid hX;have jx:=hid Ce;have S1:=Ce.lt;clear hX Ce;rw[LG] at xl;have S3:d.query.order.length≤100000:=by have:=HN.out;omega
     by_cases hlt:i < d.query.order.length
     ·obtain⟨r,hr⟩:∃r,d.query.order[i]?=some r:=⟨_,List.getElem?_eq_getElem hlt⟩;obtain⟨z,hz⟩:∃z,zs[i]?=some z:=⟨_,List.getElem?_eq_getElem (by rw[kG];exact hlt)⟩;have Pk:=(pD Cf hr hz).1;have Qe:=hid (yz (fun x=>x.1) hr);rcases lX with h0 |⟨b,off,Er,OP,hc⟩
      ·have h0:zs=([]:List (Ex×Bool)):=h0;rw[h0] at hz;exact absurd hz (by simp)
      have hcell:=fun j u hu=>(ox.out.below.cell (p:=⟨b,off+i*8+j,none⟩) (HS.out b OP)).trans (hc i z j u hz hu)
      have uK:(Hg++(d.query.order.take i).map (fun x=>x.1)).length≤Hg.length+i:=by simp;omega
      obtain⟨⟨Pl,zv,pF,zw,zA,zl,zc⟩,zn⟩:=z;have k0:=hcell 0 _ rfl;have k1:=hcell 1 _ rfl;have k2:=hcell 2 _ rfl;have k3:=hcell 3 _ rfl;have k4:=hcell 4 _ rfl;have k5:=hcell 5 _ rfl;have k6:=hcell 6 _ rfl;simp only[Nat.add_zero] at k0;have Wi:=hid Pk;have yS:=hid uK;clear uK Pk hcell hc hr hz;generalize uh:Hg++(d.query.order.take i).map (fun x=>x.1)=acc at*;have LH:=hid uh;clear uh;obtain⟨A3,c3,hv3⟩:=ox.out.len;subst hv3;have bp:=ox.out.later (aa wr (.cells (cW ⟨Pl,zv,pF,zw,zA,zl,zc⟩).toArray 34));have Qf:=hid (fun(ty:TypeId)=>mB 22 ty Tryz.underlying22 bp (ag.new wr 34 (cW ⟨Pl,zv,pF,zw,zA,zl,zc⟩).toArray) Wi.out (by have:=yS.out;have:=HN.out;have:=LI.out;have:=Po.out;have:=Sh.out;have:=S8.out;omega));have ZR:=hid (jx.out.alloc (.cells (cW ⟨Pl,zv,pF,zw,zA,zl,zc⟩).toArray 34));have rR:=hid bp;rw[Er] at xl;clear Er LG Cf kG bp;go_wp2_with (first
       |(at_builtin
         refine eJ rfl (.tmp 78) (.tmp 85) 22 rfl rfl rfl (Qf.out _) ?_
         rintro v' w9 ⟨zy,nk⟩
         have Qg:=hid zy
         have Wj:=hid (rR.out.far nk ZR.out (by decide))
         clear zy nk))
      go_roundw;case rel=>exact⟨i+1,hlt,by go_num,by(first | rw[Qe.out] | rw[← List.map_take,Qe.out]);rw[← List.append_assoc,LH.out];exact Qg.out,Wj.out⟩
      case measure=>simp[intOf];omega
     obtain rfl:i=d.query.order.length:=by omega
     have Pm:=ox.out;rw[List.take_length] at Pm;clear ox;have uK:(Hg++d.query.order.map (fun x=>x.1)).length=Hg.length+d.query.order.length:=by simp
     have ox:=hid Pm;clear Cf lX Pm;obtain⟨A3,c3,hv3⟩:=ox.out.len;subst hv3;have S9:=hid (show Hg++d.query.order.map (fun x=>x.1)=d.exprs by rw[← ZZ.out,← ZY.out,← ZU.out,← ZT.out,← ZQ.out];simp[St.exprs,Qu.exprs]);go_wp2_with fail;go_ret;obtain⟨sl,h1,h2,h3⟩:=ox.out.sl HS.out;rw[S9.out] at h2 h3;exact⟨sl,congrArg Ending.returned h1,h2,h3,ox.out.below⟩
end Go.Proofs.YtfmbcoeallmnnaaGreatDoor.R
