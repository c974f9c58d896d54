/- Parts of the proof. -/
import Derived.Test.YtfmbcoeallmnnaaGreatDoorC32
namespace Go.Proofs.YtfmbcoeallmnnaaGreatDoor.R
open Go.Lib (hid)
open Go.ChangeShapes Go.WideShapes Go.ChangeAt Go.RowKit
set_option linter.unusedVariables false
set_option linter.unusedSimpArgs false
theorem kp (m:Cq):(lK m).toArray.size=28:=rfl
theorem sP (m:Cq):(lK m).toArray.all (·.oneCell')=true:=by simp[lK,wJ,Hj,jF,Value.oneCell']
theorem gG:(Tryz.prog.info? 89).map (·.size)=some 28:=by kernel_rfl
theorem XP (b o j:Nat):(Addr.add ⟨b,o,none⟩ j)=⟨b,o+j,none⟩:=by unfold Addr.add;split <;> simp_all
theorem BV {α:Type} {f:α→List Value} {size:Nat}(hf:∀x,(f x).length=size)(h0:0 < size):∀(l:List α) (j:Nat) (u:Value),(l.flatMap f)[j]?=some u→∃k r x,j=k*size+r∧l[k]?=some x∧(f x)[r]?=some u
 | [],j,u,h=>by simp at h
 | y::l,j,u,h=>by
   rw[List.flatMap_cons] at h;by_cases hj:j < size
   ·rw[List.getElem?_append_left (by rw[hf];exact hj)] at h;exact⟨0,j,y,by omega,rfl,h⟩
   ·rw[List.getElem?_append_right (by rw[hf];omega),hf] at h;obtain⟨k,r,x,h1,h2,h3⟩:=BV hf h0 l _ u h;exact⟨k+1,r,x,by rw[Nat.succ_mul];omega,by simpa using h2,h3⟩
theorem Pw:∀ys:List Ex,(ys.flatMap cM).length=ys.length*7
 | []=>rfl
 | y::ys=>by rw[List.flatMap_cons,List.length_append,Pw ys,jN,List.length_cons];omega
theorem Lh {w:World} {S:Nat→Prop} {A:Option Addr} {ys:List Ex}(h:RL cM 7 w S A ys) {B:Nat}(hS:∀b,S b→b < B):Reads w B 7 A ys.length (ys.flatMap cM):=by
 refine⟨Pw ys,fun hn=>?_⟩;rcases h with h |⟨b,off,hA,hb,hc⟩
 ·subst h;simp at hn
 ·refine⟨⟨b,off,none⟩,hA,hS b hb,fun j u hu=>?_⟩;obtain⟨k,r,x,rfl,h2,h3⟩:=BV jN (by omega) ys j u hu;rw[XP,← Nat.add_assoc];exact hc k x r u h2 h3
theorem Li:∀(ys:List Ex),∀u∈ys.flatMap cM,u.oneCell'=true:=by intro ys u hu;obtain⟨y,_,hu⟩:=List.mem_flatMap.1 hu;simp[cM] at hu;rcases hu with rfl | rfl | rfl | rfl | rfl | rfl | rfl <;> rfl
structure ua (w:World) (S:Nat→Prop) (v:Value) (wr:World) (acc:List Tr):Prop where
 has:∃ys:List Ex,aW cM 34 7 wr w.heap.size v ys∧jd (fun t y=>Tr.at_ w S t y) acc ys
 below:Below w.heap.size w wr
section
variable {w wr wr':World} {S:Nat→Prop} {v v':Value} {acc l:List Tr} {B:Nat}
theorem ua.start (w:World)(S:Nat→Prop):ua w S (.slice none 0 0) w []:=⟨⟨[],aW.nil,.nil⟩,Below.refl _ _⟩
theorem ua.later (h:ua w S v wr acc)(hb:Below wr.heap.size wr wr'):ua w S v wr' acc:=by obtain⟨ys,h1,h2⟩:=h.has;exact⟨⟨ys,h1.later hb,h2⟩,ae.then h.below hb⟩
theorem ua.len (h:ua w S v wr acc):∃A c,v=.slice A acc.length c:=by obtain⟨ys,h1,h2⟩:=h.has;obtain⟨A,c,hv,_⟩:=h1.reads;exact⟨A,c,by rw[hv,h2.len]⟩
theorem ua.far (h:ua w S v wr acc)(hg:wr.grownBy wr' v.ownBlock) {q:Nat} {t:TypeId} {cs:Array Value}(hq:ah wr q t cs)(ht:t≠34):ah wr' q t cs:=by obtain⟨ys,h1,h2⟩:=h.has;exact hq.JW h1 ht hg
theorem ua.sl (h:ua w S v wr acc)(hS:∀b,S b→b < w.heap.size):∃y:Sl,v=jF y∧y.n=acc.length∧my.sl wr (gf 0 wr) y acc:=by obtain⟨ys,h1,h2⟩:=h.has;obtain⟨A,c,hv,hr⟩:=qC my.hf h1 (S:=gf 0 wr) (fun g h3 h4=>⟨by omega,h4⟩);have hs:=h.below.size;have e:v=.slice A (List.length (α:=Ex) ys) c:=hv;refine⟨⟨A,acc.length,c⟩,by rw[e,h2.len];rfl,rfl,rfl,ys,hr,h2.imp fun t y ht=>?_⟩;exact Tr.at_.keep (fun b hb=>⟨cell_of_heap (h.below.block b (hS b hb)),Nat.zero_le _,Nat.lt_of_lt_of_le (hS b hb) hs⟩) _ _ ht
def Lj (w:World)(S:Nat→Prop)(v:Value)(wr:World)(acc l:List Tr)(v':Value)(w':World):Prop:=ua w S v' w' (acc++l)∧wr.grownBy w' v.ownBlock
theorem gW (t ty:TypeId)(ht:Tryz.prog.underlying t=some (.slice 34))(h:ua w S v wr acc) {A:Option Addr} {n c:Nat}(hl:my.sl w S ⟨A,n,c⟩ l)(hS:∀b,S b→b < w.heap.size)(hlen:acc.length+l.length≤1000000):
  ∃v' w',(Builtin.append_ #[t,t] ty #[v,.slice A n c]).run Tryz.prog wr=.ok v' w'∧Lj w S v wr acc l v' w':=by
 obtain⟨hn,(zs:List Ex),hr,ha⟩:=hl;have ha:jd (fun t y=>Tr.at_ w S t y) l zs:=ha;replace hn:n=l.length:=hn;obtain⟨ys,h1,h2⟩:=h.has;have hr2:=Lh hr hS;have hr3:=(hr2.below h.below).more h.below.size;obtain⟨i0,pj,hz0,hz1,hz2⟩:=info_parts lJ;have hzl:=ha.len;have RG:=h2.len;obtain⟨v',w',hrun,h3,h4,h5⟩:=fL (P:=Tryz.prog) wr w.heap.size t ty 34 i0 _ 7 88 ht pj hz0 hz1 hz2 rfl (by omega) v ys.length (ys.flatMap cM) h1 wr.heap.size A zs.length c (zs.flatMap cM) hr3 (Li _) (by unfold maxLen;omega) (by omega) h.below.size;rw[hzl,← hn] at hrun;refine⟨v',w',hrun,⟨⟨ys++zs,?_,jd.append h2 ha⟩,?_⟩,h4⟩
 ·unfold aW;rw[List.length_append,List.flatMap_append];exact h3
 ·exact h.below.trans (iU h1 h4 h.below.size)
theorem lU (t ty:TypeId)(ht:Tryz.prog.underlying t=some (.slice 34))(h:ua w S v wr acc) {g:Nat} {y:Ex} {x:Tr}(hg:ah wr g 34 (cM y).toArray)(hx:Tr.at_ w S x y)(hlen:acc.length+1≤1000000):
  ∃v' w',(Builtin.append_ #[t,t] ty #[v,.slice (some ⟨g,0,none⟩) 1 1]).run Tryz.prog wr=.ok v' w'∧Lj w S v wr acc [x] v' w':=by
 obtain⟨ys,h1,h2⟩:=h.has;have RG:=h2.len;obtain⟨v',w',hr,ho,ha⟩:=fO (P:=Tryz.prog) (w:=wr) t ty _ 88 ht lJ rfl (by omega) jN (y:=y) (by intro u hu;exact Li [y] u (by simpa using hu)) h1 g hg (by omega) (by omega) h.below.size;exact⟨v',w',hr,⟨⟨ys++ [y],ho,jd.append h2 (.one hx)⟩,h.below.trans (iU h1 ha.grown h.below.size)⟩,ha.grown⟩
theorem xf {o:Oper} {a:Act} {K:Act→World→Prop} {Q:Exit→Act→World→Prop}(s x:Operand)(t:TypeId)
  (ho:o.op=.call { callee:=.builtin .append,args:= #[s,x],argTypes:= #[t,t] }) {P:Value→World→Prop} {xv:Value} (hs:a.eval s=v) (hx:a.eval x=xv)
  (hr:∃v' w',(Builtin.append_ #[t,t] o.type #[v,xv]).run Tryz.prog wr=.ok v' w'∧P v' w') (h:∀v' w',P v' w'→K (a.put o.dst v') w'):o.wp Tryz.prog a wr K Q:=by
 obtain⟨v',w',hrun,hp⟩:=hr;unfold Oper.wp execOp;simp only[ho,resolve,invoke,builtin,Sem.run_bind,Sem.run_pure,Result.andThen_ok,List.map_toArray,List.map_cons,List.map_nil,hs,hx,hrun];exact h v' w' hp
theorem eD {ops:Array Oper} {rest:List Oper} {o:Oper} {a:Act} {Q:Exit→Act→World→Prop}(hgd:o.guard=none)(s x:Operand)(t:TypeId)
  (ho:o.op=.call { callee:=.builtin .append,args:= #[s,x],argTypes:= #[t,t] }) {P:Value→World→Prop} {xv:Value} (hs:a.eval s=v) (hx:a.eval x=xv)
  (hr:∃v' w',(Builtin.append_ #[t,t] o.type #[v,xv]).run Tryz.prog wr=.ok v' w'∧P v' w') (h:∀v' w',P v' w'→wpList Tryz.prog ops Q rest (a.put o.dst v') w'):wpList Tryz.prog ops Q (o::rest) a wr:=
 wpList_plain hgd fun _ hK=>xf s x t ho hs hx hr fun v' w' hp=>hK _ _ (h v' w' hp)
end
def Lk (o0 o1 o2 o3 o4 o5 o6 o7 o8 o9:Oper)(q s d0 d1 d2 d3 d4 d5 d6 d7 d8 d9:Tmp):Bool:=
 (tmpsOf o0== [s])&&(dX [o0,o1,o2,o3,o4,o5,o6,o7,o8,o9] o0 s==none)&&(tmpsOf o1== [q])&&(dX [o0,o1,o2,o3,o4,o5,o6,o7,o8,o9] o1 q==none)&&(tmpsOf o2== [d1])&&(dX [o0,o1,o2,o3,o4,o5,o6,o7,o8,o9] o2 d1==some 1)&&(tmpsOf o3== [d0,d2])&&(dX [o0,o1,o2,o3,o4,o5,o6,o7,o8,o9] o3 d0==some 0)&&(dX [o0,o1,o2,o3,o4,o5,o6,o7,o8,o9] o3 d2==some 2)&&(tmpsOf o4== [q])&&(dX [o0,o1,o2,o3,o4,o5,o6,o7,o8,o9] o4 q==none)&&(tmpsOf o5== [d4])&&(dX [o0,o1,o2,o3,o4,o5,o6,o7,o8,o9] o5 d4==some 4)&&(tmpsOf o6== [d3,d5])&&(dX [o0,o1,o2,o3,o4,o5,o6,o7,o8,o9] o6 d3==some 3)&&(dX [o0,o1,o2,o3,o4,o5,o6,o7,o8,o9] o6 d5==some 5)&&(tmpsOf o7== [q])&&(dX [o0,o1,o2,o3,o4,o5,o6,o7,o8,o9] o7 q==none)&&(tmpsOf o8== [d7])&&(dX [o0,o1,o2,o3,o4,o5,o6,o7,o8,o9] o8 d7==some 7)&&(tmpsOf o9== [d6,d8])&&(dX [o0,o1,o2,o3,o4,o5,o6,o7,o8,o9] o9 d6==some 6)&&(dX [o0,o1,o2,o3,o4,o5,o6,o7,o8,o9] o9 d8==some 8)&&(o0.dst==some d0)&&(o1.dst==some d1)&&(o2.dst==some d2)&&(o3.dst==some d3)&&(o4.dst==some d4)&&(o5.dst==some d5)&&(o6.dst==some d6)&&(o7.dst==some d7)&&(o8.dst==some d8)&&(o9.dst==some d9)&& o0.guard.isNone && o1.guard.isNone && o2.guard.isNone && o3.guard.isNone && o4.guard.isNone && o5.guard.isNone && o6.guard.isNone && o7.guard.isNone && o8.guard.isNone && o9.guard.isNone
section
variable {P:Program} {J:List Value→World→Prop} {w0:World} {Q:Exit→Act→World→Prop} {a0:Act} {id:Nat} {o0 o1 o2 o3 o4 o5 o6 o7 o8 o9 SH:Oper} {q s d0 d1 d2 d3 d4 d5 d6 d7 d8 d9:Tmp} {pq v0 p1 p2 p3 s1 s2 s3:Value} {A1 A2 A3:Addr}
theorem BW (t:TypeId)
  (iy:∀vs w,J vs w→J vs w.drew) (hJ:J [] w0)
  (hm:P.follows .mixedOrders=true) (aS:bR [o0,o1,o2,o3,o4,o5,o6,o7,o8,o9] a0.tmps.size [o0,o1,o2,o3,o4,o5,o6,o7,o8,o9] 0=true) (hz:cF ([o0,o1,o2,o3,o4,o5,o6,o7,o8,o9]++ [SH]) [SH] 10=true) (hch:fu [o0,o1,o2,o3,o4,o5,o6,o7,o8,o9] [3,6,9]=true) (Pf:Lk o0 o1 o2 o3 o4 o5 o6 o7 o8 o9 q s d0 d1 d2 d3 d4 d5 d6 d7 d8 d9=true)
  (hq:a0.eval (.tmp q)=pq) (h0:a0.eval (.tmp s)=v0)
  (UH:∀ρ w,ρ (.tmp s)=v0→(execOp ρ o0).run P w=.ok (.value v0) w)
  (OC:∀ρ w,ρ (.tmp q)=pq→(execOp ρ o1).run P w=.ok (.value p1) w) (hf2:∀ρ w,ρ (.tmp q)=pq→(execOp ρ o4).run P w=.ok (.value p2) w) (hf3:∀ρ w,ρ (.tmp q)=pq→(execOp ρ o7).run P w=.ok (.value p3) w)
  (hc:∀vs w,J vs w→w.cell? A1=some s1∧w.cell? A2=some s2∧w.cell? A3=some s3)
  (dG:∀ρ w,ρ (.tmp d1)=p1→w.cell? A1=some s1→(execOp ρ o2).run P w=.ok (.value s1) w) (hl2:∀ρ w,ρ (.tmp d4)=p2→w.cell? A2=some s2→(execOp ρ o5).run P w=.ok (.value s2) w) (wP:∀ρ w,ρ (.tmp d7)=p3→w.cell? A3=some s3→(execOp ρ o8).run P w=.ok (.value s3) w)
  (XQ:∀ρ w v x v' w',ρ (.tmp d0)=v→ρ (.tmp d2)=x→(Builtin.append_ #[t,t] t #[v,x]).run P w=.ok v' w'→(execOp ρ o3).run P w=.ok (.value v') w')
  (XR:∀ρ w v x v' w',ρ (.tmp d3)=v→ρ (.tmp d5)=x→(Builtin.append_ #[t,t] t #[v,x]).run P w=.ok v' w'→(execOp ρ o6).run P w=.ok (.value v') w')
  (XS:∀ρ w v x v' w',ρ (.tmp d6)=v→ρ (.tmp d8)=x→(Builtin.append_ #[t,t] t #[v,x]).run P w=.ok v' w'→(execOp ρ o9).run P w=.ok (.value v') w')
  (ha1:∀w,J [] w→∃v' w',(Builtin.append_ #[t,t] t #[v0,s1]).run P w=.ok v' w'∧J [v'] w')
  (ha2:∀a w,J [a] w→∃v' w',(Builtin.append_ #[t,t] t #[a,s2]).run P w=.ok v' w'∧J [a,v'] w')
  (M9:∀a b w,J [a,b] w→∃v' w',(Builtin.append_ #[t,t] t #[b,s3]).run P w=.ok v' w'∧J [a,b,v'] w')
  (KE:∀a b c W,J [a,b,c] W→wpList P [o0,o1,o2,o3,o4,o5,o6,o7,o8,o9,SH].toArray Q [SH] ((((((((((a0.put (some d0) v0).put (some d1) p1).put (some d2) s1).put (some d3) a).put (some d4) p2).put (some d5) s2).put (some d6) b).put (some d7) p3).put (some d8) s3).put (some d9) c) W):
  (Code.region id [o0,o1,o2,o3,o4,o5,o6,o7,o8,o9,SH].toArray true).wp P Q a0 w0:=by
 simp only[Lk,Bool.and_eq_true,beq_iff_eq,Option.isNone_iff_eq_none] at Pf;obtain⟨⟨⟨⟨⟨⟨⟨⟨⟨⟨⟨⟨⟨⟨⟨⟨⟨⟨⟨⟨⟨⟨⟨⟨⟨⟨⟨⟨⟨⟨⟨⟨⟨⟨⟨⟨⟨⟨⟨⟨⟨⟨t0,m0⟩,t1⟩,m1⟩,t2⟩,m2⟩,t3⟩,m3⟩,N0⟩,t4⟩,m4⟩,t5⟩,m5⟩,t6⟩,m6⟩,N3⟩,t7⟩,m7⟩,t8⟩,m8⟩,t9⟩,m9⟩,N6⟩,e0⟩,e1⟩,e2⟩,e3⟩,e4⟩,e5⟩,e6⟩,e7⟩,e8⟩,e9⟩,g0⟩,g1⟩,g2⟩,g3⟩,g4⟩,g5⟩,g6⟩,g7⟩,g8⟩,g9⟩:=Pf;refine jZ [SH] [o0,o1,o2,o3,o4,o5,o6,o7,o8,o9] rfl (fun i=>if i=0 then v0 else if i=1 then p1 else if i=2 then s1 else if i=4 then p2 else if i=5 then s2 else if i=7 then p3 else s3) [3,6,9] J iy hJ hm aS hz hch (by decide) rfl ?_ ?_
 ·refine⟨?_,?_,?_,?_,?_,?_,?_,?_,?_,?_,trivial⟩
  ·intro ρ w vs hcs hG hr;rw[t0] at hr;have r0:=hr.1;simp only[m0] at r0;exact⟨g0,UH ρ w (r0.trans h0)⟩
  ·intro ρ w vs hcs hG hr;rw[t1] at hr;have r0:=hr.1;simp only[m1] at r0;exact⟨g1,OC ρ w (r0.trans hq)⟩
  ·intro ρ w vs hcs hG hr;rw[t2] at hr;have r0:=hr.1;simp only[m2] at r0;exact⟨g2,dG ρ w r0 (hc _ _ hG).1⟩
  ·intro ρ w vs hcs hG hr;rw[t3] at hr;have r0:=hr.1;simp only[m3] at r0;have r1:=hr.2.1;simp only[N0] at r1;refine⟨g3,?_⟩;show vs.length=0→_;intro hl;obtain rfl:=List.eq_nil_of_length_eq_zero hl;obtain⟨v',w',hrun,hj⟩:=ha1 w hG;exact cJ (XQ ρ w _ _ v' w' r0 r1 hrun) hj
  ·intro ρ w vs hcs hG hr;rw[t4] at hr;have r0:=hr.1;simp only[m4] at r0;exact⟨g4,hf2 ρ w (r0.trans hq)⟩
  ·intro ρ w vs hcs hG hr;rw[t5] at hr;have r0:=hr.1;simp only[m5] at r0;exact⟨g5,hl2 ρ w r0 (hc _ _ hG).2.1⟩
  ·intro ρ w vs hcs hG hr;rw[t6] at hr;have r0:=hr.1;simp only[m6] at r0;have r1:=hr.2.1;simp only[N3] at r1;refine⟨g6,?_⟩;show vs.length=1→_;intro hl
   match vs,hl with
   | [a],_=>have r0:some a=some (ρ (.tmp d3)):=r0;injection r0 with r0;obtain⟨v',w',hrun,hj⟩:=ha2 a w hG;exact cJ (XR ρ w _ _ v' w' r0.symm r1 hrun) hj
  ·intro ρ w vs hcs hG hr;rw[t7] at hr;have r0:=hr.1;simp only[m7] at r0;exact⟨g7,hf3 ρ w (r0.trans hq)⟩
  ·intro ρ w vs hcs hG hr;rw[t8] at hr;have r0:=hr.1;simp only[m8] at r0;exact⟨g8,wP ρ w r0 (hc _ _ hG).2.2⟩
  ·intro ρ w vs hcs hG hr;rw[t9] at hr;have r0:=hr.1;simp only[m9] at r0;have r1:=hr.2.1;simp only[N6] at r1;refine⟨g9,?_⟩;show vs.length=2→_;intro hl
   match vs,hl with
   | [a,b],_=>have r0:some b=some (ρ (.tmp d6)):=r0;injection r0 with r0;obtain⟨v',w',hrun,hj⟩:=M9 a b w hG;exact cJ (XS ρ w _ _ v' w' r0.symm r1 hrun) hj
 ·intro vs w hl hG
  match vs,hl with
  | [a,b,c],_=>simp only[dr,e0,e1,e2,e3,e4,e5,e6,e7,e8,e9];intro UI z0 a1 z1 a2 z2 a3 z3 a4 z4 a5 z5 a6 z6 a7 z7 a8 z8 a9 z9;have z0:UI=v0:=z0;have z1:a1=p1:=z1;have z2:a2=s1:=z2;have z3:some a=some a3:=z3;have z4:a4=p2:=z4;have z5:a5=s2:=z5;have z6:some b=some a6:=z6;have z7:a7=p3:=z7;have z8:a8=s3:=z8;have z9:some c=some a9:=z9;injection z3 with z3;injection z6 with z6;injection z9 with z9;rw[z0,z1,z2,← z3,z4,z5,← z6,z7,z8,← z9];exact KE a b c w hG
end
theorem oC {α β:Type} {R:α→β→Prop} {l:List α} {m:List β}(h:jd R l m):∀ {i:Nat} {x:α} {y:β},l[i]?=some x→m[i]?=some y→R x y:=by
 induction h with
 | nil=>intro i x y hx;simp at hx
 | cons h1 h2 ih=>
   intro i x y hx hy
   match i with
   | 0=>simp at hx hy;subst hx hy;exact h1
   | i+1=>exact ih (by simpa using hx) (by simpa using hy)
theorem xZ {α:Type} {l:List (List α)} {i:Nat} {r:List α}(h:l[i]?=some r):(l.take (i+1)).flatten=(l.take i).flatten++r:=by rw[List.take_add_one,h];simp
theorem NN {α:Type} {l:List (List α)} {i:Nat} {r:List α}(h:l[i]?=some r):(l.take i).flatten.length+r.length≤l.flatten.length:=by
 have e:=xZ h;have h2:(l.take (i+1)).flatten++(l.drop (i+1)).flatten=l.flatten:=by rw[← List.flatten_append,List.take_append_drop]
 rw[← h2,e];simp only[List.length_append];omega
theorem wz {α β:Type} {l:List α} {i:Nat} {x:α}(f:α→β)(h:l[i]?=some x):(l.take (i+1)).map f=(l.take i).map f++ [f x]:=by rw[List.take_add_one,h];simp
def VY (w:World)(S:Nat→Prop)(q:Nat)(cs:Array Value)(v0:Value)(acc l1 l2 l3:List Tr):List Value→World→Prop
 | [],wr=>ua w S v0 wr acc∧ah wr q 59 cs
 | [a],wr=>ua w S a wr (acc++l1)∧ah wr q 59 cs
 | [_,b],wr=>ua w S b wr (acc++l1++l2)∧ah wr q 59 cs
 | [_,_,c],wr=>ua w S c wr (acc++l1++l2++l3)∧ah wr q 59 cs
 | _,_=>False
theorem Ll (w:World)(S:Nat→Prop)(q:Nat)(cs:Array Value)(v0:Value)(acc l1 l2 l3:List Tr):∀vs wr,VY w S q cs v0 acc l1 l2 l3 vs wr→VY w S q cs v0 acc l1 l2 l3 vs wr.drew
 | [],wr,h=>⟨h.1.later (ae.drew wr),h.2.drew⟩
 | [a],wr,h=>⟨h.1.later (ae.drew wr),h.2.drew⟩
 | [_,b],wr,h=>⟨h.1.later (ae.drew wr),h.2.drew⟩
 | [_,_,c],wr,h=>⟨h.1.later (ae.drew wr),h.2.drew⟩
 | _::_::_::_::_,wr,h=>h.elim
theorem Hx (w:World)(S:Nat→Prop)(q:Nat)(cs:Array Value)(v0:Value)(acc l1 l2 l3:List Tr) {u1 u2 u3:Value}(h1:cs[3]?=some u1)(h2:cs[4]?=some u2)(h3:cs[5]?=some u3):∀vs wr,VY w S q cs v0 acc l1 l2 l3 vs wr→wr.cell? ⟨q,3,none⟩=some u1∧wr.cell? ⟨q,4,none⟩=some u2∧wr.cell? ⟨q,5,none⟩=some u3:=by
 intro vs wr h;have hb:ah wr q 59 cs:=by
  match vs,h with
  | [],h=>exact h.2
  | [a],h=>exact h.2
  | [_,b],h=>exact h.2
  | [_,_,c],h=>exact h.2
  | _::_::_::_::_,h=>exact h.elim
 exact⟨(hb.cell 3).trans h1,(hb.cell 4).trans h2,(hb.cell 5).trans h3⟩
set_option maxHeartbeats 1000000
set_option maxRecDepth 100000
theorem BX (w:World)(d:St)(y:Cq)(S:Nat→Prop)(hS:∀b,S b→b < w.heap.size)(h:d.at_ w S y)(hlen:d.exprs.length≤100000)(U7:d.rows.length≤64):
  Calls Tryz.prog 76 #[KT y] w fun e w'=>∃sl:Sl,e=.returned (jF sl)∧sl.n=d.exprs.length∧my.sl w' (gf 0 w') sl d.exprs∧Below w.heap.size w w':=by
 have pO:=hid h;have HS:=hid hS;have hn:(d.rows.flatten.length+d.iI.length+d.bU.length)+(d.query.items.length+d.query.bU.length+d.query.group.length+d.query.having.length+d.query.order.length)≤100000:=by simp only[St.exprs,Qu.exprs,List.length_append,List.length_map] at hlen;omega
 have HN:=hid hn;have hb:=aa w (.cells (lK y).toArray 89);have hB:=ah.new w 89 (lK y).toArray;have HX:=hid ((ua.start w S).later hb);have hst:=kp y;unfold KT;clear h hS hn hlen;go_enter Tryz.func76,Tryz.ntmps76;go_wp2_with fail;generalize w.alloc _=W1 at*;have hs1:w.heap.size+1≤W1.heap.size:=hB.lt;clear hst;go_loopw [3,4] (fun v iv wr=>∃(i:Nat),i≤d.rows.length∧iv=.int .i64 i∧ua w S v wr (d.rows.take i).flatten∧ah wr w.heap.size 89 (lK y).toArray) (fun _ iv _=>d.rows.length - (intOf iv).toNat);case atStart=>exact⟨0,Nat.zero_le _,rfl,HX.out,hB⟩
 case round=>
  obtain⟨i,hi,rfl,hX,zI⟩:=hrel;have Hy:=pO.out.rows.1;obtain⟨(XT:List Sl),rK,zJ⟩:=pO.out.rows.2;have jV:(XT:List Sl).length=d.rows.length:=zJ.len;have XU:wr.cell? ⟨w.heap.size,19,none⟩=some (.slice y.rows.A y.rows.n y.rows.c):=zI.cell 19;have nB:=hid hX;have iZ:=hid zI;have XV:=zI.lt;clear hX zI HX hB;rw[Hy] at XU;by_cases hlt:i < d.rows.length
  ·obtain⟨r,hr⟩:∃r,d.rows[i]?=some r:=⟨_,List.getElem?_eq_getElem hlt⟩;obtain⟨z,hz⟩:∃z,XT[i]?=some z:=⟨_,List.getElem?_eq_getElem (by rw[jV];exact hlt)⟩;have Lm:my.lies w S z.A z.n r:=oC zJ hr hz;have Ou:=NN hr;have Md:=hid (xZ hr);rcases rK with h0 |⟨b,off,BD,KU,hc⟩
   ·have h0:XT=([]:List Sl):=h0;rw[h0] at hz;exact absurd hz (by simp)
   have hcell:wr.cell? ⟨b,off+i*1+0,none⟩=some (.slice z.A z.n z.c):=(nB.out.below.cell (p:=⟨b,off+i*1+0,none⟩) (HS.out b KU)).trans (hc i z 0 _ hz rfl);simp only[Nat.mul_one,Nat.add_zero] at hcell;have RH:=hid Lm;have N7:=hid Ou;have hap:=fun(v:Value) (hX:ua w S v wr (d.rows.take i).flatten) (ty:TypeId)=>gW 22 ty Tryz.underlying22 hX (c:=z.c) RH.out HS.out (by have:=N7.out;have:=HN.out;omega)
   have Me:=hid hap;clear Ou;generalize sB:(d.rows.take i).flatten=acc at*;have Hz:=hid sB;clear sB;obtain⟨A3,c3,hv3⟩:=nB.out.len;subst hv3;rw[BD] at XU;clear hr hz Lm hc hap Hy zJ jV;go_wp2_with (first
    |(at_builtin
      refine eD rfl (.tmp 16) (.tmp 21) 22 rfl rfl rfl (Me.out _ nB.out _) ?_
      rintro v' w' ⟨xg,mB⟩
      have Mf:=hid xg
      have RI:=hid (nB.out.far mB iZ.out (by decide))
      clear xg mB))
   go_roundw;case rel=>exact⟨i+1,hlt,by go_num,by rw[Md.out];exact Mf.out,RI.out⟩
   case measure=>simp[intOf];omega
  obtain rfl:i=d.rows.length:=by omega
  have XW:=hid (show ua w S _ wr d.rows.flatten by have:=nB.out;rw[List.take_length] at this;exact this);clear nB zJ rK;obtain⟨A3,c3,hv3⟩:=XW.out.len;subst hv3;generalize Px:d.rows.flatten=Eb at*;have Vc:=hid Px;clear Px;go_wp2_with fail;clear hi hlt XU jV Hy;go_loopw [3,5] (fun v iv wr=>∃(i:Nat),i≤d.iI.length∧iv=.int .i64 i∧ua w S v wr (Eb++(d.iI.take i).map (fun x=>x.2))∧ah wr w.heap.size 89 (lK y).toArray) (fun _ iv _=>d.iI.length - (intOf iv).toNat);case atStart=>exact⟨0,Nat.zero_le _,rfl,by rw[List.take_zero,List.map_nil,List.append_nil];exact XW.out,iZ.out⟩
  case round=>
   obtain⟨i,hi,rfl,hX,zI⟩:=hrel;clear XW iZ;have Hy:=pO.out.iI.1;obtain⟨(zs:List (ByteArray×Ex)),rK,zJ⟩:=pO.out.iI.2;have jV:(zs:List (ByteArray×Ex)).length=d.iI.length:=zJ.len;have xl:wr.cell? ⟨w.heap.size,20,none⟩=some (.slice y.iI.A y.iI.n y.iI.c):=zI.cell 20;have nB:=hid hX;have iZ:=hid zI;have XV:=zI.lt;clear hX zI;rw[Hy] at xl;have XX:d.iI.length≤100000:=by have:=HN.out;omega
   by_cases hlt:i < d.iI.length
   ·obtain⟨r,hr⟩:∃r,d.iI[i]?=some r:=⟨_,List.getElem?_eq_getElem hlt⟩;obtain⟨z,hz⟩:∃z,zs[i]?=some z:=⟨_,List.getElem?_eq_getElem (by rw[jV];exact hlt)⟩;have Lm:=(oC zJ hr hz).2;have Md:=hid (wz (fun x=>x.2) hr);rcases rK with h0 |⟨b,off,BD,KU,hc⟩
    ·have h0:zs=([]:List (ByteArray×Ex)):=h0;rw[h0] at hz;exact absurd hz (by simp)
    have hcell:=fun j u hu=>(nB.out.below.cell (p:=⟨b,off+i*8+j,none⟩) (HS.out b KU)).trans (hc i z j u hz hu)
    have yG:(Eb++(d.iI.take i).map (fun x=>x.2)).length≤Eb.length+i:=by simp;omega
    obtain⟨zn,⟨Ln,zv,oD,zw,zA,zl,zc⟩⟩:=z;have k0:=hcell 1 _ rfl;have k1:=hcell 2 _ rfl;have k2:=hcell 3 _ rfl;have k3:=hcell 4 _ rfl;have k4:=hcell 5 _ rfl;have k5:=hcell 6 _ rfl;have k6:=hcell 7 _ rfl;have RH:=hid Lm;have IQ:=hid yG;clear yG Lm hcell hc hr hz;generalize sB:Eb++(d.iI.take i).map (fun x=>x.2)=acc at*;have Hz:=hid sB;clear sB;obtain⟨A3,c3,hv3⟩:=nB.out.len;subst hv3;have eR:=nB.out.later (aa wr (.cells (cM ⟨Ln,zv,oD,zw,zA,zl,zc⟩).toArray 34));have Me:=hid (fun(ty:TypeId)=>lU 22 ty Tryz.underlying22 eR (ah.new wr 34 (cM ⟨Ln,zv,oD,zw,zA,zl,zc⟩).toArray) RH.out (by have:=IQ.out;have:=HN.out;omega));have Vd:=hid (iZ.out.alloc (.cells (cM ⟨Ln,zv,oD,zw,zA,zl,zc⟩).toArray 34));have nV:=hid eR;rw[BD] at xl;clear BD Hy zJ jV eR;go_wp2_with (first
     |(at_builtin
       refine eD rfl (.tmp 30) (.tmp 37) 22 rfl rfl rfl (Me.out _) ?_
       rintro v' w9 ⟨xg,mB⟩
       have Mf:=hid xg
       have RI:=hid (nV.out.far mB Vd.out (by decide))
       clear xg mB))
    go_roundw;case rel=>exact⟨i+1,hlt,by go_num,by(first | rw[Md.out] | rw[← List.map_take,Md.out]);rw[← List.append_assoc,Hz.out];exact Mf.out,RI.out⟩
    case measure=>simp[intOf];omega
   obtain rfl:i=d.iI.length:=by omega
   have Lp:=nB.out;rw[List.take_length] at Lp;clear nB;have yG:(Eb++d.iI.map (fun x=>x.2)).length=Eb.length+d.iI.length:=by simp
   have nB:=hid Lp;clear zJ rK Lp;obtain⟨A3,c3,hv3⟩:=nB.out.len;subst hv3;generalize Py:Eb++d.iI.map (fun x=>x.2)=RJ at*;have Ve:=hid Py;have HJ:=hid yG;have A5:=pO.out.bU;have Me:=hid (fun(ty:TypeId)=>gW 22 ty Tryz.underlying22 nB.out (c:=y.bU.c) A5 HS.out (by have:=HJ.out;have:=HN.out;omega));have N8:wr.cell? ⟨w.heap.size,21,none⟩=some (.slice y.bU.A y.bU.n y.bU.c):=iZ.out.cell 21;clear Py yG A5;go_wp2_with (first
    |(at_builtin
      refine eD rfl (.tmp 39) (.tmp 41) 22 rfl rfl rfl (Me.out _) ?_
      rintro v' w9 ⟨xg,mB⟩
      have Lq:=nB.out.far mB iZ.out (by decide)
      obtain⟨A4,c4,hv4⟩:=xg.len
      subst hv4
      have Lr:=hid (show(RJ++d.bU).length=RJ.length+d.bU.length by simp)
      generalize Pz:RJ++d.bU=Ec at*
      have Vf:=hid Pz
      have Mf:=hid xg
      have XY:=hid Lq
      have q7:w9.cell? ⟨w.heap.size,7,none⟩=some (.slice y.query.items.A y.query.items.n y.query.items.c):=Lq.cell 7
      have q8:w9.cell? ⟨w.heap.size,8,none⟩=some (.string y.query.cq):=Lq.cell 8
      have q9:w9.cell? ⟨w.heap.size,9,none⟩=some (.bool y.query.only):=Lq.cell 9
      have N9:w9.cell? ⟨w.heap.size,10,none⟩=some (.slice y.query.bU.A y.query.bU.n y.query.bU.c):=Lq.cell 10
      have O0:w9.cell? ⟨w.heap.size,11,none⟩=some (.slice y.query.group.A y.query.group.n y.query.group.c):=Lq.cell 11
      have O1:w9.cell? ⟨w.heap.size,12,none⟩=some (.slice y.query.having.A y.query.having.n y.query.having.c):=Lq.cell 12
      have O3:w9.cell? ⟨w.heap.size,13,none⟩=some (.slice y.query.order.A y.query.order.n y.query.order.c):=Lq.cell 13
      have O5:w9.cell? ⟨w.heap.size,14,none⟩=some (.slice y.query.bP.A y.query.bP.n y.query.bP.c):=Lq.cell 14
      have O6:=Lq.lt
      clear xg mB Lq Pz))
   clear N8 Me nB;have HQ:=hid (ah.new w9 59 (wJ y.query).toArray);have XZ:=hid (Mf.out.later (aa w9 (.cells (wJ y.query).toArray 59)));clear Mf XY q7 q8 q9 N9 O0 O1 O3 O5 iZ;unfold wJ jF at HQ XZ;generalize w9.alloc _=W9 at*;generalize w9.heap.size=q at*;clear O6;go_loopw [3,7] (fun v iv wr=>∃(i:Nat),i≤d.query.items.length∧iv=.int .i64 i∧ua w S v wr (Ec++(d.query.items.take i).map (fun x=>x.1))∧ah wr q 59 #[.slice y.query.items.A y.query.items.n y.query.items.c,.string y.query.cq,.bool y.query.only,.slice y.query.bU.A y.query.bU.n y.query.bU.c,.slice y.query.group.A y.query.group.n y.query.group.c,.slice y.query.having.A y.query.having.n y.query.having.c,.slice y.query.order.A y.query.order.n y.query.order.c,.slice y.query.bP.A y.query.bP.n y.query.bP.c]) (fun _ iv _=>d.query.items.length - (intOf iv).toNat);case atStart=>exact⟨0,Nat.zero_le _,rfl,by rw[List.take_zero,List.map_nil,List.append_nil];exact XZ.out,HQ.out⟩
   case round=>
    obtain⟨i,hi,rfl,hX,zI⟩:=hrel;clear XZ HQ;have Hy:=pO.out.query.items.1;obtain⟨(zs:List (Ex×ByteArray)),rK,zJ⟩:=pO.out.query.items.2;have jV:(zs:List (Ex×ByteArray)).length=d.query.items.length:=zJ.len;have xl:wr.cell? ⟨q,0,none⟩=some (.slice y.query.items.A y.query.items.n y.query.items.c):=zI.cell 0;have nB:=hid hX;have iZ:=hid zI;have XV:=zI.lt;clear hX zI;rw[Hy] at xl;have XX:d.query.items.length≤100000:=by have:=HN.out;omega
    by_cases hlt:i < d.query.items.length
    ·obtain⟨r,hr⟩:∃r,d.query.items[i]?=some r:=⟨_,List.getElem?_eq_getElem hlt⟩;obtain⟨z,hz⟩:∃z,zs[i]?=some z:=⟨_,List.getElem?_eq_getElem (by rw[jV];exact hlt)⟩;have Lm:=(oC zJ hr hz).1;have Md:=hid (wz (fun x=>x.1) hr);rcases rK with h0 |⟨b,off,BD,KU,hc⟩
     ·have h0:zs=([]:List (Ex×ByteArray)):=h0;rw[h0] at hz;exact absurd hz (by simp)
     have hcell:=fun j u hu=>(nB.out.below.cell (p:=⟨b,off+i*8+j,none⟩) (HS.out b KU)).trans (hc i z j u hz hu)
     have yG:(Ec++(d.query.items.take i).map (fun x=>x.1)).length≤Ec.length+i:=by simp;omega
     obtain⟨⟨Ln,zv,oD,zw,zA,zl,zc⟩,zn⟩:=z;have k0:=hcell 0 _ rfl;have k1:=hcell 1 _ rfl;have k2:=hcell 2 _ rfl;have k3:=hcell 3 _ rfl;have k4:=hcell 4 _ rfl;have k5:=hcell 5 _ rfl;have k6:=hcell 6 _ rfl;simp only[Nat.add_zero] at k0;have RH:=hid Lm;have IQ:=hid yG;clear yG Lm hcell hc hr hz;generalize sB:Ec++(d.query.items.take i).map (fun x=>x.1)=acc at*;have Hz:=hid sB;clear sB;obtain⟨A3,c3,hv3⟩:=nB.out.len;subst hv3;have eR:=nB.out.later (aa wr (.cells (cM ⟨Ln,zv,oD,zw,zA,zl,zc⟩).toArray 34));have Me:=hid (fun(ty:TypeId)=>lU 22 ty Tryz.underlying22 eR (ah.new wr 34 (cM ⟨Ln,zv,oD,zw,zA,zl,zc⟩).toArray) RH.out (by have:=IQ.out;have:=HN.out;have:=HJ.out;have:=Lr.out;omega));have Vd:=hid (iZ.out.alloc (.cells (cM ⟨Ln,zv,oD,zw,zA,zl,zc⟩).toArray 34));have nV:=hid eR;rw[BD] at xl;clear BD Hy zJ jV eR;go_wp2_with (first
      |(at_builtin
        refine eD rfl (.tmp 52) (.tmp 59) 22 rfl rfl rfl (Me.out _) ?_
        rintro v' w9 ⟨xg,mB⟩
        have Mf:=hid xg
        have RI:=hid (nV.out.far mB Vd.out (by decide))
        clear xg mB))
     go_roundw;case rel=>exact⟨i+1,hlt,by go_num,by(first | rw[Md.out] | rw[← List.map_take,Md.out]);rw[← List.append_assoc,Hz.out];exact Mf.out,RI.out⟩
     case measure=>simp[intOf];omega
    obtain rfl:i=d.query.items.length:=by omega
    have Lp:=nB.out;rw[List.take_length] at Lp;clear nB;have yG:(Ec++d.query.items.map (fun x=>x.1)).length=Ec.length+d.query.items.length:=by simp
    have nB:=hid Lp;clear zJ rK Lp;obtain⟨A3,c3,hv3⟩:=nB.out.len;subst hv3;have NP:=hid yG;clear yG;generalize PA:Ec++d.query.items.map (fun x=>x.1)=HY at*;have Vg:=hid PA;clear PA;have x3:=iZ.out.cell 3;have x4:=iZ.out.cell 4;have x5:=iZ.out.cell 5;simp only[List.getElem?_toArray,List.getElem?_cons_zero,List.getElem?_cons_succ] at x3 x4 x5;go_upto_region 16 with fail
    clear hi hlt xl Hy XX;have Tp:=pO.out.query.bU;have A6:=pO.out.query.group;have A7:=pO.out.query.having;have PW:=hid Tp;have B3:=hid A6;have B5:=hid A7;clear Tp A6 A7 x3 x4 x5;refine BW (P:=Tryz.prog) (J:=VY w S q (#[.slice y.query.items.A y.query.items.n y.query.items.c,.string y.query.cq,.bool y.query.only,.slice y.query.bU.A y.query.bU.n y.query.bU.c,.slice y.query.group.A y.query.group.n y.query.group.c,.slice y.query.having.A y.query.having.n y.query.having.c,.slice y.query.order.A y.query.order.n y.query.order.c,.slice y.query.bP.A y.query.bP.n y.query.bP.c]) (.slice A3 HY.length c3) HY d.query.bU d.query.group d.query.having) (q:=6) (s:=3) (d0:=61) (d1:=62) (d2:=63) (d3:=64) (d4:=65) (d5:=66) (d6:=67) (d7:=68) (d8:=69) (d9:=70) (pq:=.pointer (some ⟨q,0,none⟩)) (v0:=.slice A3 HY.length c3) (p1:=.pointer (some ⟨q,3,none⟩)) (p2:=.pointer (some ⟨q,4,none⟩)) (p3:=.pointer (some ⟨q,5,none⟩)) (s1:=.slice y.query.bU.A y.query.bU.n y.query.bU.c) (s2:=.slice y.query.group.A y.query.group.n y.query.group.c) (s3:=.slice y.query.having.A y.query.having.n y.query.having.c) (A1:=⟨q,3,none⟩) (A2:=⟨q,4,none⟩) (A3:=⟨q,5,none⟩) 22 (Ll _ _ _ _ _ _ _ _ _) ⟨nB.out,iZ.out⟩ (by kernel_rfl) (by kernel_rfl) (by kernel_rfl) (by kernel_rfl) (by kernel_rfl) rfl rfl ?_ ?_ ?_ ?_ (Hx _ _ _ _ _ _ _ _ _ rfl rfl rfl) ?_ ?_ ?_ ?_ ?_ ?_ ?_ ?_ ?_ ?_
    ·intro ρ' w' h';simp[go_sem,h']
    ·intro ρ' w' h';simp[go_sem,h']
    ·intro ρ' w' h';simp[go_sem,h']
    ·intro ρ' w' h';simp[go_sem,h']
    ·intro ρ' w' h' hc';simp[go_sem,h',hc']
    ·intro ρ' w' h' hc';simp[go_sem,h',hc']
    ·intro ρ' w' h' hc';simp[go_sem,h',hc']
    ·intro ρ' w' v' x' u' Ih jS rH iO;simp only[execOp,resolve,invoke,builtin,Sem.run_bind,Sem.run_pure,Result.andThen_ok,List.map_toArray,List.map_cons,List.map_nil,jS,rH,iO]
    ·intro ρ' w' v' x' u' Ih jS rH iO;simp only[execOp,resolve,invoke,builtin,Sem.run_bind,Sem.run_pure,Result.andThen_ok,List.map_toArray,List.map_cons,List.map_nil,jS,rH,iO]
    ·intro ρ' w' v' x' u' Ih jS rH iO;simp only[execOp,resolve,invoke,builtin,Sem.run_bind,Sem.run_pure,Result.andThen_ok,List.map_toArray,List.map_cons,List.map_nil,jS,rH,iO]
    ·rintro w5 ⟨hx,hq⟩;obtain⟨v',w',hrun,xg,mB⟩:=gW 22 22 Tryz.underlying22 hx (c:=y.query.bU.c) PW.out HS.out (by have:=NP.out;have:=Lr.out;have:=HJ.out;have:=HN.out;omega);exact⟨v',w',hrun,xg,hx.far mB hq (by decide)⟩
    ·rintro a w5 ⟨hx,hq⟩;obtain⟨v',w',hrun,xg,mB⟩:=gW 22 22 Tryz.underlying22 hx (c:=y.query.group.c) B3.out HS.out (by have:=NP.out;have:=Lr.out;have:=HJ.out;have:=HN.out;simp only[List.length_append];omega);exact⟨v',w',hrun,xg,hx.far mB hq (by decide)⟩
    ·rintro a b w5 ⟨hx,hq⟩;obtain⟨v',w',hrun,xg,mB⟩:=gW 22 22 Tryz.underlying22 hx (c:=y.query.having.c) B5.out HS.out (by have:=NP.out;have:=Lr.out;have:=HJ.out;have:=HN.out;simp only[List.length_append];omega);exact⟨v',w',hrun,xg,hx.far mB hq (by decide)⟩
    rintro va vb vc W7 ⟨B6,B7⟩;have Yc:=hid B6;have B8:=hid B7;clear B6 B7 nB iZ PW B3 B5;have Yd:=hid (show(HY++d.query.bU++d.query.group++d.query.having).length=HY.length+d.query.bU.length+d.query.group.length+d.query.having.length by simp only[List.length_append]);generalize PB:HY++d.query.bU++d.query.group++d.query.having=Ed at*;have Vh:=hid PB;clear PB;obtain⟨A8,c8,O7⟩:=Yc.out.len;subst O7;simp only[Act.put,List.setIfInBounds_toArray,List.set_cons_succ,List.set_cons_zero];go_wp2_with fail;go_loopw [3,8] (fun v iv wr=>∃(i:Nat),i≤d.query.order.length∧iv=.int .i64 i∧ua w S v wr (Ed++(d.query.order.take i).map (fun x=>x.1))∧ah wr q 59 #[.slice y.query.items.A y.query.items.n y.query.items.c,.string y.query.cq,.bool y.query.only,.slice y.query.bU.A y.query.bU.n y.query.bU.c,.slice y.query.group.A y.query.group.n y.query.group.c,.slice y.query.having.A y.query.having.n y.query.having.c,.slice y.query.order.A y.query.order.n y.query.order.c,.slice y.query.bP.A y.query.bP.n y.query.bP.c]) (fun _ iv _=>d.query.order.length - (intOf iv).toNat);case atStart=>exact⟨0,Nat.zero_le _,rfl,by rw[List.take_zero,List.map_nil,List.append_nil];exact Yc.out,B8.out⟩
    case round=>
     obtain⟨i,hi,rfl,hX,zI⟩:=hrel;clear Yc B8;have Hy:=pO.out.query.order.1;obtain⟨(zs:List (Ex×Bool)),rK,zJ⟩:=pO.out.query.order.2;have jV:(zs:List (Ex×Bool)).length=d.query.order.length:=zJ.len;have xl:wr.cell? ⟨q,6,none⟩=some (.slice y.query.order.A y.query.order.n y.query.order.c):=zI.cell 6;have nB:=hid hX;have iZ:=hid zI;have XV:=zI.lt;clear hX zI;rw[Hy] at xl;have XX:d.query.order.length≤100000:=by have:=HN.out;omega
     by_cases hlt:i < d.query.order.length
     ·obtain⟨r,hr⟩:∃r,d.query.order[i]?=some r:=⟨_,List.getElem?_eq_getElem hlt⟩;obtain⟨z,hz⟩:∃z,zs[i]?=some z:=⟨_,List.getElem?_eq_getElem (by rw[jV];exact hlt)⟩;have Lm:=(oC zJ hr hz).1;have Md:=hid (wz (fun x=>x.1) hr);rcases rK with h0 |⟨b,off,BD,KU,hc⟩
      ·have h0:zs=([]:List (Ex×Bool)):=h0;rw[h0] at hz;exact absurd hz (by simp)
      have hcell:=fun j u hu=>(nB.out.below.cell (p:=⟨b,off+i*8+j,none⟩) (HS.out b KU)).trans (hc i z j u hz hu)
      have yG:(Ed++(d.query.order.take i).map (fun x=>x.1)).length≤Ed.length+i:=by simp;omega
      obtain⟨⟨Ln,zv,oD,zw,zA,zl,zc⟩,zn⟩:=z;have k0:=hcell 0 _ rfl;have k1:=hcell 1 _ rfl;have k2:=hcell 2 _ rfl;have k3:=hcell 3 _ rfl;have k4:=hcell 4 _ rfl;have k5:=hcell 5 _ rfl;have k6:=hcell 6 _ rfl;simp only[Nat.add_zero] at k0;have RH:=hid Lm;have IQ:=hid yG;clear yG Lm hcell hc hr hz;generalize sB:Ed++(d.query.order.take i).map (fun x=>x.1)=acc at*;have Hz:=hid sB;clear sB;obtain⟨A3,c3,hv3⟩:=nB.out.len;subst hv3;have eR:=nB.out.later (aa wr (.cells (cM ⟨Ln,zv,oD,zw,zA,zl,zc⟩).toArray 34));have Me:=hid (fun(ty:TypeId)=>lU 22 ty Tryz.underlying22 eR (ah.new wr 34 (cM ⟨Ln,zv,oD,zw,zA,zl,zc⟩).toArray) RH.out (by have:=IQ.out;have:=HN.out;have:=HJ.out;have:=Lr.out;have:=NP.out;have:=Yd.out;omega));have Vd:=hid (iZ.out.alloc (.cells (cM ⟨Ln,zv,oD,zw,zA,zl,zc⟩).toArray 34));have nV:=hid eR;rw[BD] at xl;clear BD Hy zJ jV eR;go_wp2_with (first
       |(at_builtin
         refine eD rfl (.tmp 78) (.tmp 85) 22 rfl rfl rfl (Me.out _) ?_
         rintro v' w9 ⟨xg,mB⟩
         have Mf:=hid xg
         have RI:=hid (nV.out.far mB Vd.out (by decide))
         clear xg mB))
      go_roundw;case rel=>exact⟨i+1,hlt,by go_num,by(first | rw[Md.out] | rw[← List.map_take,Md.out]);rw[← List.append_assoc,Hz.out];exact Mf.out,RI.out⟩
      case measure=>simp[intOf];omega
     obtain rfl:i=d.query.order.length:=by omega
     have Lp:=nB.out;rw[List.take_length] at Lp;clear nB;have yG:(Ed++d.query.order.map (fun x=>x.1)).length=Ed.length+d.query.order.length:=by simp
     have nB:=hid Lp;clear zJ rK Lp;obtain⟨A3,c3,hv3⟩:=nB.out.len;subst hv3;have Ye:=hid (show Ed++d.query.order.map (fun x=>x.1)=d.exprs by rw[← Vh.out,← Vg.out,← Vf.out,← Ve.out,← Vc.out];simp[St.exprs,Qu.exprs]);go_wp2_with fail;go_ret;obtain⟨sl,h1,h2,h3⟩:=nB.out.sl HS.out;rw[Ye.out] at h2 h3;exact⟨sl,congrArg Ending.returned h1,h2,h3,nB.out.below⟩
end Go.Proofs.YtfmbcoeallmnnaaGreatDoor.R
