/- Parts of the proof. -/
import Derived.Test.YtcneefmaghoejaaGreatDoorC20
namespace Go.Proofs.YtcneefmaghoejaaGreatDoor
open Go.Lib (hid)
open Go.ChangeShapes Go.WideShapes Go.ChangeAt Go.RowKit
set_option linter.unusedVariables false
set_option linter.unusedSimpArgs false
def M9 (y:ByteArray×Ex):List Value:=.string y.1::bl y.2
def X7 (y:ByteArray×Ex):Value:=.agg (M9 y).toArray
def seZ:Obj:=.cells #[.string ⟨#[]⟩,.int .u8 0,.int .u8 0,.int .i64 0,.string ⟨#[]⟩,.string ⟨#[]⟩,.int .i64 0,.slice none 0 0] 73
def putAt (w:World)(q o:Nat)(y:Ex):World:=((((((w.setCell ⟨q,o,none⟩ (.int .u8 y.op)).setCell ⟨q,o+1,none⟩ (.int .u8 y.v.k)).setCell ⟨q,o+2,none⟩ (.int .i64 y.v.n)).setCell ⟨q,o+3,none⟩ (.string y.v.s)).setCell ⟨q,o+4,none⟩ (.string y.name)).setCell ⟨q,o+5,none⟩ (.int .i64 y.width)).setCell ⟨q,o+6,none⟩ (.slice y.A y.n y.c)
theorem Bh {w:World} {q:Nat} {T:TypeId} {a b c d e f g i:Value}(h:au w q T #[a,b,c,d,e,f,g,i])(y:Ex):au (putAt w q 1 y) q T (a::bl y).toArray:=by have:=((((((h.cg 1 (.int .u8 y.op)).cg 2 (.int .u8 y.v.k)).cg 3 (.int .i64 y.v.n)).cg 4 (.string y.v.s)).cg 5 (.string y.name)).cg 6 (.int .i64 y.width)).cg 7 (.slice y.A y.n y.c);simp only[List.setIfInBounds_toArray,List.set_cons_zero,List.set_cons_succ] at this;exact this
theorem Pa {w:World} {q p o:Nat} {T:TypeId} {cs:Array Value}(h:au w p T cs)(hp:p≠q)(y:Ex):au (putAt w q o y) p T cs:=
 ((((((h.far (p:=⟨q,o,none⟩) hp _).far (p:=⟨q,o+1,none⟩) hp _).far (p:=⟨q,o+2,none⟩) hp _).far (p:=⟨q,o+3,none⟩) hp _).far (p:=⟨q,o+4,none⟩) hp _).far (p:=⟨q,o+5,none⟩) hp _).far (p:=⟨q,o+6,none⟩) hp _
theorem dV.putAt {ρ:br} {W w:World} {σ:aW} {big:Bool} {q:Nat}(h:dV ρ W w σ big)(hW:ρ.g < W.heap.size)(hq:W.heap.size≤q)(o:Nat)(y:Ex):dV ρ W (putAt w q o y) σ big:=
 ((((((h.far hW hq o _).far hW hq (o+1) _).far hW hq (o+2) _).far hW hq (o+3) _).far hW hq (o+4) _).far hW hq (o+5) _).far hW hq (o+6) _
theorem Tr.at_.putAt {B q:Nat} {w:World} {t:Tr} {y:Ex}(h:t.at_ w (eD B w) y)(hq:q < B)(o:Nat)(z:Ex):t.at_ (putAt w q o z) (eD B (Go.Proofs.YtcneefmaghoejaaGreatDoor.putAt w q o z)) y:=
 ((((((h.set hq o _).set hq (o+1) _).set hq (o+2) _).set hq (o+3) _).set hq (o+4) _).set hq (o+5) _).set hq (o+6) _
set_option maxHeartbeats 1000000
set_option maxRecDepth 100000
theorem Im (ρ:br)(w:World)(σ:aW)(big:Bool)(h:ρ.at w σ big):
  Calls Tryz.prog 54 #[ρ.ptr] w (xz pK X7 (fun _=>false) ρ w big oJ σ):=by
 have aF:=h.jt;have hb:=aa w seZ;have h0:=h.later hb;have HQ:=hid (au.new w 73 #[.string ⟨#[]⟩,.int .u8 0,.int .u8 0,.int .i64 0,.string ⟨#[]⟩,.string ⟨#[]⟩,.int .i64 0,.slice none 0 0]);have hsz:(w.alloc seZ).heap.size=w.heap.size+1:=by simp
 unfold seZ at*;go_enter Tryz.func54,Tryz.ntmps54;go_wp2_with fail;refine(dY ρ _ σ big h0).mono ?_;rintro e w2 ⟨n,rfl,d2,eh⟩;have hs2:=d2.size;have OO:=hid eh;clear eh;go_wp2_with fail;have b3:=ah.then (aa w2 (.cells #[.string n,.int .u8 0,.int .u8 0,.int .i64 0,.string ⟨#[]⟩,.string ⟨#[]⟩,.int .i64 0,.slice none 0 0] 73)) (aa _ (.cells (aj [rM]) 9))
 have hB:au ((w2.alloc (.cells #[.string n,.int .u8 0,.int .u8 0,.int .i64 0,.string ⟨#[]⟩,.string ⟨#[]⟩,.int .i64 0,.slice none 0 0] 73)).alloc (.cells (aj [rM]) 9)) (w2.heap.size+1) 9 (aj [rM]):=by have:=au.new (w2.alloc (.cells #[.string n,.int .u8 0,.int .u8 0,.int .i64 0,.string ⟨#[]⟩,.string ⟨#[]⟩,.int .i64 0,.slice none 0 0] 73)) 9 (aj [rM]);rwa [World.size_alloc] at this
 refine(bk ρ _ _ big (d2.at_.later b3) [rM] (w2.heap.size+1) 1 rfl hB (by have:=d2.lt;omega) (by omega)).mono ?_;rintro e w3 ⟨rfl,d3⟩;simp only[aw] at d3;go_wp2_with fail;refine(vg ρ _ _ big d3.at_).mono ?_;rintro e w4 ⟨t,y,rfl,ht,d4,iF⟩;unfold ee bl;have hs3:=d3.size;have Su:=d4.size;have hs5:w2.heap.size+2≤w3.heap.size:=by simp at hs3;omega
 have HX:=(((au.new w2 73 #[.string n,.int .u8 0,.int .u8 0,.int .i64 0,.string ⟨#[]⟩,.string ⟨#[]⟩,.int .i64 0,.slice none 0 0]).alloc (.cells (aj [rM]) 9)).grown d3.grown (by simp;have:=d2.lt;omega)).grown d4.grown (by simp;have:=d2.lt;omega);have mE:=(((d2.blk HQ.out (by omega)).later b3).grown d3.grown (by simp;omega)).grown d4.grown (by simp;omega);have jX:=hid (((((dV.aL h hb).trans d2).later b3).trans d3).trans d4);have HST:=hid (WL OO.out iF);have MI:=(ht.more (B':=w2.heap.size+1) (by omega)).putAt (Nat.lt_succ_self _) 1 y;have xg:=Bh HX y;have Bc:=Pa (q:=w2.heap.size) (o:=1) mE (by omega) y;have rj:=hid Bc;have VK:=hid MI;have zx:=iD HX;have hxc:=dc HX;obtain⟨f0,f1,f2,f3,f4,f5,f6,f7⟩:=zx;obtain⟨c0,c1,c2,c3,c4,c5,c6,c7⟩:=hxc;have vx:=hid (jX.out.putAt aF (show w.heap.size≤w2.heap.size by omega) 1 y);have agh:=hid xg;clear HX mE xg Bc MI d2 d3 d4 ht iF b3 hB h0 hb HQ h jX;go_upto_region 4 with fail
 clear f0 f1 f2 f3 f4 f5 f6 f7 c0 c1 c2 c3 c4 c5 c6 c7;show Code.wp _ _ _ _ (putAt w4 w2.heap.size 1 y);generalize putAt w4 w2.heap.size 1 y=W5 at*;obtain⟨x0,x1,x2,x3,x4,x5,x6,x7⟩:=dc agh.out;obtain⟨y0,y1,y2,y3,y4,y5,y6,y7⟩:=dc rj.out;obtain⟨z0,z1,z2,z3,z4,z5,z6,z7⟩:=iD rj.out;go_wp2_with fail;have HP:=Bh (rj.out.cg 0 (.string n)) y;have HR:=dc HP;unfold putAt at HR;simp only[Nat.reduceAdd] at HR;obtain⟨r0,r1,r2,r3,r4,r5,r6,r7⟩:=HR;refine bodyPost_ret (v:=X7 (n,y)) ?_ rfl ?_
 ·simp[results,Tryz.results54,go_sem,r0,r1,r2,r3,r4,r5,r6,r7];rfl
 ·refine⟨(n,t),(n,y),rfl,⟨rfl,?_⟩,?_,HST.out.2⟩
  ·exact((VK.out.more (B':=w.heap.size+1) (by omega)).set (Nat.lt_succ_self _) 0 (.string n)).putAt (Nat.lt_succ_self _) 1 y |>.more (by omega)
  ·rw[HST.out.1,Bool.or_false];exact(vx.out.far aF (Nat.le_refl _) 0 (.string n)).putAt aF (Nat.le_refl _) 1 y
theorem tQ:(Tryz.prog.info? 51).map (fun i=>(i.zero,i.size,i.bytes))=some (some (.agg #[.int .u8 0,.int .u8 0,.int .i64 0,.string ⟨#[]⟩,.string ⟨#[]⟩,.int .i64 0,.slice none 0 0,.string ⟨#[]⟩]),8,104):=by kernel_rfl
def pW {α:Type}(E:El α)(lng:α→Bool)(ρ:br)(p:Ps α)(σ:aW)(big:Bool)(y:E.β)(w w':World):Prop:=∃x:α,E.rel w' (eD w.heap.size w') x y∧dV ρ w w' (ae p σ) (big || lng x)∧aK p σ x
theorem mo {α:Type} {E:El α} {T:TypeId} {lng:α→Bool} {ρ:br} {p:Ps α} {σ:aW} {big:Bool} {w0 wr w1 fl w2 W:World} {B:Nat} {v v':Value} {acc:List α} {y:E.β}(hB:w0.heap.size≤B)(hg:ρ.g < w0.heap.size)(hR:gY E T wr B v acc)(hBr:B≤wr.heap.size)(hD:dV ρ w0 wr σ big)(eU:ah wr w1)(hp:pW E lng ρ p σ big y w1 fl)(hl2:ah fl w2)(eB:w2.grownBy W v.ownBlock)
  (ys:List E.β) (iz:df E.f T E.size W B v' (ys++ [y])) (hys:jP (E.rel wr (ko B v wr)) acc ys) (hv:v'.ownBlock=v.ownBlock∨v'.ownBlock=some w2.heap.size):
  ∃x:α,gY E T W B v' (acc++ [x])∧dV ρ w0 W (ae p σ) (big || lng x)∧aK p σ x:=by
 obtain⟨x,hx,hd,iF⟩:=hp;have hgB:ρ.g < B:=by omega
 have own:∀G,v.ownBlock=some G→B≤G∧G < wr.heap.size:=fun G hG=>hR.qM hG
 refine⟨x,⟨ys++ [y],iz,jP.append ?_ (.one ?_)⟩,?_,iF⟩
 ·exact hys.imp fun a b hab=>E.keep (kH eB hv) (E.keep (dP hl2) (E.keep (gX hd.grown hgB) (E.keep (dP eU) hab)))
 ·refine E.keep (kH eB hv) (E.keep (wb (B:=w1.heap.size) (B':=B) (Nat.le_trans hBr eU.size) fun G hG=>?_) (E.keep (cP hl2) hx));exact Nat.lt_of_lt_of_le (own G hG).2 eU.size
 ·exact(((hD.later eU).trans hd).later hl2).own hg eB fun G hG=>by have:=(own G hG).1;omega
theorem mU {B q:Nat} {v:Value} {w:World}(hq:q < B)(i:Nat)(u:Value):∀b,ko B v w b→(∀o,(w.setCell ⟨q,i,none⟩ u).cell? ⟨b,o,none⟩=w.cell? ⟨b,o,none⟩)∧ko B v (w.setCell ⟨q,i,none⟩ u) b:=fun b hb=>
 ⟨cell_of_heap (Below.heap_setCell w ⟨q,i,none⟩ u b (by have:=hb.1;simp;omega)),hb.1,by simpa [World.setCell] using hb.2.1,hb.2.2⟩
theorem gY.far {α:Type} {E:El α} {T:TypeId} {w:World} {B q:Nat} {v:Value} {l:List α}(h:gY E T w B v l)(hq:q < B)(i:Nat)(u:Value):gY E T (w.setCell ⟨q,i,none⟩ u) B v l:=by
 have JA:=fun G hG=>(h.qM (G:=G) hG).1
 obtain⟨ys,h1,h2⟩:=h.has;exact⟨ys,h1.keep fun g hg=>Below.heap_setCell w ⟨q,i,none⟩ u g (by have:=JA g hg;simp;omega),h2.imp fun x y=>E.keep (mU hq i u)⟩
theorem aZ (m:qY):(cx m).toArray.size=28:=rfl
theorem ep (m:qY):(cx m).toArray.all (·.oneCell')=true:=by simp[cx,lx,fI,eP,Value.oneCell']
theorem aS:(Tryz.prog.info? 35).map (·.size)=some 28:=by kernel_rfl
theorem agi (b o j:Nat):(Addr.add ⟨b,o,none⟩ j)=⟨b,o+j,none⟩:=by unfold Addr.add;split <;> simp_all
theorem Io {α:Type} {f:α→List Value} {size:Nat}(hf:∀x,(f x).length=size)(h0:0 < size):∀(l:List α) (j:Nat) (u:Value),(l.flatMap f)[j]?=some u→∃k r x,j=k*size+r∧l[k]?=some x∧(f x)[r]?=some u
 | [],j,u,h=>by simp at h
 | y::l,j,u,h=>by
   rw[List.flatMap_cons] at h;by_cases hj:j < size
   ·rw[List.getElem?_append_left (by rw[hf];exact hj)] at h;exact⟨0,j,y,by omega,rfl,h⟩
   ·rw[List.getElem?_append_right (by rw[hf];omega),hf] at h;obtain⟨k,r,x,h1,h2,h3⟩:=Io hf h0 l _ u h;exact⟨k+1,r,x,by rw[Nat.succ_mul];omega,by simpa using h2,h3⟩
theorem Zu:∀ys:List Ex,(ys.flatMap bl).length=ys.length*7
 | []=>rfl
 | y::ys=>by rw[List.flatMap_cons,List.length_append,Zu ys,lJ,List.length_cons];omega
theorem SM {w:World} {S:Nat→Prop} {A:Option Addr} {ys:List Ex}(h:RL bl 7 w S A ys) {B:Nat}(hS:∀b,S b→b < B):Reads w B 7 A ys.length (ys.flatMap bl):=by
 refine⟨Zu ys,fun hn=>?_⟩;rcases h with h |⟨b,off,hA,hb,hc⟩
 ·subst h;simp at hn
 ·refine⟨⟨b,off,none⟩,hA,hS b hb,fun j u hu=>?_⟩;obtain⟨k,r,x,rfl,h2,h3⟩:=Io lJ (by omega) ys j u hu;rw[agi,← Nat.add_assoc];exact hc k x r u h2 h3
theorem SN:∀(ys:List Ex),∀u∈ys.flatMap bl,u.oneCell'=true:=by intro ys u hu;obtain⟨y,_,hu⟩:=List.mem_flatMap.1 hu;simp[bl] at hu;rcases hu with rfl | rfl | rfl | rfl | rfl | rfl | rfl <;> rfl
structure yS (w:World) (S:Nat→Prop) (v:Value) (wr:World) (acc:List Tr):Prop where
 has:∃ys:List Ex,df bl 49 7 wr w.heap.size v ys∧jP (fun t y=>Tr.at_ w S t y) acc ys
 below:Below w.heap.size w wr
section
variable {w wr wr':World} {S:Nat→Prop} {v v':Value} {acc l:List Tr} {B:Nat}
theorem yS.start (w:World)(S:Nat→Prop):yS w S (.slice none 0 0) w []:=⟨⟨[],df.nil,.nil⟩,Below.refl _ _⟩
theorem yS.later (h:yS w S v wr acc)(hb:Below wr.heap.size wr wr'):yS w S v wr' acc:=by obtain⟨ys,h1,h2⟩:=h.has;exact⟨⟨ys,h1.later hb,h2⟩,ah.then h.below hb⟩
theorem yS.len (h:yS w S v wr acc):∃A c,v=.slice A acc.length c:=by obtain⟨ys,h1,h2⟩:=h.has;obtain⟨A,c,hv,_⟩:=h1.reads;exact⟨A,c,by rw[hv,h2.len]⟩
theorem yS.far (h:yS w S v wr acc)(hg:wr.grownBy wr' v.ownBlock) {q:Nat} {t:TypeId} {cs:Array Value}(hq:au wr q t cs)(ht:t≠49):au wr' q t cs:=by obtain⟨ys,h1,h2⟩:=h.has;exact hq.Gf h1 ht hg
theorem yS.sl (h:yS w S v wr acc)(hS:∀b,S b→b < w.heap.size):∃y:Sl,v=eP y∧y.n=acc.length∧gL.sl wr (eD 0 wr) y acc:=by obtain⟨ys,h1,h2⟩:=h.has;obtain⟨A,c,hv,hr⟩:=sj gL.hf h1 (S:=eD 0 wr) (fun g h3 h4=>⟨by omega,h4⟩);have hs:=h.below.size;have e:v=.slice A (List.length (α:=Ex) ys) c:=hv;refine⟨⟨A,acc.length,c⟩,by rw[e,h2.len];rfl,rfl,rfl,ys,hr,h2.imp fun t y ht=>?_⟩;exact Tr.at_.keep (fun b hb=>⟨cell_of_heap (h.below.block b (hS b hb)),Nat.zero_le _,Nat.lt_of_lt_of_le (hS b hb) hs⟩) _ _ ht
def SP (w:World)(S:Nat→Prop)(v:Value)(wr:World)(acc l:List Tr)(v':Value)(w':World):Prop:=yS w S v' w' (acc++l)∧wr.grownBy w' v.ownBlock
theorem kJ (t ty:TypeId)(ht:Tryz.prog.underlying t=some (.slice 49))(h:yS w S v wr acc) {A:Option Addr} {n c:Nat}(hl:gL.sl w S ⟨A,n,c⟩ l)(hS:∀b,S b→b < w.heap.size)(hlen:acc.length+l.length≤1000000):
  ∃v' w',(Builtin.append_ #[t,t] ty #[v,.slice A n c]).run Tryz.prog wr=.ok v' w'∧SP w S v wr acc l v' w':=by
 obtain⟨hn,(zs:List Ex),hr,ha⟩:=hl;have ha:jP (fun t y=>Tr.at_ w S t y) l zs:=ha;replace hn:n=l.length:=hn;obtain⟨ys,h1,h2⟩:=h.has;have hr2:=SM hr hS;have hr3:=(hr2.below h.below).more h.below.size;obtain⟨i0,CF,hz0,hz1,hz2⟩:=info_parts nG;have hzl:=ha.len;have OT:=h2.len;obtain⟨v',w',hrun,h3,h4,h5⟩:=nR (P:=Tryz.prog) wr w.heap.size t ty 49 i0 _ 7 88 ht CF hz0 hz1 hz2 rfl (by omega) v ys.length (ys.flatMap bl) h1 wr.heap.size A zs.length c (zs.flatMap bl) hr3 (SN _) (by unfold maxLen;omega) (by omega) h.below.size;rw[hzl,← hn] at hrun;refine⟨v',w',hrun,⟨⟨ys++zs,?_,jP.append h2 ha⟩,?_⟩,h4⟩
 ·unfold df;rw[List.length_append,List.flatMap_append];exact h3
 ·exact h.below.trans (nK h1 h4 h.below.size)
theorem px (t ty:TypeId)(ht:Tryz.prog.underlying t=some (.slice 49))(h:yS w S v wr acc) {g:Nat} {y:Ex} {x:Tr}(hg:au wr g 49 (bl y).toArray)(hx:Tr.at_ w S x y)(hlen:acc.length+1≤1000000):
  ∃v' w',(Builtin.append_ #[t,t] ty #[v,.slice (some ⟨g,0,none⟩) 1 1]).run Tryz.prog wr=.ok v' w'∧SP w S v wr acc [x] v' w':=by
 obtain⟨ys,h1,h2⟩:=h.has;have OT:=h2.len;obtain⟨v',w',hr,ho,ha⟩:=lG (P:=Tryz.prog) (w:=wr) t ty _ 88 ht nG rfl (by omega) lJ (y:=y) (by intro u hu;exact SN [y] u (by simpa using hu)) h1 g hg (by omega) (by omega) h.below.size;exact⟨v',w',hr,⟨⟨ys++ [y],ho,jP.append h2 (.one hx)⟩,h.below.trans (nK h1 ha.grown h.below.size)⟩,ha.grown⟩
theorem Cv {o:Oper} {a:Act} {K:Act→World→Prop} {Q:Exit→Act→World→Prop}(s x:Operand)(t:TypeId)
  (ho:o.op=.call { callee:=.builtin .append,args:= #[s,x],argTypes:= #[t,t] }) {P:Value→World→Prop} {xv:Value} (hs:a.eval s=v) (hx:a.eval x=xv)
  (hr:∃v' w',(Builtin.append_ #[t,t] o.type #[v,xv]).run Tryz.prog wr=.ok v' w'∧P v' w') (h:∀v' w',P v' w'→K (a.put o.dst v') w'):o.wp Tryz.prog a wr K Q:=by
 obtain⟨v',w',hrun,hp⟩:=hr;unfold Oper.wp execOp;simp only[ho,resolve,invoke,builtin,Sem.run_bind,Sem.run_pure,Result.andThen_ok,List.map_toArray,List.map_cons,List.map_nil,hs,hx,hrun];exact h v' w' hp
theorem iE {ops:Array Oper} {rest:List Oper} {o:Oper} {a:Act} {Q:Exit→Act→World→Prop}(hgd:o.guard=none)(s x:Operand)(t:TypeId)
  (ho:o.op=.call { callee:=.builtin .append,args:= #[s,x],argTypes:= #[t,t] }) {P:Value→World→Prop} {xv:Value} (hs:a.eval s=v) (hx:a.eval x=xv)
  (hr:∃v' w',(Builtin.append_ #[t,t] o.type #[v,xv]).run Tryz.prog wr=.ok v' w'∧P v' w') (h:∀v' w',P v' w'→wpList Tryz.prog ops Q rest (a.put o.dst v') w'):wpList Tryz.prog ops Q (o::rest) a wr:=
 wpList_plain hgd fun _ hK=>Cv s x t ho hs hx hr fun v' w' hp=>hK _ _ (h v' w' hp)
end
structure uo where
 ρ:br
 W0:World
 TQ:TypeId
 qb:Nat
 k:Nat
 pb:Nat
 B:Nat
 cs:Array Value
 os:List (Nat×TypeId×Array Value)
 Kp:World→(Nat→Prop)→Prop
structure uo.Fit (γ:uo):Prop where
 gg:γ.ρ.g < γ.W0.heap.size
 q0:γ.W0.heap.size≤γ.qb
 p0:γ.ρ.g < γ.pb
 pq:γ.pb≠γ.qb
 qB:γ.qb < γ.B
 pB:γ.pb < γ.B
 os:∀x∈γ.os,γ.W0.heap.size≤x.1∧x.1≠γ.qb∧x.1 < γ.B
 kS:γ.k < γ.cs.size
 kp:∀w w' S S',γ.Kp w S→(∀b,S b→(∀o,w'.cell? ⟨b,o,none⟩=w.cell? ⟨b,o,none⟩)∧S' b)→γ.Kp w' S'
structure uo.at_ {α:Type} (γ:uo) (E:El α) (T:TypeId) (v:Value) (acc:List α) (W:World):Prop where
 blk:au W γ.qb γ.TQ (γ.cs.setIfInBounds γ.k v)
 row:gY E T W γ.B v acc
 kp:γ.Kp W (ko γ.B v W)
 sz:γ.B≤W.heap.size
 tK:au W γ.pb 58 #[γ.ρ.ptr]
 SQ:∀x∈γ.os,au W x.1 x.2.1 x.2.2
def uo.acc {α:Type}(γ:uo)(E:El α)(T:TypeId)(acc:List α)(W:World):Prop:=∃v,γ.at_ E T v acc W
section
variable {α:Type} {γ:uo} {E:El α} {T:TypeId} {v v':Value} {acc:List α} {W W' W2:World}
theorem uo.at_.later (A:γ.at_ E T v acc W)(F:γ.Fit)(h:Below W.heap.size W W'):γ.at_ E T v acc W':=
 ⟨A.blk.later h,A.row.later h,F.kp _ _ _ _ A.kp (dP h),Nat.le_trans A.sz h.size,A.tK.later h,fun x hx=>(A.SQ x hx).later h⟩
theorem uo.at_.grown (A:γ.at_ E T v acc W)(F:γ.Fit)(h:W.grownBy W' (some γ.ρ.g)):γ.at_ E T v acc W':=by
 have h1:=F.gg;have h2:=F.q0;have h3:=F.p0;have h4:=F.qB
 exact⟨A.blk.grown h (by simp;omega),A.row.grown h (by omega),F.kp _ _ _ _ A.kp (gX h (by omega)),Nat.le_trans A.sz h.size,A.tK.grown h (by simp;omega),fun x hx=>(A.SQ x hx).grown h (by have:=F.os x hx;simp;omega)⟩
theorem uo.at_.ge (A:γ.at_ E T v acc W) {G:Nat}(hG:v.ownBlock=some G):γ.B≤G∧G < W.heap.size:=A.row.qM hG
theorem uo.at_.cell (A:γ.at_ E T v acc W)(F:γ.Fit):W.cell? ⟨γ.qb,γ.k,none⟩=some v:=by rw[A.blk.cell];simp[F.kS]
theorem uo.at_.ptr (A:γ.at_ E T v acc W):W.cell? ⟨γ.pb,0,none⟩=some γ.ρ.ptr:=A.tK.cell 0
theorem uo.at_.push {n0:Nat} {x:α} {y:E.β} {l:bH} {lg dp:Bool}(A:γ.at_ E T v acc W)(F:γ.Fit)(D:bJ γ.ρ γ.W0 W l lg dp)(hr:E.rel W (eD n0 W) x y)(mM:γ.B≤n0)(hv0:∀G,v.ownBlock=some G→G < n0) {ys:List E.β}(ha:jP (E.rel W (ko γ.B v W)) acc ys)
  {W1:World} (hl:Below W.heap.size W W1) (eB:W1.grownBy W2 v.ownBlock) (iz:df E.f T E.size W2 γ.B v' (ys++ [y])) (hv:v'.ownBlock=v.ownBlock∨v'.ownBlock=some W1.heap.size):
  W2.cell? ⟨γ.qb,γ.k,none⟩=some v∧W2.frozen? ⟨γ.qb,γ.k,none⟩=false∧γ.at_ E T v' (acc++ [x]) (W2.setCell ⟨γ.qb,γ.k,none⟩ v')∧bJ γ.ρ γ.W0 (W2.setCell ⟨γ.qb,γ.k,none⟩ v') l lg dp:=by
 have h1:=F.gg;have h2:=F.q0;have h3:=F.p0;have h4:=F.qB;have h5:=F.pB;have h6:=F.pq
 have Gd:∀(q:Nat),q < γ.B→some q≠v.ownBlock:=fun q hq e'=>by have:=(A.ge e'.symm).1;omega
 have hX:=(A.blk.later hl).grown eB (Gd _ h4);have Hh:=hX.cg γ.k v';rw[Array.setIfInBounds_setIfInBounds] at Hh;have oL:=kH (B:=γ.B) eB hv;have RZ:∀b,eD n0 W b→(∀o,(W2.setCell ⟨γ.qb,γ.k,none⟩ v').cell? ⟨b,o,none⟩=W.cell? ⟨b,o,none⟩)∧ko γ.B v' (W2.setCell ⟨γ.qb,γ.k,none⟩ v') b:=fun b hb=>by obtain⟨c1,s1⟩:=wb mM hv0 b hb;obtain⟨c2,s2⟩:=dP hl b s1;obtain⟨c3,s3⟩:=oL b s2;obtain⟨c4,s4⟩:=mU h4 γ.k v' b s3;exact⟨fun o=>(c4 o).trans ((c3 o).trans ((c2 o).trans (c1 o))),s4⟩
 have hol:∀b,ko γ.B v W b→(∀o,(W2.setCell ⟨γ.qb,γ.k,none⟩ v').cell? ⟨b,o,none⟩=W.cell? ⟨b,o,none⟩)∧ko γ.B v' (W2.setCell ⟨γ.qb,γ.k,none⟩ v') b:=fun b hb=>by obtain⟨c2,s2⟩:=dP hl b hb;obtain⟨c3,s3⟩:=oL b s2;obtain⟨c4,s4⟩:=mU h4 γ.k v' b s3;exact⟨fun o=>(c4 o).trans ((c3 o).trans (c2 o)),s4⟩
 have agj:∀G,v'.ownBlock=some G→γ.qb < G:=fun G hG=>by have:=(iz.lt hG).2.1;omega
 refine⟨by rw[hX.cell];simp[F.kS],hX.frozen _,⟨Hh,⟨ys++ [y],iz.keep fun g hg=>Below.heap_setCell W2 ⟨γ.qb,γ.k,none⟩ v' g (by have:=agj g hg;simp;omega),jP.append (ha.imp fun _ _=>E.keep hol) (.one (E.keep RZ hr))⟩,F.kp _ _ _ _ A.kp hol,by have:=A.sz;have:=hl.size;have:=eB.size;simp[World.setCell];omega,((A.tK.later hl).grown eB (Gd _ h5)).far (p:=⟨γ.qb,γ.k,none⟩) (by simp;omega) v',fun z hz=>?_⟩,?_⟩
 ·obtain⟨a,b,c⟩:=F.os z hz;exact(((A.SQ z hz).later hl).grown eB (Gd _ c)).far (p:=⟨γ.qb,γ.k,none⟩) (by simp;omega) v'
 ·exact((D.later hl).own h1 eB (fun G hG=>by have:=(A.ge hG).1;omega)).far h1 h2 _ _
end
theorem Ip:∀y,∀u∈jE.f y,u.oneCell'=true:=by intro y u hu;simp[jE,bl] at hu;rcases hu with rfl | rfl | rfl | rfl | rfl | rfl | rfl | rfl <;> rfl
theorem Pb:∀y,∀u∈iM.f y,u.oneCell'=true:=by intro y u hu;simp[iM,bl] at hu;rcases hu with rfl | rfl | rfl | rfl | rfl | rfl | rfl | rfl <;> rfl
theorem Xj:∀y,∀u∈pK.f y,u.oneCell'=true:=by intro y u hu;simp[pK,bl] at hu;rcases hu with rfl | rfl | rfl | rfl | rfl | rfl | rfl | rfl <;> rfl
theorem Fu:∀y,∀u∈pJ.f y,u.oneCell'=true:=by intro y u hu;simp[pJ] at hu;rcases hu with rfl | rfl <;> rfl
theorem row_one:∀y,∀u∈pL.f y,u.oneCell'=true:=by intro y u hu;simp[pL] at hu;rcases hu with rfl;rfl
theorem N0:∀y,∀u∈gL.f y,u.oneCell'=true:=by intro y u hu;simp[gL,bl] at hu;rcases hu with rfl | rfl | rfl | rfl | rfl | rfl | rfl <;> rfl
theorem mV {α:Type} {f:α→List Value} {e:TypeId} {size:Nat} {w:World} {B:Nat} {v:Value} {l:List α}(h:df f e size w B v l):∃A n c,v=.slice A n c:=by obtain⟨A,c,h⟩:=h.form;exact⟨A,_,c,h⟩
theorem fo {α:Type} {γ:uo} {E:El α} {T:TypeId} {v:Value} {acc:List α} {W:World} {ops:Array Oper} {rest:List Oper} {o:Oper} {a:Act} {Q:Exit→Act→World→Prop}(A:γ.at_ E T v acc W)(F:γ.Fit)(hgd:o.guard=none)(s x:Operand)(t:TypeId)
  (ho:o.op=.call { callee:=.builtin .append,args:= #[s,x],argTypes:= #[t,t] })
  (z:Value) (bytes:Nat) (ht:Tryz.prog.underlying t=some (.slice T)) (nS:(Tryz.prog.info? T).map (fun i=>(i.zero,i.size,i.bytes))=some (some z,E.size,bytes)) (hzs:z.cells.size=E.size) (hsz:0 < E.size)
  (y:E.β) (h1:∀u∈E.f y,u.oneCell'=true) (hs:a.eval s=v) (hx:a.eval x=.slice (some ⟨W.heap.size,0,none⟩) 1 1)
  (hlen:(acc.length+1)*bytes≤140737488355328) (oU:acc.length+1≤140737488355328) (hB:γ.B≤W.heap.size)
  (h:∀(ys:List E.β) v' W2,jP (E.rel W (ko γ.B v W)) acc ys→df E.f T E.size W2 γ.B v' (ys++ [y])→(W.alloc (.cells (E.f y).toArray T)).grownBy W2 v.ownBlock→(v'.ownBlock=v.ownBlock∨v'.ownBlock=some (W.alloc (.cells (E.f y).toArray T)).heap.size)→wpList Tryz.prog ops Q rest (a.put o.dst v') W2):wpList Tryz.prog ops Q (o::rest) a (W.alloc (.cells (E.f y).toArray T)):=by
 obtain⟨ys,hown,ha⟩:=A.row.has;have hl:=ha.len;exact ot hgd s x t ho z bytes ht nS hzs hsz y (E.hf y) h1 hs (hown.later (aa W _)) W.heap.size hx (au.new W _ _) (by rw[hl];exact hlen) (by rw[hl];exact oU) (by simp;omega) (fun v' W2 h2 h3 h4=>h ys v' W2 ha h2 h3 h4)
def mq (u:Nat→Value)(M:List Nat)(σ:Nat→Option Value)(i:Nat)(_:World)(v:Value):Prop:=if i∈M then σ i=some v else v=u i
def oP (σ:Nat→Option Value)(i:Nat)(v:Value):Nat→Option Value:=fun j=>if j=i then some v else σ j
theorem Du (σ:Nat→Option Value)(i:Nat)(v:Value):oP σ i v i=some v:=by simp[oP]
theorem Xk (σ:Nat→Option Value) {i j:Nat}(v:Value)(h:j≠i):oP σ i v j=σ j:=by simp[oP,h]
def Zv (P:Program)(l:List Oper)(u:Nat→Value)(M:List Nat)(G:(Nat→Option Value)→World→Prop)(a0:Act)(i:Nat)(o:Oper):Prop:=
 ∀ρ w σ,dn ρ→G σ w→nT l (mq u M σ) a0.eval ρ w o (tmpsOf o)→(∀e∈iI o,e∈M→(σ e).isSome=true)→(i∈M→σ i=none)→o.guard=none∧
  if i∈M then xR P o ρ w fun v w'=>G (oP σ i v) w' else(execOp ρ o).run P w=.ok (.value (u i)) w
def KV (P:Program)(l:List Oper)(u:Nat→Value)(M:List Nat)(G:(Nat→Option Value)→World→Prop)(a0:Act):List Oper→Nat→Prop
 | [],_=>True
 | o::rest,i=>Zv P l u M G a0 i o∧KV P l u M G a0 rest (i+1)
theorem Dv {P:Program} {L:List Oper} {u:Nat→Value} {M:List Nat} {G:(Nat→Option Value)→World→Prop} {a0:Act}:∀ {l:List Oper} {k:Nat},KV P L u M G a0 l k→∀i o,l[i]?=some o→Zv P L u M G a0 (k+i) o
 | [],_,_,i,o,h=>by simp at h
 | x::l,k,hs,0,o,h=>by simp at h;subst h;exact hs.1
 | x::l,k,hs,i+1,o,h=>by have:=Dv hs.2 i o (by simpa using h);rwa [show k+1+i=k+(i+1) by omega] at this
section
variable {P:Program} {l zs:List Oper} {Q:Exit→Act→World→Prop} {u:Nat→Value} {M:List Nat} {G:(Nat→Option Value)→World→Prop} {a0:Act} {w0:World} {V:Nat→World→Value→Prop}
theorem Dw {N:Nat}(aO:eQ l N l 0=true)(hz:fL (l++zs) zs l.length=true) {listed:Array Bool} {a:Act} {w:World}(hf:kA V (fun a w=>wpList P (l++zs).toArray Q zs a w) l 0 a0 w)(I:Inv l V (fun _ _=>True) a0 w0 (l++zs).length listed a w)
  (h0:cT l.length listed=0):wpAny P .any (l++zs).toArray Q zs.length listed a w:=by
 have hall:=fG h0;have ha:a=fill (fun d=>a.eval (.tmp d)) l a0:=by
  have h1:a.tmps=(fill (fun d=>a.eval (.tmp d)) l a0).tmps:=by
   apply Array.ext_getElem?;intro t;by_cases ht:t < a0.tmps.size
   ·rw[vz _ _ _ _ ht];split
    ·simp[Act.eval,I.size,ht]
    ·rename_i hno;refine I.old t ?_;intro i o hi hd _;exact hno ⟨o,List.mem_of_getElem? hi,hd⟩
   ·rw[Array.getElem?_eq_none (by rw[I.size];omega),Array.getElem?_eq_none (by rw[tv];omega)]
  have h2:a.defers=(fill (fun d=>a.eval (.tmp d)) l a0).defers:=by rw[oX,I.defers]
  exact Ep h1 h2
 have hK:=zL (V:=V) (fun d=>a.eval (.tmp d)) l 0 a0 (fun i o d hi hd=>by
  rw[Nat.zero_add]
  have JB:i < l.length:=by
   rcases Nat.lt_or_ge i l.length with h' | h'
   ·exact h'
   ·rw[List.getElem?_eq_none h'] at hi;cases hi
  exact I.new i o d hi (hall i JB) hd) hf
 rw[← ha] at hK;refine vA aO hz 0 zs rfl listed a w I.len ?_ hK;intro i hi;constructor
 ·intro hl;rcases Nat.lt_or_ge i l.length with h' | h'
  ·omega
  ·rw[I.tail i h'] at hl;cases hl
 ·intro hl;exact hall i (by omega)
theorem yr {id:Nat} {ops:List Oper}(zs:List Oper)(l:List Oper)(Er:ops=l++zs)(u:Nat→Value)(M:List Nat)(G:(Nat→Option Value)→World→Prop)(rG:∀σ w,G σ w→G σ w.drew)(hG:G (fun _=>none) w0)
  (hm:P.follows .mixedOrders=true) (aO:eQ l a0.tmps.size l 0=true) (hz:fL (l++zs) zs l.length=true) (LP:M.all (fun i=>decide (i < l.length))=true)
  (hs:KV P l u M G a0 l 0) (hf:∀σ w,(∀i∈M,(σ i).isSome=true)→G σ w→kA (mq u M σ) (fun a w=>wpList P ops.toArray Q zs a w) l 0 a0 w):(Code.region id ops.toArray true).wp P Q a0 w0:=by
 subst Er;have main:∀(fuel:Nat) (listed:Array Bool) (a:Act) (w:World) (σ:Nat→Option Value),Inv l (mq u M σ) (fun _ _=>True) a0 w0 (l++zs).length listed a w→G σ w→(∀i∈M,(listed.getD i false=true↔(σ i).isSome=true))→fuel=cT l.length listed+zs.length→wpAny P .any (l++zs).toArray Q fuel listed a w:=by
  intro fuel;induction fuel with
  | zero=>
    intro listed a w σ I hg jW E5;have h0:cT l.length listed=0:=by omega
    have hz0:zs.length=0:=by omega
    have hall:=fG h0;have:=Dw aO hz (hf σ w (fun i hi=>(jW i hi).1 (hall i (of_decide_eq_true (List.all_eq_true.1 LP i hi)))) hg) I h0;rwa [hz0] at this
  | succ fuel ih=>
    intro listed a w σ I hg jW E5;by_cases h0:cT l.length listed=0
    ·have hall:=fG h0;have:=Dw aO hz (hf σ w (fun i hi=>(jW i hi).1 (hall i (of_decide_eq_true (List.all_eq_true.1 LP i hi)))) hg) I h0;rwa [show zs.length=fuel+1 by omega] at this
    ·obtain⟨i0,CF,E6⟩:=nu h0;obtain⟨i,⟨hi,hu⟩,JK⟩:=least (p:=fun i=>i < l.length∧listed.getD i false=false) i0 ⟨CF,E6⟩;have kQ:∀j,j < i→listed.getD j false=true:=fun j hj=>by
      cases hc:listed.getD j false with
      | true=>rfl
      | false=>exact absurd ⟨by omega,hc⟩ (JK j hj)
     have BW:l[i]?=some l[i]:=List.getElem?_eq_getElem hi;have rH:=dN aO i _ BW;simp only[mZ,Bool.and_eq_true,Nat.zero_add] at rH;have lD:i∈Region.ready .any (l++zs).toArray listed:=by
      refine rF (pF BW) ?_ fun j hj=>kQ j (of_decide_eq_true (List.all_eq_true.1 rH.1.1.1 j hj))
      rw[gR (by rw[I.len];simp;omega)];exact hu
     refine⟨(fun hnil=>by rw[hnil] at lD;cases lD),fun j hj=>?_⟩;obtain⟨zN,oj,qz,hall⟩:=mem_ready.1 hj;have FY:j <(l++zs).length:=by
      rcases Nat.lt_or_ge j (l++zs).length with h' | h'
      ·exact h'
      ·rw[Array.getElem?_eq_none (by simpa using h')] at qz;cases qz
     rw[gR (by rw[I.len];exact FY)] at zN;have iG:∀k∈iI oj,listed.getD k false=true:=fun k hk=>by obtain⟨e,he,hb,rfl⟩:=mb.1 hk;exact hall e he hb
     have QG:j < l.length:=by
      rcases Nat.lt_or_ge j l.length with h' | h'
      ·exact h'
      ·exfalso;have Wf:zs[j - l.length]?=some oj:=by
        have:(l++zs)[j]?=some oj:=by simpa using qz
        rw[List.getElem?_append_right (by omega)] at this;exact this
       have LQ:=kZ hz (j - l.length) oj Wf;rw[show l.length+(j - l.length)=j by omega] at LQ;have hc:=ld (L:=l++zs) (fun k=>listed.getD k false=true) (by
        intro k ok hk hd e he
        rcases Nat.lt_or_ge k l.length with JL | JL
        ·rw[List.getElem?_append_left JL] at hk
         exact I.closed k ok hk hd e he
        ·rw[I.tail k JL] at hd;cases hd) j (iI oj) LQ.2 iG i (by omega)
       rw[hu] at hc;cases hc
     have zM:l[j]?=some oj:=by
      have:(l++zs)[j]?=some oj:=by simpa using qz
      rw[List.getElem?_append_left QG] at this;exact this
     have hst:=Dv hs j oj zM;rw[Nat.zero_add] at hst;have NQ:=Inv.reads aO I zM zN iG (tmpsOf oj) (fun _ h=>h);have hnone:j∈M→σ j=none:=fun N2=>by
      cases sB:σ j with
      | none=>rfl
      | some v=>have:=(jW j N2).2 (by rw[sB];rfl);rw[zN] at this;cases this
     obtain⟨hgd,hstep⟩:=hst a.eval w σ (oV a) hg NQ (fun e he hem=>(jW e hem).1 (iG e he)) hnone;have Wo:j < listed.size:=by rw[I.len];exact FY
     have RX:fuel=cT l.length (listed.setIfInBounds j true)+zs.length:=by have:=nt l.length listed j Wo QG zN;omega
     unfold wpOp;rw[qz];show if Region.wanted oj (yielded (l++zs).toArray a.tmps)=true then _ else _
     rw[if_pos (by simp[Region.wanted,hgd])];refine .inl ?_;by_cases N2:j∈M
     ·rw[if_pos N2] at hstep;refine mf hstep ?_;intro v w' QU;have hne:∀i,i≠j→oP σ j v i=σ i:=fun i hi=>Xk σ v hi
      have I':Inv l (mq u M (oP σ j v)) (fun _ _=>True) a0 w0 (l++zs).length listed a w:=I.imp (fun i w x h=>by
       unfold mq at*
       by_cases YI:i∈M
       ·rw[if_pos YI] at h ⊢
        rw[hne i (fun e=>by subst e;rw[hnone YI] at h;cases h)]
        exact h
       ·rw[if_neg YI] at h ⊢;exact h)
      refine ih _ _ _ (oP σ j v) (I'.step aO (fun _ _ _ _ h _=>h) (fun _ _ _ _ _=>trivial) zM FY zN iG trivial ?_) QU ?_ RX
      ·unfold mq;rw[if_pos N2];exact Du σ j v
      ·intro k hk;rw[gQ _ _ _ Wo];by_cases hkj:k=j
       ·subst hkj;rw[Du];simp
       ·rw[if_neg hkj,hne k hkj];exact jW k hk
     ·rw[if_neg N2] at hstep;refine mf (T:=fun v w'=>v=u j∧w'=w) (cz hstep ⟨rfl,rfl⟩) ?_;rintro v w' ⟨rfl,rfl⟩;refine ih _ _ _ σ (I.step aO (fun _ _ _ _ h _=>h) (fun _ _ _ _ _=>trivial) zM FY zN iG trivial ?_) hg ?_ RX
      ·unfold mq;rw[if_neg N2]
      ·intro k hk;rw[gQ _ _ _ Wo,if_neg (fun e:k=j=>N2 (by rw[← e];exact hk))];exact jW k hk
 refine wp_region_any hm ?_;have:=main (l++zs).toArray.size (Array.replicate (l++zs).toArray.size false) a0 w0.drew (fun _=>none) ⟨trivial,rfl,rfl,fun _ _=>rfl,(fun i o d _ h=>by rw[cq] at h;cases h),(fun i o _ h=>by rw[cq] at h;cases h),by simp,fun i _=>cq _ _⟩ (rG _ _ hG) (fun i _=>by rw[cq];simp) (by
  have:cT l.length (Array.replicate (l++zs).toArray.size false)=l.length:=by
   unfold cT
   rw[List.filter_eq_self.2 (fun i _=>by rw[cq];rfl),List.length_range]
  rw[this];simp)
 exact this
end
theorem abw (b0 b1 b2 b3 b4 b5 b6 u0 u1 u2 u3 u4 u5 u6:Value)(C:List Value):∀A:List Value,(((((((A++(b0::b1::b2::b3::b4::b5::b6::C)).set A.length u0).set (A.length+1) u1).set (A.length+2) u2).set (A.length+3) u3).set (A.length+4) u4).set (A.length+5) u5).set (A.length+6) u6=A++(u0::u1::u2::u3::u4::u5::u6::C)
 | []=>rfl
 | a::A=>by have ih:=abw b0 b1 b2 b3 b4 b5 b6 u0 u1 u2 u3 u4 u5 u6 C A;simp only[List.cons_append,List.length_cons,show∀k,A.length+1+k=(A.length+k)+1 from fun k=>by omega,List.set_cons_succ,ih]
def pg (w:World)(g off:Nat)(y:Ex):World:=((((((w.setCell ⟨g,off,none⟩ (.int .u8 y.op)).setCell ⟨g,off+1,none⟩ (.int .u8 y.v.k)).setCell ⟨g,off+2,none⟩ (.int .i64 y.v.n)).setCell ⟨g,off+3,none⟩ (.string y.v.s)).setCell ⟨g,off+4,none⟩ (.string y.name)).setCell ⟨g,off+5,none⟩ (.int .i64 y.width)).setCell ⟨g,off+6,none⟩ (.slice y.A y.n y.c)
theorem Pc (w:World)(g off:Nat)(y:Ex)(b:Nat)(h:b≠g):(pg w g off y).heap[b]?=w.heap[b]?:=by
 unfold pg;have f:=fun(w:World) (i:Nat) (u:Value)=>Below.heap_setCell w ⟨g,i,none⟩ u b (by simpa using h)
 rw[f,f,f,f,f,f,f]
theorem Bi (w:World)(g off:Nat)(y:Ex):(pg w g off y).heap.size=w.heap.size:=by simp[pg,World.setCell]
theorem Iq (w:World)(g off:Nat)(y:Ex):w.grownBy (pg w g off y) (some g):=
 cd (cd (cd (cd (cd (cd (cd (aH (Below.refl _ _)) _ _) _ _) _ _) _ _) _ _) _ _) _ _
theorem SR {T:TypeId} {w:World} {B G m c:Nat} {ys:List Ex} {z y:Ex}(h:df bl T 7 w B (.slice (some ⟨G,0,none⟩) m c) (ys++ [z])):df bl T 7 (pg w G (ys.length*7) y) B (.slice (some ⟨G,0,none⟩) m c) (ys++ [y]):=by
 obtain⟨h1,h2⟩:=h;have hA:(ys.flatMap bl).length=ys.length*7:=by
  clear h1 h2;induction ys with
  | nil=>rfl
  | cons a l ih=>simp only[List.flatMap_cons,List.length_append,ih,List.length_cons,show(bl a).length=7 from rfl];omega
 rcases h2 with ⟨h2,_⟩|⟨g,cap,cur,hv,hb,hh,hnc,hcm,hcs,nk⟩
 ·injection h2 with h2;cases h2
 injection hv with Hv hv2 hv3;injection Hv with Hv;injection Hv with Hv _ _;subst Hv hv3;have SS:cur.toList=ys.flatMap bl++(bl z++cur.toList.drop ((ys++ [z]).length*7)):=by
  conv=>lhs;rw[← List.take_append_drop ((ys++ [z]).length*7) cur.toList,nk]
  rw[List.flatMap_append,List.flatMap_cons,List.flatMap_nil,List.append_nil,List.append_assoc]
 have hB:au w G T cur:=hh;have hP:au (pg w G (ys.length*7) y) G T _:=((((((hB.cg (ys.length*7) (.int .u8 y.op)).cg (ys.length*7+1) (.int .u8 y.v.k)).cg (ys.length*7+2) (.int .i64 y.v.n)).cg (ys.length*7+3) (.string y.v.s)).cg (ys.length*7+4) (.string y.name)).cg (ys.length*7+5) (.int .i64 y.width)).cg (ys.length*7+6) (.slice y.A y.n y.c);refine⟨by simp only[List.flatMap_append,List.flatMap_cons,List.flatMap_nil,List.append_nil,List.length_append,hA,List.length_cons,List.length_nil,show(bl y).length=7 from rfl];omega,.inr ⟨G,c,_,by rw[hv2,List.length_append,List.length_append];rfl,hb,hP,by rw[List.length_append] at hnc ⊢;exact hnc,hcm,by simpa using hcs,?_⟩⟩;simp only[Array.toList_setIfInBounds];rw[SS,← hA];have e:=abw (.int .u8 z.op) (.int .u8 z.v.k) (.int .i64 z.v.n) (.string z.v.s) (.string z.name) (.int .i64 z.width) (.slice z.A z.n z.c) (.int .u8 y.op) (.int .u8 y.v.k) (.int .i64 y.v.n) (.string y.v.s) (.string y.name) (.int .i64 y.width) (.slice y.A y.n y.c) (cur.toList.drop ((ys++ [z]).length*7)) (ys.flatMap bl);have e2:ys.flatMap bl++(bl z++cur.toList.drop ((ys++ [z]).length*7))=ys.flatMap bl++(.int .u8 z.op:: .int .u8 z.v.k:: .int .i64 z.v.n:: .string z.v.s:: .string z.name:: .int .i64 z.width:: .slice z.A z.n z.c::cur.toList.drop ((ys++ [z]).length*7)):=rfl;rw[e2,e,List.flatMap_append,List.flatMap_cons,List.flatMap_nil,List.append_nil];have e3:ys.flatMap bl++(.int .u8 y.op:: .int .u8 y.v.k:: .int .i64 y.v.n:: .string y.v.s:: .string y.name:: .int .i64 y.width:: .slice y.A y.n y.c::cur.toList.drop ((ys++ [z]).length*7))=(ys.flatMap bl++bl y)++cur.toList.drop ((ys++ [z]).length*7):=by rw[List.append_assoc];rfl
 rw[e3,List.take_append_of_le_length (by simp only[List.length_append,hA,List.length_cons,List.length_nil,show(bl y).length=7 from rfl];omega),List.take_of_length_le (by simp only[List.length_append,hA,List.length_cons,List.length_nil,show(bl y).length=7 from rfl];omega)]
def zeroE:Ex:=⟨0,⟨0,0,⟨#[]⟩⟩,⟨#[]⟩,0,none,0,0⟩
structure Ir (γ:uo) (v:Value) (acc:List Tr) (lg dp:Bool) (l r:bH) (t:Tr) (n0:Nat) (c z:Option Value) (w:World):Prop where
 sz:n0≤w.heap.size
 at_:γ.at_ gL 49 v acc w
 no:c=none→bJ γ.ρ γ.W0 w l lg dp
 yes:∀x,c=some x→∃y,x=ee y∧t.at_ w (eD n0 w) y∧bJ γ.ρ γ.W0 w r lg (dp || decide (32 < t.depth))
 zero:∀x,z=some x→∃g0,x=.slice (some ⟨g0,0,none⟩) 1 1∧au w g0 49 eK∧n0≤g0
structure MR (γ:uo) (v:Value) (acc:List Tr) (lg dp:Bool) (r:bH) (t:Tr) (a c:Value) (s p:Bool) (w:World):Prop where
 sz:γ.B≤w.heap.size
 blk:au w γ.qb γ.TQ (γ.cs.setIfInBounds γ.k (if p then a else v))
 kp:γ.Kp w (ko γ.B a w)
 tK:au w γ.pb 58 #[γ.ρ.ptr]
 SQ:∀x∈γ.os,au w x.1 x.2.1 x.2.2
 did:bJ γ.ρ γ.W0 w r lg (dp || decide (32 < t.depth))
 row:∃(G cap:Nat) (ys:List Ex) (y:Ex),a=.slice (some ⟨G,0,none⟩) (acc.length+1) cap∧c=ee y∧ys.length=acc.length∧t.at_ w (ko γ.B a w) y∧jP (Tr.at_ w (ko γ.B a w)) acc ys∧df bl 49 7 w γ.B a (ys++ [if s then y else zeroE])
section
variable {γ:uo} {v a c:Value} {acc:List Tr} {lg dp s p:Bool} {l r:bH} {t:Tr} {n0:Nat} {co z:Option Value} {w w':World}
theorem Ir.later (A:Ir γ v acc lg dp l r t n0 co z w)(F:γ.Fit)(h:Below w.heap.size w w'):Ir γ v acc lg dp l r t n0 co z w':=
 ⟨Nat.le_trans A.sz h.size,A.at_.later F h,fun e=>(A.no e).later h,fun x e=>by obtain⟨y,h1,h2,h3⟩:=A.yes x e;exact⟨y,h1,h2.later h,h3.later h⟩,fun x e=>by obtain⟨g0,h1,h2,h3⟩:=A.zero x e;exact⟨g0,h1,h2.later h,h3⟩⟩
theorem MR.later (A:MR γ v acc lg dp r t a c s p w)(F:γ.Fit)(h:Below w.heap.size w w'):MR γ v acc lg dp r t a c s p w':=
 ⟨Nat.le_trans A.sz h.size,A.blk.later h,F.kp _ _ _ _ A.kp (dP h),A.tK.later h,fun x hx=>(A.SQ x hx).later h,A.did.later h,by
   obtain⟨G,cap,ys,y,h1,h2,h3,h4,h5,h6⟩:=A.row
   exact⟨G,cap,ys,y,h1,h2,h3,Tr.at_.keep (dP h) _ _ h4,h5.imp fun _ _ k=>Tr.at_.keep (dP h) _ _ k,h6.later h⟩⟩
theorem Ir.start (A:γ.at_ gL 49 v acc w)(D:bJ γ.ρ γ.W0 w l lg dp):Ir γ v acc lg dp l r t w.heap.size none none w:=
 ⟨Nat.le_refl _,A,fun _=>D,fun x e=>(by cases e),fun x e=>(by cases e)⟩
theorem Ir.call (A:Ir γ v acc lg dp l r t n0 none z w)(F:γ.Fit)(hn:γ.B≤n0) {y:Ex}(hat:t.at_ w' (eD w.heap.size w') y)(d:bJ γ.ρ w w' r lg (dp || decide (32 < t.depth))):Ir γ v acc lg dp l r t n0 (some (ee y)) z w':=by
 have h1:=F.gg;have h2:=F.q0;have h3:=F.qB
 exact⟨Nat.le_trans A.sz d.size,A.at_.grown F d.grown,fun e=>(by cases e),fun x e=>(by injection e with e;exact⟨y,e.symm,hat.more A.sz,(A.no rfl).trans d⟩),fun x e=>(by obtain⟨g0,k1,k2,k3⟩:=A.zero x e;exact⟨g0,k1,d.blk k2 (by omega),k3⟩)⟩
theorem Ir.Zw (A:Ir γ v acc lg dp l r t n0 co none w)(F:γ.Fit):Ir γ v acc lg dp l r t n0 co (some (.slice (some ⟨w.heap.size,0,none⟩) 1 1)) (w.alloc (.cells eK 49)):=by have B:=A.later F (aa w (.cells eK 49));exact⟨B.sz,B.at_,B.no,B.yes,fun x e=>by injection e with e;exact⟨w.heap.size,e.symm,au.new w _ _,A.sz⟩⟩
theorem Ir.app {cv zv:Value}(A:Ir γ v acc lg dp l r t n0 (some cv) (some zv) w)(F:γ.Fit)(hn:γ.B≤n0)(hv0:∀G,v.ownBlock=some G→G < n0)(hlen:acc.length≤5000):∃v' w',(Builtin.append_ #[25,25] 25 #[v,zv]).run Tryz.prog w=.ok v' w'∧MR γ v acc lg dp r t v' cv false false w':=by
 have h1:=F.gg;have h2:=F.q0;have h3:=F.p0;have h4:=F.qB;have h5:=F.pB
 obtain⟨g0,rfl,hz,hg0⟩:=A.zero _ rfl;obtain⟨y,rfl,hat,hd⟩:=A.yes _ rfl;obtain⟨(ys:List Ex),ho,ha⟩:=A.at_.row.has;have xE:ys.length=acc.length:=ha.len;have Gd:∀(q:Nat),q < γ.B→some q≠v.ownBlock:=fun q hq e'=>by have:=(A.at_.ge e'.symm).1;omega
 obtain⟨v',w',hr,iz,YU,hv⟩:=qZ (P:=Tryz.prog) (f:=bl) (e:=49) (size:=7) (base:=γ.B) (y:=zeroE) (w:=w) 25 25 _ 88 Tryz.underlying25 nG rfl (by decide) (fun _=>rfl) (N0 zeroE) ho g0 hz (by rw[xE];omega) (by rw[xE];omega) A.at_.sz;have eB:=YU.grown;have hk:=kH (B:=γ.B) eB hv;obtain⟨G,cap,fE,hGb,_⟩:=iz.cell (f:=bl) (fun _=>rfl) (k:=acc.length) (x:=zeroE) (by rw[← xE];simp);refine⟨v',w',hr,Nat.le_trans A.at_.sz eB.size,?_,F.kp _ _ _ _ A.at_.kp hk,A.at_.tK.grown eB (Gd _ h5),fun x hx=>(A.at_.SQ x hx).grown eB (Gd _ (F.os x hx).2.2),hd.own h1 eB (fun G hG=>by have:=(A.at_.ge hG).1;omega),G,cap,ys,y,?_,rfl,xE,?_,ha.imp fun _ _ k=>Tr.at_.keep hk _ _ k,iz⟩
 ·simp only[Bool.false_eq_true,if_false];exact A.at_.blk.grown eB (Gd _ h4)
 ·rw[fE];simp[xE]
 ·exact Tr.at_.keep hk _ _ (Tr.at_.keep (wb hn hv0) _ _ hat)
theorem MR.elem {G cap:Nat} {y:Ex}(A:MR γ v acc lg dp r t a (ee y) false p w)(F:γ.Fit)(ha:a=.slice (some ⟨G,0,none⟩) (acc.length+1) cap):MR γ v acc lg dp r t a (ee y) true p (pg w G (acc.length*7) y):=by
 have h1:=F.gg;have h2:=F.q0;have h3:=F.p0;have h4:=F.qB;have h5:=F.pB
 obtain⟨G',cap',ys,y',e1,e2,e3,e4,e5,e6⟩:=A.row;have hG:G'=G∧cap'=cap:=by rw[ha] at e1;injection e1 with e1 _ e1c;injection e1 with e1;injection e1 with e1 _ _;exact⟨e1.symm,e1c.symm⟩
 obtain⟨rfl,rfl⟩:=hG;have hy:y'=y:=by obtain⟨a1,⟨a2,a3,a4⟩,a5,a6,a7,a8,a9⟩:=y;obtain⟨b1,⟨b2,b3,b4⟩,b5,b6,b7,b8,b9⟩:=y';unfold ee bl at e2;simp only[Value.agg.injEq] at e2;simp at e2;obtain⟨rfl,rfl,rfl,rfl,rfl,rfl,rfl,rfl,rfl⟩:=e2;rfl
 subst hy;have hown:a.ownBlock=some G':=by rw[ha];rfl
 have JA:γ.B≤G':=(e6.lt hown).2.1;have hg:=Iq w G' (acc.length*7) y';have hk:∀b,ko γ.B a w b→(∀o,(pg w G' (acc.length*7) y').cell? ⟨b,o,none⟩=w.cell? ⟨b,o,none⟩)∧ko γ.B a (pg w G' (acc.length*7) y') b:=fun b hb=>
  ⟨cell_of_heap (Pc w G' _ y' b (fun e=>hb.2.2 (by rw[hown,e]))),hb.1,by rw[Bi];exact hb.2.1,hb.2.2⟩
 refine⟨by rw[Bi];exact A.sz,A.blk.grown hg (by simp;omega),F.kp _ _ _ _ A.kp hk,A.tK.grown hg (by simp;omega),fun x hx=>(A.SQ x hx).grown hg (by have:=(F.os x hx).2.2;simp;omega),A.did.own h1 hg (fun G hG=>by injection hG with hG;omega),G',cap',ys,y',ha,rfl,e3,Tr.at_.keep hk _ _ e4,e5.imp fun _ _ k=>Tr.at_.keep hk _ _ k,?_⟩;have e6:df bl 49 7 w γ.B a (ys++ [zeroE]):=e6;rw[ha] at e6 ⊢;rw[← e3] at e6 ⊢;exact SR e6
theorem MR.list (A:MR γ v acc lg dp r t a c s false w)(F:γ.Fit):MR γ v acc lg dp r t a c s true (w.setCell ⟨γ.qb,γ.k,none⟩ a):=by
 have h1:=F.gg;have h2:=F.q0;have h3:=F.p0;have h4:=F.qB;have h5:=F.pB;have h6:=F.pq
 obtain⟨G,cap,ys,y,e1,e2,e3,e4,e5,e6⟩:=A.row;have hk:=mU (v:=a) (w:=w) h4 γ.k a;have hb:=A.blk.cg γ.k a;rw[Array.setIfInBounds_setIfInBounds] at hb;have hown:a.ownBlock=some G:=by rw[e1];rfl
 have JA:γ.B≤G:=(e6.lt hown).2.1;exact⟨by have:=A.sz;simpa [World.setCell] using this,hb,F.kp _ _ _ _ A.kp hk,A.tK.far (p:=⟨γ.qb,γ.k,none⟩) (by simp;omega) a,fun x hx=>(A.SQ x hx).far (p:=⟨γ.qb,γ.k,none⟩) (by have:=(F.os x hx).2.1;simp;omega) a,A.did.far h1 h2 _ _,G,cap,ys,y,e1,e2,e3,Tr.at_.keep hk _ _ e4,e5.imp fun _ _ k=>Tr.at_.keep hk _ _ k,e6.keep fun g hg=>by rw[hown] at hg;injection hg with hg;exact Below.heap_setCell w ⟨γ.qb,γ.k,none⟩ a g (by simp;omega)⟩
theorem MR.done (A:MR γ v acc lg dp r t a c true true w):γ.at_ gL 49 a (acc++ [t]) w:=by obtain⟨G,cap,ys,y,e1,e2,e3,e4,e5,e6⟩:=A.row;exact⟨A.blk,⟨ys++ [y],e6,jP.append e5 (.one e4)⟩,A.kp,A.sz,A.tK,A.SQ⟩
end
end Go.Proofs.YtcneefmaghoejaaGreatDoor
