/- Parts of the proof. -/
import Derived.Test.YtfmbcoeallmnnaaGreatDoorD8
namespace Go.Proofs.YtfmbcoeallmnnaaGreatDoor
open Go.Lib (hid)
open Go.ChangeShapes Go.WideShapes Go.ChangeAt Go.RowKit
set_option linter.unusedVariables false
set_option linter.unusedSimpArgs false
set_option maxHeartbeats 4000000
set_option maxRecDepth 100000
theorem MB (op:Int)(xv:Val)(name:ByteArray)(width:Int)(A:Option Addr)(n c:Nat)(cV rV:Value)(args:List (Ex×Val))(bad:Ex)(er:Int)(post:List Ex)(hn:args.length+1+post.length=n)(w:World)(hl:args.length≤1599289640356)(Co:n≤1599289640356)(hA:RE w w.heap.size A (args.map (·.1)++bad::post))(hE:∀a∈args,qW w cV rV a.1 a.2 0)(sf:qW w cV rV bad ah er)(her:er≠0):
  Calls Tryz.prog 24 #[.agg #[.int .u8 op,.int .u8 xv.k,.int .i64 xv.n,.string xv.s,.string name,.int .i64 width,.slice A n c],cV,rV] w fun en w'=>en=.returned (cI ah er)∧Below w.heap.size w w':=by
 have HN:=hid hn;have UB:=hid sf;have L4:=hid her;clear hn sf her;have HA:=hid hA;have HE:=hid hE;clear hA hE;go_enter Tryz.func24,Tryz.ntmps24;have hX:=(ag.new w 34 #[.int .u8 op,.int .u8 xv.k,.int .i64 xv.n,.string xv.s,.string name,.int .i64 width,.slice A n c]).alloc (.cells #[.int .u8 0,.int .i64 0,.string ⟨#[]⟩] 26);have x6:=hX.cell 6;simp only[List.getElem?_toArray,List.getElem?_cons_zero,List.getElem?_cons_succ] at x6;go_wp2_with fail;have hR:=ag.new (w.alloc (.cells #[.int .u8 op,.int .u8 xv.k,.int .i64 xv.n,.string xv.s,.string name,.int .i64 width,.slice A n c] 34)) 26 #[.int .u8 0,.int .i64 0,.string ⟨#[]⟩];rw[World.size_alloc] at hR;have hB:=ae.then (aa w (.cells #[.int .u8 op,.int .u8 xv.k,.int .i64 xv.n,.string xv.s,.string name,.int .i64 width,.slice A n c] 34)) (aa _ (.cells #[.int .u8 0,.int .i64 0,.string ⟨#[]⟩] 26))
 clear x6;generalize (w.alloc (.cells #[.int .u8 op,.int .u8 xv.k,.int .i64 xv.n,.string xv.s,.string name,.int .i64 width,.slice A n c] 34)).alloc (.cells #[.int .u8 0,.int .i64 0,.string ⟨#[]⟩] 26)=W at*;have bo:w.heap.size≤w.heap.size+1:=by omega
 generalize w.heap.size+1=gR at*;go_loopw [8,9,20] (fun lv kv i wr=>∃k:Nat,k≤args.length∧i=.int .i64 k∧aQ dD 26 3 wr W.heap.size lv ((args.take k).map (·.2))∧aQ gu 5 1 wr W.heap.size kv ((args.take k).map (·.2.k))∧Below W.heap.size W wr) (fun _ _ i _=>args.length - (intOf i).toNat);case atStart=>exact⟨0,Nat.zero_le _,rfl,aQ.nil,aQ.nil,Below.refl _ _⟩
 case round=>
  obtain⟨k,hk,rfl,hO,hK,hb⟩:=hrel;have HO:=hid hO;have HK:=hid hK;clear hO hK;rcases Nat.lt_or_ge k args.length with hlt | AW
  ·have L5:k < n:=by have:=HN.out;omega
   obtain⟨b,off,rfl,Fe,hex⟩:=(HA.out.below (hB.trans (hb.mono hB.size))).at_ (show k <(args.map (·.1)++bad::post).length by simp;omega);have oO:(args.map (·.1)++bad::post)[k]'(by simp;omega)=args[k].1:=by rw[List.getElem_append_left (by simpa using hlt)];simp
   rw[oO] at hex;clear oO;have mC:=HE.out args[k] (List.getElem_mem hlt);have HT:=hid (show args.take (k+1)=args.take k++ [args[k]] by rw[List.take_add_one,List.getElem?_eq_getElem hlt];rfl);generalize args[k]=yv at*;obtain⟨y,v⟩:=yv;dsimp only at*;unfold cw at hex;go_wp2_with fail;have bY:=aa wr (.cells #[.int .u8 y.op,.int .u8 y.v.k,.int .i64 y.v.n,.string y.v.s,.string y.name,.int .i64 y.width,.slice y.A y.n y.c] 34);refine(mC _ (hB.trans ((ae.then hb bY).mono hB.size))).mono ?_;rintro e w1 ⟨rfl,b1⟩;have hb1:=ae.then bY b1
   unfold cI;go_wp2_with fail;have hG:=ag.new w1 26 #[.int .u8 v.k,.int .i64 v.n,.string v.s];have bG:=aa w1 (.cells #[.int .u8 v.k,.int .i64 v.n,.string v.s] 26);have hb2:=ae.then hb1 bG
   have Yl:=HO;replace HO:=hid (HO.out.later hb2);replace HK:=hid (HK.out.later hb2);replace hb:=ae.then hb hb2
   have hsz:wr.heap.size≤w1.heap.size:=hb1.size;have hne:∀u,aQ dD 26 3 wr W.heap.size u ((args.take k).map (·.2))→some w1.heap.size≠u.ownBlock:=fun u hu e=>by have:=(hu.lt e.symm).1;omega
   have FA:=hne _ Yl.out;clear hne hb2 hb1 b1 bY bG mC hex Yl;generalize w1.alloc (.cells #[.int .u8 v.k,.int .i64 v.n,.string v.s] 26)=w2 at*;generalize w1.heap.size=g at*;have FB:((args.take k).map (·.2)).length≤1599289640356:=by simp;omega
   have MC:((args.take k).map (·.2.k)).length≤1599289640356:=by simp;omega
   generalize JL:(args.take k).map (·.2)=vs at*;generalize Ig:(args.take k).map (·.2.k)=ks at*;have L6:=hid JL;have UC:=hid Ig;clear JL Ig;have hbase:W.heap.size≤w2.heap.size:=hb.size;have Ym:vs.length≤1599289640356:=FB;refine iJ _ _ (List.take_append_drop 8 _).symm (AR dD 26 3 W.heap.size u8 vs v) AR.refl (fun _ _ _=>AR.trans) AR.drew (Yi W.heap.size u8 u9 vs v g) (fun i w w' u h hr=>zJ _ _ _ _ _ _ _ _ _ _ h hr) (by kernel_rfl) (by kernel_rfl) (by kernel_rfl) ?_ ?_
   ·simp only[List.take_succ_cons,List.take_zero];refine⟨?_,?_,?_,?_,?_,?_,?_,?_,trivial⟩
    ·intro ρ w3 hc hL hr;have h1:ρ (.tmp 8)=u8:=hr.1;exact oJ (.inl rfl) h1 ⟨AR.refl _,rfl⟩
    ·intro ρ w3 hc hL hr;have h1:ρ (.tmp 12)=.pointer (some ⟨g,0,none⟩):=hr.1;have c0:=ay (hG.grown hL.grown FA);exact ai (w':=w3) (by simp[go_sem,h1,c0]) ⟨AR.refl _,rfl⟩
    ·intro ρ w3 hc hL hr;have h1:ρ (.tmp 36)=.agg #[.int .u8 v.k,.int .i64 v.n,.string v.s]:=hr.1;refine ai (v:=.slice (some ⟨w3.heap.size,0,none⟩) 1 1) (w':=w3.alloc (.cells #[.int .u8 v.k,.int .i64 v.n,.string v.s] 26)) (by simp[go_sem,h1]) ⟨AR.later (aa w3 _),⟨_,rfl,ag.new w3 _ _,fun e=>?_⟩⟩;have:=((hL.old HO.out).lt e.symm).1;omega
    ·intro ρ w3 hc hL hr;have h1:ρ (.tmp 35)=u8:=hr.1;obtain⟨q,h2,h3,h4⟩:∃q,ρ (.tmp 37)=.slice (some ⟨q,0,none⟩) 1 1∧ag w3 q 26 (dD v).toArray∧some q≠u8.ownBlock:=hr.2.1;obtain⟨v',w',hrun,ho,UD⟩:=ei (P:=Tryz.prog) (w:=w3) 38 38 _ 32 Tryz.underlying38 CQ rfl (by omega) (fun _=>rfl) (by simp[dD,Value.oneCell']) (hL.old HO.out) q h3 (by omega) (by omega) (Nat.le_trans hbase hL.grown.size);exact ai (v:=v') (w':=w') (by simp only[execOp,resolve,invoke,builtin,Sem.run_bind,Sem.run_pure,Result.andThen_ok,List.map_toArray,List.map_cons,List.map_nil,h1,h2,hrun]) ⟨UD,ho⟩
    ·intro ρ w3 hc hL hr;have h1:ρ (.tmp 9)=u9:=hr.1;exact oJ (.inl rfl) h1 ⟨AR.refl _,rfl⟩
    ·intro ρ w3 hc hL hr;have h1:ρ (.tmp 12)=.pointer (some ⟨g,0,none⟩):=hr.1;exact ai (w':=w3) (by simp[go_sem,h1]) ⟨AR.refl _,rfl⟩
    ·intro ρ w3 hc hL hr;have h1:ρ (.tmp 40)=.pointer (some ⟨g,0,none⟩):=hr.1;have c0:=ay (hG.grown hL.grown FA);exact ai (w':=w3) (by simp[go_sem,h1,c0]) ⟨AR.refl _,rfl⟩
    ·intro ρ w3 hc hL hr;have h1:ρ (.tmp 41)=.int .u8 v.k:=hr.1;refine ai (v:=.slice (some ⟨w3.heap.size,0,none⟩) 1 1) (w':=w3.alloc (.cells #[.int .u8 v.k] 5)) (by simp[go_sem,h1]) ⟨AR.later (aa w3 _),⟨_,rfl,ag.new w3 _ _,fun e=>?_⟩⟩;have:=((hL.old HO.out).lt e.symm).1;omega
   ·intro w3 hL;simp only[List.take_succ_cons,List.take_zero,List.drop_succ_cons,List.drop_zero];intro a0 h0 a1 h1 a2 h2 v3 QD a4 h4 a5 h5 a6 h6 a7 h7;obtain⟨q2,h2,_⟩:=h2;obtain⟨q7,h7,Xc,_⟩:=h7;have h0:u8=a0:=Eq.symm h0;have h4:u9=a4:=Eq.symm h4;have h1:_=a1:=Eq.symm h1;have h2:_=a2:=Eq.symm h2;have h5:_=a5:=Eq.symm h5;have h6:_=a6:=Eq.symm h6;have h7:_=a7:=Eq.symm h7;subst h0 h1 h2 h4 h5 h6 h7;have QD:aQ dD 26 3 w3 W.heap.size v3 (vs++ [v]):=QD;have hK3:=HK.out.past HO.out (by decide) hL.grown;have hb3:=hb.trans (eR HO.out hL.grown hbase);have Yn:=hid QD;have QE:=hid hK3;have Yo:=hid Xc;have wH:=hb3.size;clear QD hK3 Xc HO HK hL hG FA hb;simp only[cN,Act.put,List.setIfInBounds_toArray,List.set_cons_succ,List.set_cons_zero];go_wp2_with (first
     |(at_builtin
       refine dm rfl (.tmp 39) (.tmp 42) 73 rfl _ 1 Tryz.underlying73 se rfl (by omega) v.k rfl (by simp[gu,Value.oneCell']) rfl QE.out q7 rfl Yo.out (by omega) (by omega) wH ?_
       intro v4 w4 o4 g4
       have b4:=eR QE.out g4 wH
       have o3:=Yn.out.past QE.out (by decide) g4
       have O4:=hid o4
       have O3:=hid o3
       clear o4 g4 QE Yn Yo o3))
    go_roundw;case rel=>
     refine⟨k+1,hlt,by go_num,?_,?_,hb3.trans b4⟩
     ·rw[HT.out,List.map_append,L6.out];exact O3.out
     ·rw[HT.out,List.map_append,UC.out];exact O4.out
    case measure=>simp[intOf];omega
  ·have Yp:k=args.length:=by omega
   have L5:k < n:=by have:=HN.out;omega
   obtain⟨b,off,rfl,Fe,hex⟩:=(HA.out.below (hB.trans (hb.mono hB.size))).at_ (show k <(args.map (·.1)++bad::post).length by simp;omega);have oO:(args.map (·.1)++bad::post)[k]'(by simp;omega)=bad:=by rw[List.getElem_append_right (by simp;omega)];simp[Yp]
   rw[oO] at hex;clear oO Yp HO HK;have mC:=UB.out;unfold cw at hex;go_wp2_with fail;have bY:=aa wr (.cells #[.int .u8 bad.op,.int .u8 bad.v.k,.int .i64 bad.v.n,.string bad.v.s,.string bad.name,.int .i64 bad.width,.slice bad.A bad.n bad.c] 34);refine(mC _ (hB.trans ((ae.then hb bY).mono hB.size))).mono ?_;rintro e w1 ⟨rfl,b1⟩;have bG:=aa w1 (.cells #[.int .u8 0,.int .i64 0,.string ByteArray.empty] 26);have hb2:=ae.then hb (ae.then (ae.then bY b1) bG)
   have dg:=hR.later hb2;have bZ:=ae.then hB hb2
   have bK:=ay dg;have dn:=ag.frozen dg;have te:(er != 0)=true:=by have:=L4.out;simpa using this
   clear mC hex bY b1 bG hb2 dg hX hR hB hb;unfold cI ah;go_wp2_with fail;exact bodyPost_ret (v:=.tuple #[.agg #[.int .u8 0,.int .i64 0,.string ByteArray.empty],.int .i64 er]) (by simp[results,Tryz.results24,go_sem,bK];try rfl) rfl ⟨rfl,((bZ.setCell bo _).setCell bo _).setCell bo _⟩
inductive Tr where
 | mk (op:Int) (v:Val) (name:ByteArray) (width:Int) (args:List Tr)
def PV (w:World)(S:Nat→Prop)(A:Option Addr)(l:List Ex):Prop:=
 l=[]∨∃b off,A=some ⟨b,off,none⟩∧S b∧∀i x,l[i]?=some x→cw w b (off+i*7) x
mutual
def Tr.at_ (w:World)(S:Nat→Prop):Tr→Ex→Prop
 | .mk op v name width args,y=>y.op=op∧y.v=v∧y.name=name∧y.width=width∧y.n=args.length∧∃ys,PV w S y.A ys∧Tr.bJ w S args ys
def Tr.bJ (w:World)(S:Nat→Prop):List Tr→List Ex→Prop
 | [],ys=>ys=[]
 | t::ts,ys=>∃y ys',ys=y::ys'∧Tr.at_ w S t y∧Tr.bJ w S ts ys'
end
theorem PV.keep {w w':World} {S S':Nat→Prop} {A:Option Addr} {l:List Ex}(h:PV w S A l)(hk:∀b,S b→(∀o,w'.cell? ⟨b,o,none⟩=w.cell? ⟨b,o,none⟩)∧S' b):PV w' S' A l:=by
 rcases h with h |⟨b,off,h1,h2,h3⟩
 ·exact .inl h
 ·exact .inr ⟨b,off,h1,(hk b h2).2,fun i x hx=>(h3 i x hx).keep (hk b h2).1⟩
mutual
theorem Tr.at_.keep {w w':World} {S S':Nat→Prop}(hk:∀b,S b→(∀o,w'.cell? ⟨b,o,none⟩=w.cell? ⟨b,o,none⟩)∧S' b):∀(t:Tr) (y:Ex),t.at_ w S y→t.at_ w' S' y
 | .mk op v name width args,y,h=>by unfold Tr.at_ at h ⊢;obtain⟨h1,h2,h3,h4,h5,ys,h6,h7⟩:=h;exact⟨h1,h2,h3,h4,h5,ys,h6.keep hk,Tr.bJ.keep hk args ys h7⟩
theorem Tr.bJ.keep {w w':World} {S S':Nat→Prop}(hk:∀b,S b→(∀o,w'.cell? ⟨b,o,none⟩=w.cell? ⟨b,o,none⟩)∧S' b):∀(ts:List Tr) (ys:List Ex),Tr.bJ w S ts ys→Tr.bJ w' S' ts ys
 | [],ys,h=>by unfold Tr.bJ at h ⊢;exact h
 | t::ts,ys,h=>by unfold Tr.bJ at h ⊢;obtain⟨y,ys',h1,h2,h3⟩:=h;exact⟨y,ys',h1,Tr.at_.keep hk t y h2,Tr.bJ.keep hk ts ys' h3⟩
end
theorem Tr.bJ.length {w:World} {S:Nat→Prop}:∀ {ts:List Tr} {ys:List Ex},Tr.bJ w S ts ys→ys.length=ts.length
 | [],ys,h=>by unfold Tr.bJ at h;subst h;rfl
 | t::ts,ys,h=>by unfold Tr.bJ at h;obtain⟨y,ys',rfl,_,h3⟩:=h;simp[Tr.bJ.length h3]
def Old (w:World):Nat→Prop:=fun b=>b < w.heap.size
theorem PV.old {w:World} {A:Option Addr} {l:List Ex}(h:PV w (Old w) A l):RE w w.heap.size A l:=h
theorem Tr.at_.later {w w':World} {t:Tr} {y:Ex}(h:t.at_ w (Old w) y)(hb:Below w.heap.size w w'):t.at_ w' (Old w') y:=
 Tr.at_.keep (fun b hS=>⟨fun o=>hb.cell (p:=⟨b,o,none⟩) hS,Nat.lt_of_lt_of_le hS hb.size⟩) t y h
theorem Tr.bJ.later {w w':World} {ts:List Tr} {ys:List Ex}(h:Tr.bJ w (Old w) ts ys)(hb:Below w.heap.size w w'):Tr.bJ w' (Old w') ts ys:=
 Tr.bJ.keep (fun b hS=>⟨fun o=>hb.cell (p:=⟨b,o,none⟩) hS,Nat.lt_of_lt_of_le hS hb.size⟩) ts ys h
mutual
def Tr.ok:Tr→Prop
 | .mk op v name width args=>v.Ok∧args.length≤1599289640356∧(0≤op∧op≤255)∧(-9223372036854775808≤width∧width≤9223372036854775807)∧(0≤v.k∧v.k≤255)∧Tr.iO args
def Tr.iO:List Tr→Prop
 | []=>True
 | t::ts=>t.ok∧Tr.iO ts
end
structure ik where
 name:ByteArray
 t:Int
def si (w:World)(b off:Nat)(x:ik):Prop:=w.cell? ⟨b,off,none⟩=some (.string x.name)∧w.cell? ⟨b,off+1,none⟩=some (.int .u8 x.t)
theorem si.keep {w w':World} {b off:Nat} {x:ik}(h:si w b off x)(hk:∀o,w'.cell? ⟨b,o,none⟩=w.cell? ⟨b,o,none⟩):si w' b off x:=by unfold si at*;simp only[hk];exact h
def RC (w:World)(B:Nat)(A:Option Addr)(l:List ik):Prop:=
 l=[]∨∃b off,A=some ⟨b,off,none⟩∧b < B∧∀i x,l[i]?=some x→si w b (off+i*2) x
theorem RC.below {w w':World} {B:Nat} {A:Option Addr} {l:List ik}(h:RC w B A l)(hb:Below B w w'):RC w' B A l:=by
 rcases h with h |⟨b,off,h1,h2,h3⟩
 ·exact .inl h
 ·exact .inr ⟨b,off,h1,h2,fun i x hx=>(h3 i x hx).keep fun o=>hb.cell (p:=⟨b,o,none⟩) h2⟩
theorem RC.more {w:World} {B B':Nat} {A:Option Addr} {l:List ik}(h:RC w B A l)(hB:B≤B'):RC w B' A l:=by
 rcases h with h |⟨b,off,h1,h2,h3⟩
 ·exact .inl h
 ·exact .inr ⟨b,off,h1,by omega,h3⟩
theorem RC.later {w w':World} {A:Option Addr} {l:List ik}(h:RC w w.heap.size A l)(hb:Below w.heap.size w w'):RC w' w'.heap.size A l:=(h.below hb).more hb.size
theorem RC.at_ {w:World} {B:Nat} {A:Option Addr} {l:List ik}(h:RC w B A l) {k:Nat}(hk:k < l.length):∃b off,A=some ⟨b,off,none⟩∧b < B∧si w b (off+k*2) l[k]:=by
 rcases h with h |⟨b,off,h1,h2,h3⟩
 ·subst h;simp at hk
 ·exact⟨b,off,h1,h2,h3 k _ (List.getElem?_eq_getElem hk)⟩
theorem RV.later {w w':World} {A:Option Addr} {l:List Val}(h:RV w w.heap.size A l)(hb:Below w.heap.size w w'):RV w' w'.heap.size A l:=(h.below hb).more hb.size
def bE (name:ByteArray):List ik→Nat
 | []=>0
 | c::cs=>if (c.name.toList==name.toList)=true then 0 else bE name cs+1
def ko (name:ByteArray)(cols:List ik):Int:=if bE name cols < cols.length then bE name cols else -1
def qX (cols:List ik)(row:List Val)(name:ByteArray):Val×Int:=
 if bE name cols < cols.length∧bE name cols < row.length then
  (if good (row.getD (bE name cols) ah)=true then(row.getD (bE name cols) ah,0)else(ah,40))
 else(ah,41)
def ft:List (Val×Int)→Int
 | []=>0
 | r::rs=>if r.2≠0 then r.2 else ft rs
def iY (cols:List ik)(row:List Val)(x:Ex)(rs:List (Val×Int)):Val×Int:=
 if ft rs≠0 then(ah,ft rs)else if bc x≠0 then(ah,bc x)else if x.op=1 then(x.v,0)else if x.op=2 then qX cols row x.name else cn x.op x.width (rs.map (·.1))
mutual
def Tr.eval (cols:List ik)(row:List Val):Tr→Val×Int
 | .mk op v name width args=>iY cols row ⟨op,v,name,width,none,args.length,0⟩ (Tr.fx cols row args)
def Tr.fx (cols:List ik)(row:List Val):List Tr→List (Val×Int)
 | []=> []
 | t::ts=>t.eval cols row::Tr.fx cols row ts
end
theorem Tr.sj (cols:List ik)(row:List Val):∀ts,(Tr.fx cols row ts).length=ts.length
 | []=>by simp[Tr.fx]
 | t::ts=>by simp[Tr.fx,Tr.sj cols row ts]
theorem gM:ah.Ok:=⟨by decide,by decide⟩
theorem Ih (b:Bool):(aL b).Ok:=by cases b <;> exact⟨by decide,by decide⟩
theorem Ii (n:Int): -9223372036854775808≤wrap64 n∧wrap64 n≤9223372036854775807:=by unfold wrap64;omega
theorem wI {n:Int} {c:Bool}(h: -9223372036854775808≤n∧n≤9223372036854775807):(eT n c).1.Ok:=by
 cases c
 ·exact gM
 ·exact h
theorem UE {a b:Int}(ha: -9223372036854775808≤a∧a≤9223372036854775807): -9223372036854775808≤Int.tmod a b∧Int.tmod a b≤9223372036854775807:=by
 have h:(Int.tmod a b).natAbs≤a.natAbs:=by rw[Int.natAbs_tmod];exact Nat.mod_le _ _
 have h2:0≤a→0≤Int.tmod a b:=fun h=>Int.tmod_nonneg b h
 have h3:a≤0→Int.tmod a b≤0:=fun h=>by have:=Int.tmod_nonneg b (show 0≤ -a by omega);rw[Int.neg_tmod] at this;omega
 omega
theorem MD (s:Bool)(l:List Val):(js s l).Ok:=by unfold js;repeat (first | exact gM | exact Ih _ | split)
theorem Yq (k:Nat)(wd:Int)(l:List Val)(hl:∀v∈l,v.Ok):(wF k wd l).1.Ok:=by
 unfold wF;split;case h_7 a b=>unfold tJ;split;exact gM;exact wI (UE (hl a (by simp)))
 all_goals first
  | exact gM
  | exact Ih _
  | exact MD _ _
  | exact wI (Ii _)
  |(unfold tI;split;exact gM;exact wI (Ii _))
theorem QF (op wd:Int)(l:List Val)(hl:∀v∈l,v.Ok):(cn op wd l).1.Ok:=by
 unfold cn;split
 ·exact gM
 ·split
  ·exact gM
  ·exact Yq _ _ _ hl
theorem UF (cols:List ik)(row:List Val)(name:ByteArray)(hr:∀v∈row,v.Ok):(qX cols row name).1.Ok:=by
 unfold qX;split
 ·rename_i h;split
  ·rw[List.getD_eq_getElem?_getD,List.getElem?_eq_getElem h.2];exact hr _ (List.getElem_mem h.2)
  ·exact gM
 ·exact gM
mutual
theorem Tr.QG (cols:List ik)(row:List Val)(hr:∀v∈row,v.Ok):∀t:Tr,t.ok→(t.eval cols row).1.Ok
 | .mk op v name width args,h=>by
   unfold Tr.ok at h;unfold Tr.eval iY;have ha:=Tr.wJ cols row hr args h.2.2.2.2.2;split
   ·exact gM
   ·split
    ·exact gM
    ·split
     ·exact h.1
     ·split
      ·exact UF _ _ _ hr
      ·refine QF _ _ _ fun u hu=>?_
       obtain⟨z,hz,rfl⟩:=List.mem_map.1 hu;exact ha z hz
theorem Tr.wJ (cols:List ik)(row:List Val)(hr:∀v∈row,v.Ok):∀ts:List Tr,Tr.iO ts→∀z∈Tr.fx cols row ts,z.1.Ok
 | [],_,z,hz=>by simp[Tr.fx] at hz
 | t::ts,h,z,hz=>by
   unfold Tr.iO at h;unfold Tr.fx at hz;rcases List.mem_cons.1 hz with rfl | hz
   ·exact Tr.QG cols row hr t h.1
   ·exact Tr.wJ cols row hr ts h.2 z hz
end
theorem uI:∀(l:List (Ex×(Val×Int))),(∀a∈l,a.2.2=0)∨∃pre bad post,l=pre++bad::post∧(∀a∈pre,a.2.2=0)∧bad.2.2≠0
 | []=> .inl (by simp)
 | a::l=>by
   by_cases h:a.2.2=0
   ·rcases uI l with h1 |⟨pre,bad,post,h1,h2,h3⟩
    ·exact .inl (by intro x hx;rcases List.mem_cons.1 hx with rfl | hx;exact h;exact h1 x hx)
    ·refine .inr ⟨a::pre,bad,post,by rw[h1];rfl,?_,h3⟩;intro x hx;rcases List.mem_cons.1 hx with rfl | hx
     ·exact h
     ·exact h2 x hx
   ·exact .inr ⟨[],a,l,rfl,by simp,h⟩
theorem uJ:∀ {l:List (Val×Int)},(∀a∈l,a.2=0)→ft l=0
 | [],_=>rfl
 | a::l,h=>by unfold ft;rw[if_neg (by simp[h a (by simp)])];exact uJ fun x hx=>h x (by simp[hx])
theorem zK:∀ {pre post:List (Val×Int)} {bad:Val×Int},(∀a∈pre,a.2=0)→bad.2≠0→ft (pre++bad::post)=bad.2
 | [],post,bad,_,hb=>by unfold ft;simp[hb]
 | a::pre,post,bad,h,hb=>by show ft (a::(pre++bad::post))=_;unfold ft;rw[if_neg (by simp[h a (by simp)])];exact zK (fun x hx=>h x (by simp[hx])) hb
theorem FC (x:ik)(name:ByteArray)(g:Nat)(w:World)(hg:ag w g 9 #[.string name]):
  Calls Tryz.prog 69 #[.agg #[.string x.name,.int .u8 x.t],.pointer (some ⟨g,0,none⟩)] w fun e w'=>e=.returned (.bool (x.name.toList==name.toList))∧Below w.heap.size w w':=by
 have c0:=(hg.alloc (.cells #[.string x.name,.int .u8 x.t] 43)).cell 0;simp only[List.getElem?_toArray,List.getElem?_cons_zero] at c0;go_enter Tryz.func69,Tryz.ntmps69;go_wp2_with fail;go_ret;exact⟨rfl,by go_grown⟩
theorem zL {name:ByteArray} {c:ik} {cs:List ik}(h:(c.name.toList==name.toList)=false):bE name (c::cs)=bE name cs+1:=by show(if (c.name.toList==name.toList)=true then 0 else bE name cs+1)=_;rw[if_neg (by rw[h];simp)]
theorem wK {name:ByteArray} {c:ik} {cs:List ik}(h:(c.name.toList==name.toList)=true):bE name (c::cs)=0:=by show(if (c.name.toList==name.toList)=true then 0 else bE name cs+1)=_;rw[if_pos h]
theorem cJ {α:Type} {l:List α} {k:Nat}(h:k < l.length):l.drop k=l[k]::l.drop (k+1):=List.drop_eq_getElem_cons h
theorem Bc (cols:List ik)(CA:Option Addr)(cc:Nat)(name:ByteArray)(g:Nat)(w:World)(hC:RC w w.heap.size CA cols)(hg:ag w g 9 #[.string name])(hl:cols.length≤140737488355328):
  Calls Tryz.prog 68 #[.slice CA cols.length cc,.func (.func 69) #[] #[.pointer (some ⟨g,0,none⟩)]] w fun e w'=>e=.returned (.int .i64 (ko name cols))∧Below w.heap.size w w':=by
 have HC:=hid hC;clear hC;go_enter Tryz.func68,Tryz.ntmps68;go_wp2_with fail;go_loopw [5,8] (fun _ i wr=>∃k:Nat,k≤cols.length∧i=.int .i64 k∧bE name cols=k+bE name (cols.drop k)∧Below w.heap.size w wr) (fun _ i _=>cols.length - (intOf i).toNat);case atStart=>exact⟨0,Nat.zero_le _,rfl,by simp,Below.refl _ _⟩
 case round=>
  obtain⟨k,hk,rfl,hp,hb⟩:=hrel;have HP:=hid hp;clear hp;by_cases hlt:k < cols.length
  ·obtain⟨b,off,rfl,Fe,QH⟩:=(HC.out.below hb).at_ hlt;have HD:=hid (cJ hlt);generalize cols[k]=x at*;unfold si at QH;have hg2:=hg.later hb;go_wp2_with fail;refine(FC x name g _ hg2).mono ?_;rintro e w1 ⟨rfl,b1⟩;have hb1:=ae.then hb b1
   clear QH hg2 b1 hb;cases hm:(x.name.toList==name.toList)
   ·go_wp2_with fail;go_roundw;case rel=>refine⟨k+1,by omega,by go_num,?_,hb1⟩;rw[HP.out,HD.out,zL hm];omega
    case measure=>simp[intOf];omega
   ·go_wp2_with fail;go_ret;refine⟨?_,hb1⟩;have L8:bE name cols=k:=by rw[HP.out,HD.out,wK hm];omega
    unfold ko;rw[L8,if_pos hlt];rfl
  ·go_wp2_with fail;go_ret;refine⟨?_,hb⟩;have L8:bE name cols=cols.length:=by rw[HP.out,List.drop_eq_nil_of_le (by omega)];unfold bE;omega
   unfold ko;rw[L8,if_neg (by omega)];rfl
theorem zM (cols:List ik)(CA:Option Addr)(cc:Nat)(name:ByteArray)(w:World)(hC:RC w w.heap.size CA cols)(hl:cols.length≤140737488355328):
  Calls Tryz.prog 43 #[.slice CA cols.length cc,.string name] w fun e w'=>e=.returned (.int .i64 (ko name cols))∧Below w.heap.size w w':=by
 have bb:=aa w (.cells #[.string name] 9);have hg:=ag.new w 9 #[.string name];have hC2:=hid (hC.later bb);clear hC;go_enter Tryz.func43,Tryz.ntmps43;go_wp2_with fail;refine(Bc cols CA cc name w.heap.size _ hC2.out hg hl).mono ?_;rintro e w1 ⟨rfl,b1⟩;have hb:=ae.then bb b1
 clear b1 bb hg;go_wp2_with fail;go_ret;exact⟨rfl,hb⟩
end Go.Proofs.YtfmbcoeallmnnaaGreatDoor
