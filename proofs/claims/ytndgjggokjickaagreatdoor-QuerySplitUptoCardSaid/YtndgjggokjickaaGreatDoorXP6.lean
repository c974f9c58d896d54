/- Parts of the proof. -/
import Derived.Deep.Strs
import Derived.Test.YtndgjggokjickaaGreatDoorXP5
namespace Go.Proofs.YtndgjggokjickaaGreatDoor
open _root_.Go.Proofs.Tryz
variable{p:Sort _}
set_option maxHeartbeats 90000000
set_option maxRecDepth 100000
open Go.ChangeShapes Go.WideShapes Go.ChangeAt Go.RowKit List
set_option linter.unusedVariables false
set_option linter.unusedSimpArgs false
section
variable{c:PC}{w0 w w1:t_}{gp g2 g4 g5 D:Nat}{qc:x_}{r:Rest}{u v:Value}{ya:v_}{s:dE}{hd:List aZ}{yi yh yo:v_}{ti th eP:vI}
theorem cW.SR(h:cW c w0 gp g2 qc g4 g5 D r w u v ya s hd yi yh yo ti th eP){t:Tr}{y:Ex}{a b:Value}{Gd:aZ}{s7 Ge:Option Value}(hl:Lg gp w0.heap.size w (c.cells r u v) r.i r.h yi y hd Gd (some r.i) s7 (some a) Ge (some b) true w1)(ht:t.at_ w (ug w gp (PR u v r)) y):
  cW c w0 gp g2 qc g4 g5 D {r with h:=b,i:=a} (w1.setCell ⟨gp,12,none⟩ b) u v ya s (hd++[Gd]) (yi++[y]) yh yo (ti++[t]) th eP:=by
 have kJ:aB w1 gp 81 ((c.cells r u v).setIfInBounds 13 a):=hl.blk;have hi:aH bH 46 7 w1 w0.heap.size a (yi++[y]):=hl.items;have hh:aH aU 113 2 w1 w0.heap.size b (hd++[Gd]):=hl.head;have hf:=λ k (hk:k≠gp)=>Below.heap_setCell w1 ⟨gp,12,none⟩ b k hk;have Ib:aH bH 46 7 (w1.setCell ⟨gp,12,none⟩ b) w0.heap.size a (yi++[y]):=hi.keep λ g hg2=>hf g λ e=>hi.other kJ Tab Tal;have hh2:aH aU 113 2 (w1.setCell ⟨gp,12,none⟩ b) w0.heap.size b (hd++[Gd]):=hh.keep λ g hg2=>hf g λ e=>hh.other kJ Tab Tal;have hb2:aB (w1.setCell ⟨gp,12,none⟩ b) gp 81 (c.cells {r with h:=b,i:=a} u v):=kJ.aW 12 b;have hab:∀q,a.ownBlock=some q->b.ownBlock≠some q:=λ q h1 h2=>by obtain⟨_,_,_,e1⟩:=hi.lt h1;obtain⟨_,_,_,e2⟩:=hh.lt h2;rw[e1]at e2;injection e2 with e2;injection e2 with _ e2 _;exact absurd e2 Tab
 have p:Eo w0 gp (PR u v r) (PR u v {r with h:=b,i:=a}) (λ i=>i=2\/i=3) w (w1.setCell ⟨gp,12,none⟩ b):=by
  refine⟨hl.os,hl.tape,hl.output,by rw[World.size_setCell];exact hl.size,λ k h1 h2 h3=>(hf k h2).trans (hl.far k h1 h2 (h3 3 WC (.inr rfl)) (h3 2 WC (.inl rfl))),?_,?_,?_,?_⟩
  ·intro i hi hT
   match i with
   |0|1|4|5=>rfl
   |2=>exact absurd (.inl rfl) hT
   |3=>exact absurd (.inr rfl) hT
   |n+6=>omega
  ·intro i hi hT;rcases hT with rfl|rfl
   ·exact hl.mvh
   exact hl.mvi
  ·intro i hi j hj hT hU kE q h1 h2;rcases hT with rfl|rfl<;>rcases hU with rfl|rfl
   ·exact kE rfl
   exact hab q h2 h1;exact hab q h1 h2;exact kE rfl
  intro i hi hT q hq;rcases hT with rfl|rfl;have hq:b.ownBlock=some q:=hq;exact⟨(hh2.lt hq).2.1,(hh2.lt hq).1,λ e=>hh2.other hb2 Tab (by rw[hq,e])⟩;have hq:a.ownBlock=some q:=hq;exact⟨(Ib.lt hq).2.1,(Ib.lt hq).1,λ e=>Ib.other hb2 Tab (by rw[hq,e])⟩
 have hT:=p.trees (ts:=[t]) (ys:=[y]) (Tr.gw ht);exact⟨h.f.step p,hb2,p.own h.f (i:=0) WC WC h.o0,p.own h.f (i:=1) WC WC h.o1,hh2,Ib,p.own h.f (i:=4) WC WC h.o4,p.own h.f (i:=5) WC WC h.o5,h.aD,Tr.all_append (p.trees h.t3) hT,p.trees h.t4,p.trees h.t5⟩
theorem cW.arx{w':t_}{u' v':Value}{rE:v_}{s':dE}(h:cW c w0 gp g2 qc g4 g5 D r w u v ya s hd yi yh yo ti th eP)(hs:ik gp w u v w' u' v')(hp:eU c w0 gp r w' u' v' rE s'){t:Tr}{y:Ex}(ht:t.at_ w' (λ b=>(b<w0.heap.size\/w.heap.size<=b)/\Kp w' gp [u',v'] b) y):t.at_ w' (λ b=>ug w' gp (PR u' v' r) b/\(b<w0.heap.size\/w.heap.size<=b)/\Kp w' gp [u',v'] b) y:=by have p:=(h.call hs hp).f;refine Tr.at_.keep (λ b hb=>⟨λ _=>rfl,⟨hb.2.1,hb.2.2.1,λ i hi e=>?_⟩,hb⟩) t y ht;exact Zco
theorem Eo.SU{R R':Nat->Value}{T:Nat->Prop}{w':t_}{q:Nat}(p:Eo w0 gp R R' T w w'){ts:vI}{ys:v_}(h:Tr.aO w (λ b=>ug w gp R b/\b≠q) ts ys):Tr.aO w' (λ b=>ug w' gp R' b/\b≠q) ts ys:=Tr.aO.keep (λ b hb=>⟨λ o=>bI (p.keep hb.1) o,p.kp hb.1,hb.2⟩) ts ys h
theorem cW.aside(h:cW c w0 gp g2 qc g4 g5 D r w u v ya s hd yi [] [] ti [] []){q:Nat}(hg:w.grownBy w1 (some q))(hl:w0.heap.size<=q)(hk:ug w gp (PR u v r) q)(hn:q≠g2/\q≠g4/\q≠g5/\q≠D)(ht:Tr.aO w (λ b=>ug w gp (PR u v r) b/\b≠q) ti yi):cW c w0 gp g2 qc g4 g5 D r w1 u v ya s hd yi [] [] ti [] []:=by have hb:=λ b (h1:b<w.heap.size) (h2:b≠q)=>hg.block b h1 (λ e=>by injection e with e;exact h2 e);have hkp:∀b,ug w gp (PR u v r) b->ug w1 gp (PR u v r) b:=λ b k=>⟨eS k.1 hg.size,k.2⟩;have hf:=h.f;have ho:∀{α:Type}{f:α->xr}{e:TypeId}{size base:Nat}{l:List α}{x:Value},aH f e size w base x l->x.ownBlock≠some q->aH f e size w1 base x l:=λ o hx=>o.grown hg hx;refine⟨⟨hf.low,eS hf.lt hg.size,Below.trans hf.base (zH hg hf.base.size hl),λ i hi b hb=>⟨(hf.rows i hi b hb).1,eS (hf.rows i hi b hb).2.1 hg.size,(hf.rows i hi b hb).2.2⟩,hf.ap,hkp _ hf.k2,hkp _ hf.k4,hkp _ hf.k5,hkp _ hf.kD,hf.new,(hb D hf.kD.1 (Ne.symm hn.2.2.2)).trans hf.dd,(hb g2 hf.k2.1 (Ne.symm hn.1)).trans hf.z2,(hb g4 hf.k4.1 (Ne.symm hn.2.1)).trans hf.z4,(hb g5 hf.k5.1 (Ne.symm hn.2.2.1)).trans hf.z5⟩,(hb gp hf.lt (Ne.symm hk.2.1)).trans h.blk,ho h.o0 (hk.2.2 0 WC),ho h.o1 (hk.2.2 1 WC),ho h.o2 (hk.2.2 2 WC),ho h.o3 (hk.2.2 3 WC),ho h.o4 (hk.2.2 4 WC),ho h.o5 (hk.2.2 5 WC),h.aD,Tr.aO.keep (λ b k=>⟨λ o=>bI (hb b k.1.1 k.2) o,hkp b k.1⟩) _ _ ht,?_,?_⟩;unfold Tr.aO;rfl;unfold Tr.aO;rfl
end
def II(g:Bool)(aG:vI)(cols:List aZ)(q:Qy)(s:dE):uC (vI×vI×dE):=
 match dt g aG cols q.fE s with
 |.error e=>.error e
 |.ok (hs,s2)=>match eF g aG cols q.ord s2 with
   |.error e=>.error e
   |.ok (os,s3)=>.ok (hs,os,s3)
def yl(g:Bool)(aG:vI)(cols:List aZ)(q:Qy)(s:dE):uC (vI×List aZ×vI×vI×dE):=
 match dr g aG cols q.items s with
 |.error e=>.error e
 |.ok (is,hd,s1)=>match II g aG cols q s1 with
   |.error e=>.error e
   |.ok (hs,os,s3)=>.ok (is,hd,hs,os,s3)
def AD(l:vI)(m:List aZ):uC (vI×List aZ×dE)->uC (vI×List aZ×dE)
 |.error e=>.error e
 |.ok (ys,hd,s)=>.ok (l++ys,m++hd,s)
theorem XX(x:uC (vI×List aZ×dE)):AD [] [] x=x:=by exact Zh4
variable{x':uC (vI×List aZ×dE)}
theorem SV(l:vI)(m:List aZ)(y:Tr)(cl:aZ){x:uC (vI×List aZ×dE)}(h:x'=(match x with|.error e=>.error e|.ok (ys,hd,s)=>.ok (y::ys,cl::hd,s))):AD l m x'=AD (l++[y]) (m++[cl]) x:=by
 rw[h];cases x with
 |error e=>rfl
 |ok p=>obtain⟨ys,hd,s⟩:=p;show Except.ok (l++y::ys,m++cl::hd,s)=Except.ok ((l++[y])++ys,(m++[cl])++hd,s);rw[append_assoc,append_assoc];rfl
variable{S:Nat->Prop}
theorem aan{w:t_}{t:Tr}{x:Ex}(h:t.at_ w S x):x.op=t.op/\x.name=t.name:=by
 cases t with
 |mk op v name width args=>unfold Tr.at_ at h;exact⟨h.1,h.2.2.1⟩
theorem OL{b:u_}(h:b.toList=[]):b.size=0:=by
 unfold ByteArray.toList ByteArray.toList.loop at h;split at h
 ·exfalso
  have:∀i r,(ByteArray.toList.loop b i r).length≥r.length:=by
   intro i r
   fun_induction ByteArray.toList.loop b i r with
   |case1 i r hi ih=>simp at ih;omega
   |case2=>simp
  have h2:=this 1 [b.get! 0];rw[h]at h2;simp at h2
 omega
theorem aao:(⟨#[]⟩:u_).toList=[]:=by unfold ByteArray.toList ByteArray.toList.loop;rfl
theorem arz{b:u_}(h:b.size=0):b=⟨#[]⟩:=by
 cases b with
 |mk d=>have h:d.size=0:=h;rw[Array.eq_empty_of_size_eq_zero h]
def zbT.Kak(h:p:=by go_wp2_with fail;exact HE.ae er _ _ (by unfold yl;rw[<-HB.ae,pC.ae]) oD.ae ⟨rfl,rfl,rfl⟩ HW.ae):=h
def zfr.Kbg(h:p:=by go_upto_region 31 with fail;generalize w6.alloc (.cells (ay Kx) 46)=WD at*;obtain⟨_,_,_,vS,_,_,b4,b5,_⟩:=HW.ae;open zbT in exact ZaF):=h
def zfu.Kbh(h:p:=by
 have Bv:=aa Xz;clear Xz;have uy:aB WD g16 48 #[ag x.op,ag x.v.k,af x.v.n,.string x.v.s,.string x.name,af x.width,.slice x.A x.n x.c,.string nm]:=DB.ae;have z0:=uy.cell 0;have x4:=uy.cell 4;have x7:=uy.cell 7;have fx:=uy.frozen;simp only[Uaa]at z0 x4 x7;clear uy;go_wp2_with fail
 ·rename_i jw hop;have arD:nm.size=0:=OL jw;have zv:=aa (show X=AD (ti++[t2]) (kF++[⟨x.name,ty⟩]) (dr c.aJ c.aG c.cols (q.items.drop (k+1)) s2) by
   rw[Gc.ae];have h2:t.op=2:=by rw[<-(aan yE.ae).1];exact of_decide_eq_true hop
   rw[show iD t nm=x.name by unfold iD;rw[if_pos ⟨arD,h2⟩,(aan yE.ae).2]])
  clear Gc jw hop arD;have hg:=aF (aQ (Below.refl WD.heap.size WD):WD.grownBy WD (some g16)) 7 (.string x.name);have K1:=aa (tZ.ae.aside hg akz.ae.1 Oj.ae akz.ae.2 HT7.ae);have kJ:∀b,b<WD.heap.size->b≠g16->(WD.setCell ⟨g16,7,none⟩ (.string x.name)).heap[b]?=WD.heap[b]?:=λ b h1 h2=>hg.block b h1 (λ e=>by injection e with e;exact h2 e);have zu:=aa (show Tr.aO (WD.setCell ⟨g16,7,none⟩ (.string x.name)) (ug (WD.setCell ⟨g16,7,none⟩ (.string x.name)) gp (PR u' v' {r with h:=rh,i:=ri})) [t2] [Kx] from Tr.aO.keep (λ b Lw=>⟨λ o=>bI (kJ b Lw.1.1 Lw.2) o,eS Lw.1.1 hg.size,Lw.1.2⟩) _ _ afh.ae);have HYB:=aa (show aB (WD.setCell ⟨g16,7,none⟩ (.string x.name)) gY 46 (bH Kx).toArray from(kJ gY Vg.ae.1 (Ne.symm YY.ae)).trans PD.ae);have Za:=aa (show ug (WD.setCell ⟨g16,7,none⟩ (.string x.name)) gp (PR u' v' {r with h:=rh,i:=ri}) g16 from⟨eS Oj.ae.1 hg.size,Oj.ae.2⟩);have YN:=aa (show ug (WD.setCell ⟨g16,7,none⟩ (.string x.name)) gp (PR u' v' {r with h:=rh,i:=ri}) gY from⟨eS Vg.ae.1 hg.size,Vg.ae.2⟩);have rb:=aa (show(WD.setCell ⟨g16,7,none⟩ (.string x.name)).cell? ⟨g16,7,none⟩=some (.string x.name) by have uy:aB WD g16 48 #[ag x.op,ag x.v.k,af x.v.n,.string x.v.s,.string x.name,af x.width,.slice x.A x.n x.c,.string nm]:=DB.ae;rw[(uy.aW 7 (.string x.name)).cell];rfl)
  clear tZ IH PD HT7 afh fx z0 x4 x7 DB Oj Vg kJ hg;generalize World.setCell WD _ _=WB at*;have HOi:=aa K1.ae.o3;have HOh:=aa K1.ae.o2;have HLi:=aa (show yi.length<=1000000 by have:=HFN.ae;have:=rL.ae;have:=XE.ae;have:=Bv.ae;omega);have HLh:=aa (show(hd++kF).length<=1000000 by have:=HK.ae;have:=HFN.ae;have:=rL.ae;have:=XE.ae;rw[length_append];omega);have key:=λ(T:x_) (hT:T.size=252) e0 e1 e2 e3 (Q2:y_) hf=>ET (T:=T) (d:=d) (Q:=Q2) (gp:=gp) (B:=w0.heap.size) (gY:=gY) (g16:=g16) (W:=WB) (cs:=c.cells {r with h:=rh,i:=ri} u' v') (ri:=ri) (rh:=rh) (yi:=yi) (y:=Kx) (hd:=hd++kF) (nm:=x.name) (ty:=ty) hT e0 e1 e2 e3 rfl rfl K1.ae.f.base.size K1.ae.blk HOi.ae HOh.ae HLi.ae HLh.ae HYB.ae YN.ae.2.1 (YN.ae.2.2 3 WC) (YN.ae.2.2 2 WC) rb.ae Za.ae.1 Za.ae.2.1 (Za.ae.2.2 3 WC) (Za.ae.2.2 2 WC) hf;simp only[ES,bK,eC,f28,Option.getD_some,tx,Nat.reduceEqDiff,if_true,if_false]at key;refine key _ ?_ ?_ ?_ ?_ ?_ _ ?_;rfl;rfl;rfl;rfl;rfl;clear key;intro aeP aeQ z167 z168 aeR aeS z171 aeT z173 aeU z175 aeV aeW aeX aeY aeZ afa z182 z183 afb afc afd afe w8 a b9 s7 Ge BD;simp only[Uac];have HP8:=aa (K1.ae.SR BD (np zu.ae));clear BD K1 HYB rb zu HOi HOh;generalize World.setCell w8 _ _=Px at*;have hk7:k<1000000:=by have:=HFN.ae;have:=XE.ae;omega
  go_wp2_with fail;go_roundw;case rel=>exact⟨k+1,b9,a,u',v',T7,yi++[Kx],s2,ti++[t2],kF++[⟨x.name,ty⟩],hlt,by go_num,by have h:=HP8.ae;rw[append_assoc]at h;exact h,zv.ae,by have:=Az.ae;have:=HND.ae;have:=EP.ae;omega,by rw[length_append,rL.ae.1];rfl,by rw[length_append,rL.ae.2];rfl⟩
  case measure=>exact Za2
 ·rename_i jw hop;have zv:=aa (show X=AD (ti++[t2]) (kF++[⟨nm,ty⟩]) (dr c.aJ c.aG c.cols (q.items.drop (k+1)) s2) by
   rw[Gc.ae];have h2:¬t.op=2:=by rw[<-(aan yE.ae).1];exact of_decide_eq_false hop
   rw[show iD t nm=nm by unfold iD;rw[if_neg (λ h=>h2 h.2)]])
  clear Gc jw hop;exact Zao
 rename_i jw;have zv:=aa (show X=AD (ti++[t2]) (kF++[⟨nm,ty⟩]) (dr c.aJ c.aG c.cols (q.items.drop (k+1)) s2) by rw[Gc.ae];rw[show iD t nm=nm by unfold iD;rw[if_neg (λ h=>jw (by rw[arz h.1];exact aao))]])
 clear Gc jw;exact Zao):=h
def zd3.KaN(h:p:=by
 go_wp2_with fail;clear z0 z1 x2 x3 x4 x5 x6;refine(Ek c w0 gp {r with h:=rh,i:=ri} t x s1 u1 v1 KL W2 iT.ae lq.ae yE.ae ry.ae.ps TaQ).mono ?_;intro e w6 hp;have wA:=aa (mr c.aJ c.aG c.cols t s1);cases hr:pZ c.aJ c.aG c.cols t s1 with
 |error er=>
   open zfr in exact ZdA
 |ok p=>
   obtain⟨t2,ty,s2⟩:=p;have akA:=wh.ae;rw[hr]at hp wA akA;obtain⟨Kx,u',v',T7,rfl,vJ,qK,hst⟩:=hp;have tu:=ry.ae.call hst qK;have XW:=ry.ae.tree hst qK vJ;have pd:=ry.ae.stp hst qK;have arC:t2.at_ w6 (λ b=>ug w6 gp (PR u' v' {r with h:=rh,i:=ri}) b/\(b<w0.heap.size\/W2.heap.size<=b)/\Kp w6 gp [u',v'] b) Kx:=cW.arx ry.ae hst qK vJ;have bg:=ah w6 (.cells (ay Kx) 46);have Zh:=aB.new w6 46 (ay Kx);have tZ:=aa (tu.later bg);have hpl:=Eo.later (w0:=w0) (gp:=gp) (R:=PR u' v' {r with h:=rh,i:=ri}) bg;have IH:=aa (hpl.trees (Tr.gw XW));have HT7:=aa (hpl.SU (pd.SU arA.ae));have afh:=aa (show Tr.aO (w6.alloc (.cells (ay Kx) 46)) (λ b=>ug (w6.alloc (.cells (ay Kx) 46)) gp (PR u' v' {r with h:=rh,i:=ri}) b/\b≠g16) [t2] [Kx] from hpl.SU (Tr.gw (Tr.at_.keep (λ b Lw=>⟨λ _=>rfl,Lw.1,λ e=>by rcases Lw.2.1 with h|h;have:=akz.ae.1;omega;have:=XZ.ae.1;omega⟩) t2 Kx (arC))))
   have Oj:=aa (hpl.kp (pd.kp XZ.ae));have DB:=aa ((hpl.keep (pd.kp XZ.ae)).trans ((pd.keep XZ.ae).trans BW.ae));have Vg:=aa (show ug (w6.alloc (.cells (ay Kx) 46)) gp (PR u' v' {r with h:=rh,i:=ri}) w6.heap.size from⟨Zh.lt,by have:=tu.f.lt;omega,λ i hi e=>by have:=(tu.f.rows i hi _ e).2.1;omega⟩);have YY:=aa (show g16≠w6.heap.size from λ e=>by have:=(pd.kp XZ.ae).1;omega);have EP:=aa (wA.ae.len _ _ _ rfl);have Gc:=aa (show X=AD (ti++[t2]) (kF++[⟨iD t nm,ty⟩]) (dr c.aJ c.aG c.cols (q.items.drop (k+1)) s2) by rw[vK.ae,akA];exact SV ti kF t2 ⟨iD t nm,ty⟩ rfl)
   have Xz:=tu.t3.length;clear hr akA hst qK vJ arC tu XW bg wA wh vK ry pd hpl XZ BW arA;go_upto_region 31 with fail;open zfu in exact ZdB):=h
def zcN.Kav(h:p:=by
 have iJ:=aa Il;have HQN:=aa Pz;have ajL:=aa lQ;have HB:=aa hqk;have XE:=aa fE;have Ae:=aa hP;have b2:=hP.f.z2;unfold ft at b2;have z6:=b2.cell 0;simp only[Uaa]at z6;rw[hn,<-fE]at z6;clear hE Bi Ui qT hfn hz hS hw hl hh M7 hJ Pk Il Pz lQ hqk hP b2 hn fE;simp only[bK,eC,f28,Option.getD_some];go_wp2_with fail;clear z6;go_loopw [137] (λ i wr=>∃(k:Nat) (rh ri u1 v1:Value) (KL yi:v_) (s1:dE) (ti:vI) (kF:List aZ),k<=zs.length/\i=af k/\cW c w0 gp g2 (ft q L) g4 g5 D {r with h:=rh,i:=ri} wr u1 v1 KL s1 (hd++kF) yi [] [] ti [] []/\X=AD ti kF (dr c.aJ c.aG c.cols (q.items.drop k) s1)/\s1.aG.length+s1.aD.length+2*Tr.aP ((q.items.map (·.1)).drop k)+(2*Tr.aP q.fE+2*Tr.aP (q.ord.map (·.1)))<=1000000/\ti.length=k/\kF.length=k) (λ i _=>zs.length-(intOf i).toNat);case atStart=>exact⟨0,r.h,r.i,u,v,ya,[],s,[],[],gE,rfl,by rw[append_nil];exact Ae.ae,by rw[drop_zero,XX];exact HB.ae,by rw[drop_zero];exact ajL.ae,rfl,rfl⟩
 case round=>
  rename_i K hK;clear Ae;obtain⟨k,rh,ri,u1,v1,KL,yi,s1,ti,kF,hk,rfl,hP,Vf,lQ,UQ,hhl⟩:=hrel;have vK:=aa Vf;have Az:=aa lQ;have Ae:=aa hP;have rL:=aa (And.intro UQ hhl);clear Vf lQ hP UQ hhl;by_cases hlt:k<zs.length
  ·have fW:k<q.items.length:=by rw[<-XE.ae];exact hlt
   obtain⟨b,off,hA,Dx,hcell⟩:∃b off,L.i.A=some ⟨b,off,none⟩/\b<w0.heap.size/\cC w0 b (off+k*8) zs[k].1/\w0.cell? ⟨b,off+k*8+7,none⟩=some zs[k].2:=by rcases HJ.ae with h|⟨b,off,h1,h2,h3⟩;exact ZgN;exact ZeW
   have hb8:zs[k].2=.string (q.items[k]'fW).2:=by have h1:=congrArg (λ l=>l[k]?) pE.ae;simp only[getElem?_map,getElem?_eq_getElem hlt,getElem?_eq_getElem fW,Option.map_some]at h1;injection h1
   have sR:(q.items[k]'fW).1.at_ w0 (Old w0) zs[k].1:=by
    have hl2:k <((q.items.map λ x=>(x.1,Value.string x.2)).map (·.1)).length:=by simpa using fW
    obtain⟨Kx,h1,h2⟩:=qJ hl2 iJ.ae;exact ZfU
   have gL:(q.items[k]'fW).1.ok:=dP.1 Nj.ae _ (mem_map_of_mem (getElem_mem fW));have Po:Tr.aP ((q.items.map (·.1)).drop k)=(q.items[k]'fW).1.nodes+Tr.aP ((q.items.map (·.1)).drop (k+1)):=by have h1:=vR (ts:=q.items.map (·.1)) (k:=k) (by simpa using fW);simpa using h1
   have hdr:dr c.aJ c.aG c.cols (q.items.drop k) s1=(match pZ c.aJ c.aG c.cols (q.items[k]'fW).1 s1 with
     |.error e=>.error e
     |.ok (Kx,k2,s')=>match dr c.aJ c.aG c.cols (q.items.drop (k+1)) s' with
       |.error e=>.error e
       |.ok (ys,hd,MP)=>.ok (Kx::ys,⟨iD (q.items[k]'fW).1 (q.items[k]'fW).2,k2⟩::hd,MP)):=by
    rw[drop_eq_getElem_cons fW];obtain⟨t,bb⟩:=q.items[k];rfl
   rw[hb8]at hcell;generalize zs[k].1=x at*;generalize (q.items[k]'fW).2=nm at*;generalize (q.items[k]'fW).1=t at*;obtain⟨hex,h7⟩:=hcell;have ja:=hex.keep (λ o=>Ae.ae.f.base.cell (p:=⟨b,o,none⟩) Dx);have h72:=(Ae.ae.f.base.cell (p:=⟨b,off+k*8+7,none⟩) Dx).trans h7;unfold cC at ja;have yE:=aa sR;have lq:=aa gL;have HND:=aa Po;have wh:=aa hdr;have HAA:=aa hA;rw[hA];clear hex h7 sR gL Po hdr hA Dx hb8 fW;go_upto_region 30 with fail;clear ja h72;have hb:=aB.new wr 48 #[ag x.op,ag x.v.k,af x.v.n,.string x.v.s,.string x.name,af x.width,.slice x.A x.n x.c,.string nm];have afg:=ah wr (.cells #[ag x.op,ag x.v.k,af x.v.n,.string x.v.s,.string x.name,af x.width,.slice x.A x.n x.c,.string nm] 48);generalize wr.alloc (.cells #[ag x.op,ag x.v.k,af x.v.n,.string x.v.s,.string x.name,af x.width,.slice x.A x.n x.c,.string nm] 48)=W2 at*;have ry:=aa (Ae.ae.later afg);have XZ:=aa (show ug W2 gp (PR u1 v1 {r with h:=rh,i:=ri}) wr.heap.size from⟨hb.lt,by have:=Ae.ae.f.lt;omega,λ i hi e=>by have:=(Ae.ae.f.rows i hi _ e).2.1;omega⟩);have akz:=aa (show w0.heap.size<=wr.heap.size/\wr.heap.size≠g2/\wr.heap.size≠g4/\wr.heap.size≠g5/\wr.heap.size≠D from⟨Ae.ae.f.base.size,by have:=Ae.ae.f.k2.1;omega,by have:=Ae.ae.f.k4.1;omega,by have:=Ae.ae.f.k5.1;omega,by have:=Ae.ae.f.kD.1;omega⟩);have arA:=aa (show Tr.aO W2 (λ b=>ug W2 gp (PR u1 v1 {r with h:=rh,i:=ri}) b/\b≠wr.heap.size) ti yi from Tr.aO.keep (λ b Lw=>⟨λ o=>afg.cell (p:=⟨b,o,none⟩) Lw.1,⟨eS Lw.1 afg.size,Lw.2⟩,by have:=Lw.1;omega⟩) _ _ Ae.ae.t3);generalize wr.heap.size=g16 at*;clear Ae afg;open zd3 in exact Zcf
  have fX:k=zs.length:=by omega
  have HXO:=aa (show X=.ok (ti,kF,s1) by rw[vK.ae,fX,XE.ae,drop_length];show Except.ok (ti++[],kF++[],s1)=_;rw[append_nil,append_nil])
  have axB:(q.items.map (·.1)).drop k=[]:=drop_eq_nil_of_le (by have:=XE.ae;rw[length_map];omega);subst fX;have key:∀T:x_,T.size=252->T.getD 2 undef=aw g2->T.getD 4 undef=aw g4->T.getD 5 undef=aw g5->T.getD 6 undef=aw gp->(eC bK 8).wp prog Q {tmps:=T,defers:=d} wr:=λ T hT h2 h4 h5 h6=>
   SP c w0 gp g2 g4 g5 D q L {r with h:=rh,i:=ri} u1 v1 KL s1 (hd++kF) yi ti T hT h2 h4 h5 h6 d wr Q iT.ae HS.ae HO.ae HL.ae A1.ae A2.ae HQN.ae (by have:=Az.ae;rw[axB]at this;omega) Ae.ae
    (λ er a W he hne ha KK=>HE.ae er a W (by
      have h:II c.aJ c.aG c.cols q s1=.error er:=by
       unfold II;rcases he with he|⟨th,s',h1,h2⟩;rw[he];rw[h1]
       dsimp only
       rw[h2]
      unfold yl;rw[<-HB.ae,HXO.ae]
      dsimp only
      rw[h]) hne ha KK)
    (λ a W r' u' v' rE s2 s' yh yo th eP h1 h2 ha hp=>ox.ae a W r' u' v' rE s' kF yi yh yo ti th eP (by
      have h:II c.aJ c.aG c.cols q s1=.ok (th,eP,s'):=by
       unfold II;rw[h1]
       dsimp only
       rw[h2]
      unfold yl;rw[<-HB.ae,HXO.ae]
      dsimp only
      rw[h]) ha hp)
  exact Zcr):=h
def zeY.Ka4(h:p:=by
 obtain⟨hn,zs,hJ,Pk,Il⟩:=Tx;rw[length_map]at hn;have fE:zs.length=q.items.length:=by have:=congrArg List.length Pk;simpa using this
 obtain⟨X,hqk⟩:∃X,X=dr c.aJ c.aG c.cols q.items s:=⟨_,rfl⟩;have HE:=aa hE;open zcN in exact Zbf):=h
theorem XY(c:PC)(w0:t_)(gp g2 g4 g5 D:Nat)(q:Qy)(L:QL)(r:Rest)(u v:Value)(ya:v_)(s:dE)(hd:List aZ)(T:x_)(hT:T.size=252)
  (h2:T.getD 2 undef=aw g2) (h4:T.getD 4 undef=aw g4) (h5:T.getD 5 undef=aw g5) (h6:T.getD 6 undef=aw gp) (d:List Deferred) (w:t_) (Q:y_)
  (Ui:c.Ok w0) (qT:Tr.cO (q.items.map (·.1))) (Tx:fh w0 (q.items.map λ x=>(x.1,.string x.2)) L.i.A L.i.n) (hfn:q.items.length<=100000) (hz:hd.length<=100000)
  (hS:Tr.cO q.fE) (hw:ib w0 q.fE L.h.A L.h.n) (hl:q.fE.length<=1000000) (hh:Tr.cO (q.ord.map (·.1))) (M7:fh w0 (q.ord.map λ x=>(x.1,.bool x.2)) L.o.A L.o.n) (Pz:q.ord.length<=1000000) (lQ:s.aG.length+s.aD.length+2*Tr.aP (q.items.map (·.1))+(2*Tr.aP q.fE+2*Tr.aP (q.ord.map (·.1)))<=1000000)
  (hP:cW c w0 gp g2 (ft q L) g4 g5 D r w u v ya s hd [] [] [] [] [] [])
  (hE:∀er a W,yl c.aJ c.aG c.cols q s=.error er->er≠0->rG a d g4 g5->yj w0 g4 g5 D W->Q .ret a (jL W g4 g5 er))
  (Bi:∀a W r' u' v' rE s' wC yi yh yo ti th eP,yl c.aJ c.aG c.cols q s=.ok (ti,wC,th,eP,s')->rG a d g4 g5->cW c w0 gp g2 (ft q L) g4 g5 D r' W u' v' rE s' (hd++wC) yi yh yo ti th eP->Q .ret a (jT W g4 g5 gp)):
  (eC bK 7).wp prog Q {tmps:=T,defers:=d} w:=by
 open zeY in exact ZcS
variable{α:Type}{f:α->xr}{e:TypeId}
theorem px{size base:Nat}{w:t_}:aH f e size w base (az) []:=⟨by simp,.inl ⟨rfl,rfl⟩⟩
section
variable{c:PC}{w0 w:t_}{gp g2 g4 g5 D:Nat}{qc:x_}{r:Rest}{u v:Value}{ya:v_}{s:dE}{hd:List aZ}{yi yh yo:v_}{ti th eP:vI}
theorem cW.arH(h:cW c w0 gp g2 qc g4 g5 D r w u v ya s hd yi yh yo ti th eP):cW c w0 gp g2 qc g4 g5 D {r with h:=az} (w.setCell ⟨gp,12,none⟩ (az)) u v ya s [] yi yh yo ti th eP:=by
 have hf:=λ k (hk:k≠gp)=>Below.heap_setCell w ⟨gp,12,none⟩ (az) k hk;have p:Eo w0 gp (PR u v r) (PR u v {r with h:=az}) (λ i=>i=2) w (w.setCell ⟨gp,12,none⟩ (az)):=by
  refine⟨rfl,rfl,rfl,by rw[World.size_setCell];exact aE,λ k h1 h2 h3=>hf k h2,?_,?_,Zgh,?_⟩
  ·intro i hi hT
   match i with
   |0|1|3|4|5=>rfl
   |2=>exact absurd rfl hT
   |n+6=>omega
  intro i hi hT;subst hT;exact .inr λ q hq=>by cases hq
  intro i hi hT q hq;subst hT;cases hq
 exact⟨h.f.step p,h.blk.aW 12 _,p.own h.f (i:=0) WC WC h.o0,p.own h.f (i:=1) WC WC h.o1,px,p.own h.f (i:=3) WC WC h.o3,p.own h.f (i:=4) WC WC h.o4,p.own h.f (i:=5) WC WC h.o5,h.aD,p.trees h.t3,p.trees h.t4,p.trees h.t5⟩
end
def AE(g:Bool)(aG:vI)(cols:List aZ)(q:Qy)(s:dE):uC (vI×List aZ×vI×vI×dE):=if q.items=[]/\g=true then .error 42 else yl g aG cols q s
def zbU.Kak(h:p:=by go_wp2_with fail;exact HE.ae 42 _ _ HR.ae Tab ⟨rfl,rfl,rfl⟩ HW.ae):=h
def zeZ.Ka4(h:p:=by
 have key:∀(r':Rest) (Pn:List aZ) (w':t_),(q.items=[]->c.aJ=false)->Pn=(if q.items=[] then hd else [])->cW c w0 gp g2 (ft q L) g4 g5 D r' w' u v ya s Pn [] [] [] [] [] []->∀T:x_,T.size=252->T.getD 2 undef=aw g2->T.getD 4 undef=aw g4->T.getD 5 undef=aw g5->T.getD 6 undef=aw gp->(eC bK 7).wp prog Q {tmps:=T,defers:=d} w':=λ r' Pn w' hg e hp T hT h2 h4 h5 h6=>
  have hR:AE c.aJ c.aG c.cols q s=yl c.aJ c.aG c.cols q s:=if_neg λ h=>by have h1:=h.2;rw[hg h.1]at h1;cases h1
  XY c w0 gp g2 g4 g5 D q L r' u v ya s Pn T hT h2 h4 h5 h6 d w' Q bc hqi Tx Gf (by rw[e];split;exact hhd;exact gE) hqh hih ER Vd vw Ve hlen hp (λ er a W he=>hE er a W (hR.trans he)) (λ a W r' u' v' rE s' wC yi yh yo ti th eP he ha hp=>hO a W r' u' v' rE s' wC yi yh yo ti th eP (hR.trans he) ha (e▸hp))
 simp only[bK,eC,f28,Option.getD_some]at key;have b2:=hP.f.z2;have bg:=hP.blk;unfold ft at b2;unfold PC.cells at bg;have c0:=b2.cell 0;have c11:=bg.cell 11;have c12:=bg.cell 12;have f12:=bg.frozen 12;simp only[Uaa]at c0 c11 c12;have hn:L.i.n=q.items.length:=by rw[Tx.n,length_map]
 have arI:=hP.f.aah;have HP:=aa hP;have HE:=aa hE;have HW:=aa arI;have KEY:=aa key;rw[hn]at c0;clear hE hO bc hqi Tx hhd hqh hih ER Vd vw Ve hlen hP b2 bg hn arI key;simp only[bK,eC,f28,Option.getD_some];refine wp_seq_k λ K hK=>?_;have HK:=aa (show∀(r':Rest) (Pn:List aZ) (w':t_),(q.items=[]->c.aJ=false)->Pn=(if q.items=[] then hd else [])->cW c w0 gp g2 (ft q L) g4 g5 D r' w' u v ya s Pn [] [] [] [] [] []->∀T:x_,T.size=252->T.getD 2 undef=aw g2->T.getD 4 undef=aw g4->T.getD 5 undef=aw g5->T.getD 6 undef=aw gp->K {tmps:=T,defers:=d} w' from λ r' Pn w' h1 h2 h3 T a1 a2 a3 a4 a5=>hK _ _ (KEY.ae r' Pn w' h1 h2 h3 T a1 a2 a3 a4 a5));clear hK KEY;cases hi:q.items with
 |nil=>
   rw[hi]at c0;cases hg:c.aJ with
   |true=>rw[hg]at c11;have HR:=aa (show AE c.aJ c.aG c.cols q s=.error 42 from if_pos ⟨hi,hg⟩);clear hi hg Gf;obtain⟨_,_,_,vS,_,_,b4,b5,_⟩:=HW.ae;open zbU in exact ZaF
   |false=>rw[hg]at c11;have HI:=aa hi;have HG:=aa hg;clear hi hg Gf;go_wp2_with fail;refine HK.ae r hd w (λ _=>HG.ae) (by rw[if_pos HI.ae]) HP.ae _ ?_ ?_ ?_ ?_ ?_<;>rfl
 |cons i0 il=>
   rw[hi,length_cons]at c0;have HI:=aa hi;rw[hi,length_cons]at Gf;clear hi;have hlt:(0:Int)<((il.length+1:Nat):Int):=WC;go_wp2_with fail;refine HK.ae _ [] _ (λ h=>by rw[HI.ae]at h;cases h) (by rw[HI.ae];rfl) HP.ae.arH _ ?_ ?_ ?_ ?_ ?_<;>rfl):=h
theorem aap(c:PC)(w0:t_)(gp g2 g4 g5 D:Nat)(q:Qy)(L:QL)(r:Rest)(u v:Value)(ya:v_)(s:dE)(hd:List aZ)(T:x_)(hT:T.size=252)
  (h2:T.getD 2 undef=aw g2) (h4:T.getD 4 undef=aw g4) (h5:T.getD 5 undef=aw g5) (h6:T.getD 6 undef=aw gp) (d:List Deferred) (w:t_) (Q:y_)
  (bc:c.Ok w0) (hqi:Tr.cO (q.items.map (·.1))) (Tx:fh w0 (q.items.map λ x=>(x.1,.string x.2)) L.i.A L.i.n) (Gf:q.items.length<=100000) (hhd:hd.length<=100000)
  (hqh:Tr.cO q.fE) (hih:ib w0 q.fE L.h.A L.h.n) (ER:q.fE.length<=1000000) (Vd:Tr.cO (q.ord.map (·.1))) (vw:fh w0 (q.ord.map λ x=>(x.1,.bool x.2)) L.o.A L.o.n) (Ve:q.ord.length<=1000000) (hlen:s.aG.length+s.aD.length+2*Tr.aP (q.items.map (·.1))+(2*Tr.aP q.fE+2*Tr.aP (q.ord.map (·.1)))<=1000000)
  (hP:cW c w0 gp g2 (ft q L) g4 g5 D r w u v ya s hd [] [] [] [] [] [])
  (hE:∀er a W,AE c.aJ c.aG c.cols q s=.error er->er≠0->rG a d g4 g5->yj w0 g4 g5 D W->Q .ret a (jL W g4 g5 er))
  (hO:∀a W r' u' v' rE s' wC yi yh yo ti th eP,AE c.aJ c.aG c.cols q s=.ok (ti,wC,th,eP,s')->rG a d g4 g5->cW c w0 gp g2 (ft q L) g4 g5 D r' W u' v' rE s' ((if q.items=[] then hd else [])++wC) yi yh yo ti th eP->Q .ret a (jT W g4 g5 gp)):
  (eC bK 6).wp prog Q {tmps:=T,defers:=d} w:=by
 open zeZ in exact ZcS
def akB(gp B:Nat)(w1:t_)(vv:Value)(l:List aZ)(nm:u_)(ty:Int)(k:Nat):Nat->t_->Value->Prop
 |0,_,v=>v=aw gp
 |1,_,v=>v=aw gp
 |2,_,v=>v=aw gp
 |3,_,v=>v=aY gp 10
 |4,_,v=>v=vv
 |5,_,v=>v=af (k:Int)
 |6,_,v=>v=.agg #[ag 2,ag 0,af 0,au,.string nm,af 0,az]
 |7,_,v=>v=.string nm
 |8,_,v=>v=ag ty
 |9,_,v=>v=.agg #[.string nm,ag ty]
 |10,w,v=>∃q:Nat,v=aL q 1 1/\aB w q 113 (aU ⟨nm,ty⟩).toArray/\vv.ownBlock≠some q
 |11,w,v=>∃q:Value,v=q/\aH aU 113 2 w B q (l++[⟨nm,ty⟩])/\Mv w1 vv q
 |12,_,v=>v=aw gp
 |13,_,v=>v=aY gp 10
 |_,_,_=>False
theorem SX(gp B:Nat)(w1:t_)(vv:Value)(l:List aZ)(nm:u_)(ty:Int)(k:Nat):∀i w w' x,akB gp B w1 vv l nm ty k i w x->AR aU 113 2 B vv l ⟨nm,ty⟩ w w'->akB gp B w1 vv l nm ty k i w' x:=by
 intro i w w' x h hl
 match i with
 |0|1|2|3|4|5|6|7|8|9|12|13=>exact h
 |10=>exact Zff
 |11=>exact ZgD
 |n+14=>exact h
def Vi(l:List aZ):uC (List aZ)->uC (List aZ)
 |.error e=>.error e
 |.ok m=>.ok (l++m)
theorem Yb(x:uC (List aZ)):Vi [] x=x:=by exact Zh4
theorem SY(l:List aZ)(y:aZ){x x':uC (List aZ)}(h:x'=(match x with|.error e=>.error e|.ok m=>.ok (y::m))):Vi l x'=Vi (l++[y]) x:=by
 rw[h];cases x with
 |error e=>rfl
 |ok p=>show Except.ok (l++y::p)=Except.ok ((l++[y])++p);rw[append_assoc];rfl
def ym(g:Bool)(aG:vI)(cols:List aZ)(q:Qy):uC (vI×List aZ×vI×vI×dE):=
 match lF cols q.aG 0 with
 |.error e=>.error e
 |.ok gc=>AE g aG cols q ⟨[],gc⟩
def zbZ.Kak(h:p:=by exact ZhY):=h
def zbs.Kae(h:p:=by
 clear k1;go_wp2_with fail;clear z0 z1 x2 x3 x4 x5 x6;have yC:=Tr.pO (cols:=c.cols) (CA:=c.cA) (cc:=c.cc) Tbe t y W2 lq.ae (yE.ae.later ry.ae.f.base) (iT.ae.cols.later ry.ae.f.base);have Lf:=wh.ae;generalize hR:t.type c.cols=R at*;obtain⟨ty,er⟩:=R;dsimp only at Lf yC;refine(yC W2 (aj.refl _)).mono ?_;rintro e w6 ⟨rfl,hb6⟩;have tZ:=aa (ry.ae.later hb6);clear yC ry hb6 hR wh;by_cases HW:er=0
 ·subst HW;rw[if_neg Tab]at Lf;have akD:=aa Lf;clear Lf;obtain⟨nm,jw⟩:∃nm,nm=jD k:=⟨_,rfl⟩;have Ur:=aa jw;clear jw;have HK9:=aa (show k<1000000 by have:=HFN.ae;have:=HL.ae;omega);have HGL:=aa (show s1.aG.length<=1000000 by have:=HK9.ae;have:=rL.ae;omega);obtain⟨VA,vc,hv,_⟩:=tZ.ae.o1.reads;subst hv;go_wp2_with fail;obtain⟨WB,hWB⟩:∃WB,WB=w6:=⟨_,rfl⟩;have rH:=tZ;clear tZ;rw[<-hWB]at rH⊢;refine fJ _ _ (take_append_drop 14 _).symm (AR aU 113 2 w0.heap.size (Value.slice VA s1.aG.length vc) s1.aG ⟨nm,ty⟩) AR.refl (λ _ _ _=>AR.trans) AR.drew (akB gp w0.heap.size WB (Value.slice VA s1.aG.length vc) s1.aG nm ty k) (λ i w w' y h hr=>SX _ _ _ _ _ _ _ _ _ _ _ _ h hr) Taa Taa Taa ?_ ?_
  ·simp only[take_succ_cons,take_zero];refine⟨Zcj,Zcj,Zcj,ZfP,?_,?_,?_,?_,?_,?_,?_,?_,Zcj,ZfP,trivial⟩
   ·intro ρ W4 hc hL hr;have h0:_=_:=hr.1;have kJ:=dG rH.ae.blk rH.ae.o1 Tab hL.grown;exact ZdR
   intro ρ W4 hc hL hr;have h0:_=_:=hr.1;exact aq (v:=af (k:Int)) (w':=W4) Tak ⟨AR.refl _,rfl⟩;intro ρ W4 hc hL hr;have h0:_=_:=hr.1;have e1:=hc.func 60;refine bu (f:=60) (args:= #[af (k:Int)]) (w':=W4) TaE ?_;refine(pX k WC (by have:=HK9.ae;omega) W4 (iT.ae.env.later (rH.ae.ps.agK hL.grown))).mono ?_;rintro e4 w4 ⟨rfl,b4⟩;refine⟨_,rfl,AR.later b4,?_⟩;show nt (MK k)=_;unfold nt MK;rw[Ur.ae]
   ·intro ρ W4 hc hL hr;have h0:_=_:=hr.1;have Jn:Sem.run prog (Instr.field 46 (.agg #[ag 2,ag 0,af 0,au,.string nm,af 0,az]) 2) W4=.ok (.string nm) W4:=by first|kernel_rfl|rfl
    exact aq (v:=.string nm) (w':=W4) (by simp[go_sem,h0,Jn];done) ⟨AR.refl _,rfl⟩
   intro ρ W4 hc hL hr;have h0:_=_:=hr.1;exact aq (v:=ag ty) (w':=W4) Tak ⟨AR.refl _,rfl⟩;intro ρ W4 hc hL hr;have h0:_=_:=hr.1;have h1:_=_:=hr.2.1;exact aq (v:=.agg #[.string nm,ag ty]) (w':=W4) TaO ⟨AR.refl _,rfl⟩;intro ρ W4 hc hL hr;have h0:_=_:=hr.1;refine aq (v:=aL W4.heap.size 1 1) (w':=W4.alloc (.cells #[.string nm,ag ty] 113)) Tas ⟨AR.later (ah W4 _),⟨_,rfl,aB.new W4 _ _,λ e=>?_⟩⟩;have:=((hL.old rH.ae.o1).lt e).1;omega;intro ρ W4 hc hL hr;have h0:_=_:=hr.1;obtain⟨q1,h1,vH,KF⟩:∃q:Nat,ρ (.tmp 118)=aL q 1 1/\aB W4 q 113 (aU ⟨nm,ty⟩).toArray/\(Value.slice VA s1.aG.length vc).ownBlock≠some q:=hr.2.1;obtain⟨v',w',hrun,ho,zT,FM⟩:=fc (P:=prog) (w:=W4) 28 28 _ 24 underlying28 sM rfl WC (λ _=>rfl) Ta3 (hL.old rH.ae.o1) q1 vH (by have:=HGL.ae;show(s1.aG.length+1)*24<=_;omega) (by have:=HGL.ae;show s1.aG.length+1<=_;omega) (fK rH.ae.f.base.size hL.grown.size);exact Zb4
  intro W3 hL;simp only[Uab];rintro a0-a1-a2-a3-a4-a5-a6-a7-a8-a9-Hc-S1 ⟨aEN,rfl,Xs,aht⟩ a12-_ rfl;simp only[bw,Act.put,Uac];obtain⟨A4,Sd,hv4,_⟩:=Xs.reads;rw[length_append,length_singleton]at hv4;subst hv4;have O4:=aa Xs;have HM4:=aa aht;have S2:=aa hL.grown;have kJ:=dG rH.ae.blk rH.ae.o1 Tab hL.grown;have f10:=kJ.frozen 10;unfold PC.cells at kJ;have c10:=kJ.cell 10;simp only[Uaa]at c10;clear Xs aht kJ hL;have HP8:=aa (rH.ae.call (ik.R7 (gp:=gp) S2.ae HM4.ae (Value.slice A4 (s1.aG.length+1) Sd) 10) (rH.ae.ps.RZ O4.ae S2.ae));clear rH O4 HM4 S2;have hk7:k<1000000:=HK9.ae;go_wp2_with fail;clear f10 c10;generalize World.setCell W3 _ _=WD at*;go_roundw;case rel=>exact⟨k+1,_,⟨s1.aD,s1.aG++[⟨nm,ty⟩]⟩,hlt,by go_num,vK.ae,HP8.ae,by
   rw[Az.ae];exact SY s1.aG ⟨nm,ty⟩ (by rw[Ur.ae];exact akD.ae),by
   show(s1.aG++[_]).length=k+1;rw[length_append,rL.ae];rfl⟩
  case measure=>exact Za2
 rw[if_pos HW]at Lf;have pC:=aa (show X=.error er by rw[Az.ae,Lf];rfl)
 have t1:(er != 0)=true:=by simp[HW]
 have oD:=aa HW;have HW2:=aa tZ.ae.f.aah;clear HW Lf;obtain⟨_,_,_,vS,_,_,b4,b5,_⟩:=HW2.ae;open zbZ in exact ZaF):=h
def zfv.Kbi(h:p:=by clear iJ Oe;open zbs in exact Zay):=h
def zix.Kct(h:p:=by go_upto_region 18 with fail;open zfv in exact ZdE):=h
def zhG.Kb7(h:p:=by
 have HL:=aa hl;have iJ:=aa hP;simp only[bK,eC,f28,Option.getD_some]at key;have KEY:=aa key;have b2:=hP.f.z2;unfold ft at b2;have c4:=b2.cell 4;simp only[Uaa]at c4;rw[hn,<-hl]at c4;clear hE Bi hO Ui qT hfn hqi Tx Gf hhd hqh hih ER Vd vw hz hS Ve hlen hw hP b2 hn hl key;simp only[bK,eC,f28,Option.getD_some];refine wp_seq_k λ K hK=>?_;have KK:=aa (show∀(gc:List aZ) (v':Value) (w':t_),X=.ok gc->gc.length<=q.aG.length->cW c w0 gp g2 (ft q L) g4 g5 D r w' u v' [] ⟨[],gc⟩ hd [] [] [] [] [] []->∀T:x_,T.size=252->T.getD 2 undef=aw g2->T.getD 4 undef=aw g4->T.getD 5 undef=aw g5->T.getD 6 undef=aw gp->K {tmps:=T,defers:=d} w' from λ gc v' w' h1 h2 h3 T a1 a2 a3 a4 a5=>hK _ _ (KEY.ae gc v' w' h1 h2 h3 T a1 a2 a3 a4 a5));clear hK KEY;go_wp2_with fail;clear c4;go_loopw [94] (λ i wr=>∃(k:Nat) (v1:Value) (s1:dE),k<=zs.length/\i=af k/\s1.aD=[]/\cW c w0 gp g2 (ft q L) g4 g5 D r wr u v1 [] s1 hd [] [] [] [] [] []/\X=Vi s1.aG (lF c.cols (q.aG.drop k) k)/\s1.aG.length=k) (λ i _=>zs.length-(intOf i).toNat);case atStart=>exact⟨0,v,⟨[],[]⟩,gE,rfl,rfl,iJ.ae,by rw[drop_zero,Yb];exact HO.ae,rfl⟩
 case round=>
  clear iJ;obtain⟨k,v1,s1,hk,rfl,Vf,hP,Pz,UQ⟩:=hrel;have vK:=aa Vf;have Az:=aa Pz;have iJ:=aa hP;have rL:=aa UQ;clear Vf Pz hP UQ;by_cases hlt:k<zs.length
  ·have fW:k<q.aG.length:=by rw[<-HL.ae];exact hlt
   obtain⟨b,off,hA,Dx,hex⟩:∃b off,L.g.A=some ⟨b,off,none⟩/\b<w0.heap.size/\cC w0 b (off+k*7) zs[k]:=by exact ZeF
   have sR:(q.aG[k]'fW).at_ w0 (Old w0) zs[k]:=by obtain⟨Kx,h1,h2⟩:=qJ fW HS.ae;rw[getElem?_eq_getElem hlt]at h1;injection h1 with h1;rw[h1];exact h2
   have gL:(q.aG[k]'fW).ok:=dP.1 Nj.ae _ (getElem_mem fW);have Lf:lF c.cols (q.aG.drop k) k=(if ((q.aG[k]'fW).type c.cols).2≠0 then .error ((q.aG[k]'fW).type c.cols).2 else match lF c.cols (q.aG.drop (k+1)) (k+1)with
     |.error e=>.error e
     |.ok l=>.ok (⟨jD k,((q.aG[k]'fW).type c.cols).1⟩::l)):=by
    rw[drop_eq_getElem_cons fW];rfl
   generalize zs[k]=y at*;generalize (q.aG[k]'fW)=t at*;open zix in exact Zhp
  have yz:k=zs.length:=by omega
  have HXO:=aa (show X=.ok s1.aG by rw[Az.ae,yz,HL.ae,drop_length];show Except.ok (s1.aG++[])=_;rw[append_nil])
  have HPZ:=aa (show cW c w0 gp g2 (ft q L) g4 g5 D r wr u v1 [] ⟨[],s1.aG⟩ hd [] [] [] [] [] [] by have h:=iJ.ae;obtain⟨sa,sg⟩:=s1;have h2:sa=[]:=vK.ae;rw[h2]at h;exact h)
  subst yz;go_wp2_with fail;refine KK.ae s1.aG v1 wr HXO.ae (by have:=rL.ae;have:=HL.ae;omega) HPZ.ae _ ?_ ?_ ?_ ?_ ?_<;>rfl):=h
def zgo.KbE(h:p:=by
 obtain⟨hn,zs,hz,hS⟩:=hig;have hl:zs.length=q.aG.length:=hS.length;obtain⟨X,hw⟩:∃X,X=lF c.cols q.aG 0:=⟨_,rfl⟩;have key:∀(gc:List aZ) (v':Value) (w':t_),X=.ok gc->gc.length<=q.aG.length->cW c w0 gp g2 (ft q L) g4 g5 D r w' u v' [] ⟨[],gc⟩ hd [] [] [] [] [] []->∀T:x_,T.size=252->T.getD 2 undef=aw g2->T.getD 4 undef=aw g4->T.getD 5 undef=aw g5->T.getD 6 undef=aw gp->(eC bK 6).wp prog Q {tmps:=T,defers:=d} w':=λ gc v' w' hx Br hp T hT h2 h4 h5 h6=>
  have hR:ym c.aJ c.aG c.cols q=AE c.aJ c.aG c.cols q ⟨[],gc⟩:=by unfold ym;rw[<-hw,hx]
  aap c w0 gp g2 g4 g5 D q L r u v' [] ⟨[],gc⟩ hd T hT h2 h4 h5 h6 d w' Q Ui hqi Tx Gf hhd hqh hih ER Vd vw Ve (by show gc.length+0+_+_<=_;omega) hp (λ er a W he=>hE er a W (hR.trans he)) (λ a W r' u' v' rE s' wC yi yh yo ti th eP he ha hp=>hO a W r' u' v' rE s' wC yi yh yo ti th eP (hR.trans he) ha hp)
 have Bi:∀er a W,X=.error er->er≠0->rG a d g4 g5->yj w0 g4 g5 D W->Q .ret a (jL W g4 g5 er):=λ er a W hx=>hE er a W (by unfold ym;rw[<-hw,hx])
 open zhG in exact Zf2):=h
theorem Yc(c:PC)(w0:t_)(gp g2 g4 g5 D:Nat)(q:Qy)(L:QL)(r:Rest)(u v:Value)(hd:List aZ)(T:x_)(hT:T.size=252)
  (h1:T.getD 1 undef=.slice c.cA c.cols.length c.cc) (h2:T.getD 2 undef=aw g2) (h4:T.getD 4 undef=aw g4) (h5:T.getD 5 undef=aw g5) (h6:T.getD 6 undef=aw gp) (d:List Deferred) (w:t_) (Q:y_)
  (Ui:c.Ok w0) (qT:Tr.cO q.aG) (hig:ib w0 q.aG L.g.A L.g.n) (hfn:q.aG.length<=100000) (hqi:Tr.cO (q.items.map (·.1))) (Tx:fh w0 (q.items.map λ y=>(y.1,.string y.2)) L.i.A L.i.n) (Gf:q.items.length<=100000) (hhd:hd.length<=100000)
  (hqh:Tr.cO q.fE) (hih:ib w0 q.fE L.h.A L.h.n) (ER:q.fE.length<=1000000) (Vd:Tr.cO (q.ord.map (·.1))) (vw:fh w0 (q.ord.map λ y=>(y.1,.bool y.2)) L.o.A L.o.n) (Ve:q.ord.length<=1000000) (hlen:q.aG.length+2*Tr.aP (q.items.map (·.1))+(2*Tr.aP q.fE+2*Tr.aP (q.ord.map (·.1)))<=1000000)
  (hP:cW c w0 gp g2 (ft q L) g4 g5 D r w u v [] ⟨[],[]⟩ hd [] [] [] [] [] [])
  (hE:∀er a W,ym c.aJ c.aG c.cols q=.error er->er≠0->rG a d g4 g5->yj w0 g4 g5 D W->Q .ret a (jL W g4 g5 er))
  (hO:∀a W r' u' v' rE s' wC yi yh yo ti th eP,ym c.aJ c.aG c.cols q=.ok (ti,wC,th,eP,s')->rG a d g4 g5->cW c w0 gp g2 (ft q L) g4 g5 D r' W u' v' rE s' ((if q.items=[] then hd else [])++wC) yi yh yo ti th eP->Q .ret a (jT W g4 g5 gp)):
  (eC bK 5).wp prog Q {tmps:=T,defers:=d} w:=by
 open zgo in exact ZeK
def yq(g:Bool)(aG:vI)(cols:List aZ)(q:Qy):uC (vI×List aZ×vI×vI×dE):=
 match qf cols q.bQ with
 |.error e=>.error e
 |.ok _=>ym g aG cols q
structure PlQ (c:PC) (w0:t_) (q:Qy) (L:QL) (hd:List aZ):Prop where
 ok:c.Ok w0
 qw:Tr.cO q.bQ
 iw:ib w0 q.bQ L.w.A L.w.n
 nw:q.bQ.length<=100000
 qg:Tr.cO q.aG
 ig:ib w0 q.aG L.g.A L.g.n
 ng:q.aG.length<=100000
 qi:Tr.cO (q.items.map (·.1))
 ii:fh w0 (q.items.map λ x=>(x.1,.string x.2)) L.i.A L.i.n
 ni:q.items.length<=100000
 nh:hd.length<=100000
 qh:Tr.cO q.fE
 ih:ib w0 q.fE L.h.A L.h.n
 nhv:q.fE.length<=100000
 qo:Tr.cO (q.ord.map (·.1))
 io:fh w0 (q.ord.map λ x=>(x.1,.bool x.2)) L.o.A L.o.n
 no:q.ord.length<=1000000
 len:q.aG.length+2*Tr.aP (q.items.map (·.1))+(2*Tr.aP q.fE+2*Tr.aP (q.ord.map (·.1)))<=1000000
def zb0.Kak(h:p:=by exact ZhY):=h
def zbt.Kae(h:p:=by
 clear k1;go_wp2_with fail;clear z0 z1 x2 x3 x4 x5 x6;have yC:=Tr.pO (cols:=c.cols) (CA:=c.cA) (cc:=c.cc) (by have:=HFN.ae.ok.cl;omega) t y W2 lq.ae (yE.ae.later ry.ae.f.base) (HFN.ae.ok.cols.later ry.ae.f.base);have Lf:=wh.ae;generalize hR:t.type c.cols=R at*;obtain⟨ty,Lw⟩:=R;dsimp only at Lf yC;refine(yC W2 (aj.refl _)).mono ?_;rintro e w6 ⟨rfl,hb6⟩;have HP6:=aa (ry.ae.later hb6);have LH:=aa Lf;clear yC ry hb6 hR wh Lf;go_wp2_with fail;refine(vh ty Lw w6).mono ?_;rintro e w7 ⟨rfl,Pv⟩;have tZ:=aa (HP6.ae.later Pv);have Lf:=LH.ae;clear HP6 Pv LH;generalize ou (ty,Lw)=er at*;by_cases HW:er=0
 ·subst HW;rw[if_neg Tab]at Lf;have akD:=aa Lf;clear Lf;have hk7:k<1000000:=by have:=HFN.ae.nw;have:=HL.ae;omega
  go_wp2_with fail;go_roundw;case rel=>exact⟨k+1,hlt,by go_num,tZ.ae,Fp.ae.trans akD.ae⟩
  case measure=>exact Za2
 rw[if_pos HW]at Lf;have pC:=aa (show X=.error er from Fp.ae.trans Lf);have t1:(er != 0)=true:=by simp[HW]
 have oD:=aa HW;have HW2:=aa tZ.ae.f.aah;clear HW Lf;obtain⟨_,_,_,vS,_,_,b4,b5,_⟩:=HW2.ae;open zb0 in exact ZaF):=h
def zfw.Kbi(h:p:=by clear iJ Oe;open zbt in exact Zay):=h
def ziw.Kct(h:p:=by go_upto_region 11 with fail;open zfw in exact ZdE):=h
def zgp.KbE(h:p:=by
 obtain⟨hn,zs,hz,hS⟩:=hfn.iw;have hl:zs.length=q.bQ.length:=hS.length;obtain⟨X,hw⟩:∃X,X=qf c.cols q.bQ:=⟨_,rfl⟩;have key:∀(w':t_),X=.ok ()->cW c w0 gp g2 (ft q L) g4 g5 D r w' u v [] ⟨[],[]⟩ hd [] [] [] [] [] []->∀T:x_,T.size=252->T.getD 1 undef=.slice c.cA c.cols.length c.cc->T.getD 2 undef=aw g2->T.getD 4 undef=aw g4->T.getD 5 undef=aw g5->T.getD 6 undef=aw gp->(eC bK 5).wp prog Q {tmps:=T,defers:=d} w':=λ w' hx hp T hT h1 h2 h4 h5 h6=>
  have hR:yq c.aJ c.aG c.cols q=ym c.aJ c.aG c.cols q:=by unfold yq;rw[<-hw,hx]
  Yc c w0 gp g2 g4 g5 D q L r u v hd T hT h1 h2 h4 h5 h6 d w' Q hfn.ok hfn.qg hfn.ig hfn.ng hfn.qi hfn.ii hfn.ni hfn.nh hfn.qh hfn.ih (by have:=hfn.nhv;omega) hfn.qo hfn.io hfn.no hfn.len hp (λ Lw a W he=>hE Lw a W (hR.trans he)) (λ a W r' u' v' rE s' wC yi yh yo ti th eP he ha hp=>hO a W r' u' v' rE s' wC yi yh yo ti th eP (hR.trans he) ha hp)
 have hE2:∀Lw a W,X=.error Lw->Lw≠0->rG a d g4 g5->yj w0 g4 g5 D W->Q .ret a (jL W g4 g5 Lw):=λ Lw a W hx=>hE Lw a W (by unfold yq;rw[<-hw,hx])
 have ox:=aa hE2;have HFN:=aa hfn;have HK:=aa hz;have HS:=aa hS;have HO:=aa hw;have HL:=aa hl;have iJ:=aa hP;simp only[bK,eC,f28,Option.getD_some]at key;have KEY:=aa key;have b2:=hP.f.z2;unfold ft at b2;have c3:=b2.cell 3;simp only[Uaa]at c3;rw[hn,<-hl]at c3;clear hE hE2 hO hfn hz hS hw hP b2 hn hl key;simp only[bK,eC,f28,Option.getD_some];refine wp_seq_k λ K hK=>?_;have KK:=aa (show∀(w':t_),X=.ok ()->cW c w0 gp g2 (ft q L) g4 g5 D r w' u v [] ⟨[],[]⟩ hd [] [] [] [] [] []->∀T:x_,T.size=252->T.getD 1 undef=.slice c.cA c.cols.length c.cc->T.getD 2 undef=aw g2->T.getD 4 undef=aw g4->T.getD 5 undef=aw g5->T.getD 6 undef=aw gp->K {tmps:=T,defers:=d} w' from λ w' h1 h3 T a0 a1 a2 a3 a4 a5=>hK _ _ (KEY.ae w' h1 h3 T a0 a1 a2 a3 a4 a5));clear hK KEY;go_wp2_with fail;clear c3;go_loopw [77] (λ i wr=>∃(k:Nat),k<=zs.length/\i=af k/\cW c w0 gp g2 (ft q L) g4 g5 D r wr u v [] ⟨[],[]⟩ hd [] [] [] [] [] []/\X=qf c.cols (q.bQ.drop k)) (λ i _=>zs.length-(intOf i).toNat);case atStart=>exact⟨0,gE,rfl,iJ.ae,by rw[drop_zero];exact HO.ae⟩
 case round=>
  clear iJ;obtain⟨k,hi,rfl,hP,hlk⟩:=hrel;have Fp:=aa hlk;have iJ:=aa hP;clear hlk hP;by_cases hlt:k<zs.length
  ·have fW:k<q.bQ.length:=by rw[<-HL.ae];exact hlt
   obtain⟨b,off,hA,Dx,hex⟩:∃b off,L.w.A=some ⟨b,off,none⟩/\b<w0.heap.size/\cC w0 b (off+k*7) zs[k]:=by exact ZeF
   have sR:(q.bQ[k]'fW).at_ w0 (Old w0) zs[k]:=by obtain⟨Kx,h1,h2⟩:=qJ fW HS.ae;rw[getElem?_eq_getElem hlt]at h1;injection h1 with h1;rw[h1];exact h2
   have gL:(q.bQ[k]'fW).ok:=dP.1 HFN.ae.qw _ (getElem_mem fW);have Lf:qf c.cols (q.bQ.drop k)=(if ou ((q.bQ[k]'fW).type c.cols)≠0 then .error (ou ((q.bQ[k]'fW).type c.cols))else qf c.cols (q.bQ.drop (k+1))):=by rw[drop_eq_getElem_cons fW];rfl
   generalize zs[k]=y at*;generalize (q.bQ[k]'fW)=t at*;open ziw in exact Zhp
  have yz:k=zs.length:=by omega
  have HXO:=aa (show X=.ok () by rw[Fp.ae,yz,HL.ae,drop_length];rfl)
  subst yz;go_wp2_with fail;refine KK.ae wr HXO.ae iJ.ae _ ?_ ?_ ?_ ?_ ?_ ?_<;>rfl):=h
theorem Yd(c:PC)(w0:t_)(gp g2 g4 g5 D:Nat)(q:Qy)(L:QL)(r:Rest)(u v:Value)(hd:List aZ)(T:x_)(hT:T.size=252)
  (h1:T.getD 1 undef=.slice c.cA c.cols.length c.cc) (h2:T.getD 2 undef=aw g2) (h4:T.getD 4 undef=aw g4) (h5:T.getD 5 undef=aw g5) (h6:T.getD 6 undef=aw gp) (d:List Deferred) (w:t_) (Q:y_)
  (hfn:PlQ c w0 q L hd)
  (hP:cW c w0 gp g2 (ft q L) g4 g5 D r w u v [] ⟨[],[]⟩ hd [] [] [] [] [] [])
  (hE:∀Lw a W,yq c.aJ c.aG c.cols q=.error Lw->Lw≠0->rG a d g4 g5->yj w0 g4 g5 D W->Q .ret a (jL W g4 g5 Lw))
  (hO:∀a W r' u' v' rE s' wC yi yh yo ti th eP,yq c.aJ c.aG c.cols q=.ok (ti,wC,th,eP,s')->rG a d g4 g5->cW c w0 gp g2 (ft q L) g4 g5 D r' W u' v' rE s' ((if q.items=[] then hd else [])++wC) yi yh yo ti th eP->Q .ret a (jT W g4 g5 gp)):
  (eC bK 4).wp prog Q {tmps:=T,defers:=d} w:=by
 open zgp in exact ZeK
open Go.Shelf
theorem afi(q:Qy)(L:QL)(w:t_):ar 56 #[oF q L] w λ e w'=>∃g,e=.returned (.func (.func 96) #[] #[aw g])/\aB w' g 27 (ft q L)/\w.heap.size<=g/\ai w w':=by have bb:=ah w (.cells (ft q L) 27);have HX:=aB.new w 27 (ft q L);unfold oF;unfold ft at*;go_enter func56,ntmps56;go_wp2_with fail;go_ret;exact⟨w.heap.size,rfl,HX,aE,bb⟩
attribute [local go_sem] Oper.semAt_some
def dD(D:Nat):List Deferred:=[{target:=.collected D,args:= #[]}]
def tz(g:Bool)(aG:vI)(cols:List aZ)(q:Qy):uC (vI×List aZ×vI×vI×dE):=
 if q.all.any (λ t=>decide (32<t.depth))=true then .error 1 else yq g aG cols q
structure EU (c:PC) (w0:t_) (q:Qy) (L:QL) (hd:List aZ):Prop where
 ok:c.Ok w0
 qw:Tr.cO q.bQ
 iw:ib w0 q.bQ L.w.A L.w.n
 nw:q.bQ.length<=100000
 qg:Tr.cO q.aG
 ig:ib w0 q.aG L.g.A L.g.n
 ng:q.aG.length<=100000
 qi:Tr.cO (q.items.map (·.1))
 ii:fh w0 (q.items.map λ x=>(x.1,.string x.2)) L.i.A L.i.n
 ni:q.items.length<=100000
 nh:hd.length<=100000
 qh:Tr.cO q.fE
 ih:ib w0 q.fE L.h.A L.h.n
 nhv:q.fE.length<=100000
 qo:Tr.cO (q.ord.map (·.1))
 io:fh w0 (q.ord.map λ x=>(x.1,.bool x.2)) L.o.A L.o.n
 no:q.ord.length<=1000000
 len:q.all.any (λ t=>decide (32<t.depth))=false->q.aG.length+2*Tr.aP (q.items.map (·.1))+(2*Tr.aP q.fE+2*Tr.aP (q.ord.map (·.1)))<=1000000
variable{c:PC}{w0:t_}{q:Qy}{L:QL}{hd:List aZ}
theorem EU.full(h:EU c w0 q L hd)(hx:q.all.any (λ t=>decide (32<t.depth))=false):PlQ c w0 q L hd:=
 ⟨h.ok,h.qw,h.iw,h.nw,h.qg,h.ig,h.ng,h.qi,h.ii,h.ni,h.nh,h.qh,h.ih,h.nhv,h.qo,h.io,h.no,h.len hx⟩
theorem aar(hq:EU c w0 q L hd)(n:Nat)(hn:1<=n)(w:t_)(gq:Nat)(hb:aB w gq 27 (ft q L))(hw:ai w0 w):
  ∃LL:List (QE w0),LL.map (λ x=>x.1.2)=q.all/\SeqStopsK Fence.wide n prog 96 #[aw gq] Sm Fr (λ ys=>ys=LL) (λ pre=>pre <+: LL) LL.length w:=by
 obtain⟨ni,zs,hzi,Pk,arO⟩:=hq.ii;obtain⟨no,zo,hzo,arP,arQ⟩:=hq.io;obtain⟨nw,yw,hyw,akE⟩:=hq.iw;obtain⟨ng,yg,hyg,akF⟩:=hq.ig;obtain⟨nh,yh,hyh,akG⟩:=hq.ih;rw[length_map]at ni no;have e1:(q.items.map λ x=>(x.1,Value.string x.2)).map (·.1)=q.items.map (·.1):=Tad;have e2:(q.ord.map λ x=>(x.1,Value.bool x.2)).map (·.1)=q.ord.map (·.1):=Tad;rw[e1]at arO;rw[e2]at arQ;obtain⟨Li,l1,l2⟩:=Cc _ _ hq.qi arO;obtain⟨Lc,l3,l4⟩:=Cc (q.bQ++q.aG++q.fE) (yw++yg++yh) (dP.2 λ t ht=>by
  rcases List.mem_append.1 ht with ht|ht
  ·rcases List.mem_append.1 ht with ht|ht
   ·exact dP.1 hq.qw t ht
   exact dP.1 hq.qg t ht
  exact dP.1 hq.qh t ht) (Tr.all_append (Tr.all_append akE akF) akG)
 obtain⟨Lo,l5,l6⟩:=Cc _ _ hq.qo arQ;refine⟨Li++Lc++Lo,by unfold Qy.all;rw[map_append,map_append,l2,l4,l6],?_⟩;have fE:zs.length=q.items.length:=by have:=congrArg List.length Pk;simpa using this
 have fW:zo.length=q.ord.length:=by have:=congrArg List.length arP;simpa using this
 intro l J Jx W hW hJ hJx hY h0;have:=aee w0 n hn l gq q L zs zo yw yg yh Li Lc Lo hzi hzo hyw.old hyg.old hyh.old WC WC (by rw[nw,akE.length]) (by rw[ng,akF.length]) (by rw[nh,akG.length]) l1 l5 l3
  (λ z hz=>by have h1:z.2∈zs.map (·.2):=mem_map_of_mem hz;rw[Pk]at h1;obtain⟨a,ha,hb⟩:=List.mem_map.1 h1;obtain⟨a2,_,rfl⟩:=List.mem_map.1 ha;exact⟨_,hb.symm⟩)
  (λ z hz=>by have h1:z.2∈zo.map (·.2):=mem_map_of_mem hz;rw[arP]at h1;obtain⟨a,ha,hb⟩:=List.mem_map.1 h1;obtain⟨a2,_,rfl⟩:=List.mem_map.1 ha;exact⟨_,hb.symm⟩)
  ⟨by have:=hq.ni;omega,by have:=hq.no;omega,by have a1:=hq.nw;have a2:=hq.ng;have a3:=hq.nhv;have b1:=akE.length;have b2:=akF.length;have b3:=akG.length;rw[length_append,length_append];omega⟩ J Jx W hJ hY (hb.later hW) ((Fr.below hw).trans (Fr.below hW)) h0
 exact this
attribute [local go_sem] Oper.semAt_some
def AG(x:QE w0):Bool:=decide (32<x.1.2.depth)
def akH(w0:t_)(g4 g5:Nat)(W:t_):Prop:=ai w0 W/\aB W g4 72 #[.pointer none]/\aB W g5 34 #[af 1]
def Lj:Code->Code
 |.seq (.seq _ (.block _ c)) _=>c
 |_=>.skip
noncomputable def SZ:Code:=Lj (eC bK 3)
variable{W W':t_}{t:TypeId}{cs:x_}{row:Option Nat}
theorem EW{g:Nat}(h:aB W g t cs)(hg:W.grownBy W' row)(hr:∀r,row=some r->∃o:Obj,W.heap[r]?=some o/\o.isCells=false):aB W' g t cs:=h.grown hg λ e=>by obtain⟨o,h1,h2⟩:=hr g e.symm;rw[h]at h1;injection h1 with h1;rw[<-h1]at h2;cases h2
def zdB.KaG(h:p:=by
 clear hb;gi_wp2_with (refine⟨trivial,?_⟩;gi_at_call 57;refine(CallsIn.inRound l (callsIn_wide.2 akI)).mono ?_;rintro e W2 ⟨rfl,hb2⟩;clear akI;have c4:=(H4.ae.later hb2).cell 0;have c5:=((H5.ae.later hb2).far (p:=⟨g4,0,none⟩) (Ne.symm BU) (.pointer none)).cell 0;have f4:=(H4.ae.later hb2).frozen 0;have f5:=((H5.ae.later hb2).far (p:=⟨g4,0,none⟩) (Ne.symm BU) (.pointer none)).frozen 0;simp only[getElem?_toArray,getElem?_cons_zero]at c4 c5)
 ·rename_i hdp;have hx:AG x=true:=by unfold AG;first|exact decide_eq_true WC|simpa using hdp
  refine⟨?_,rfl,by rw[any_append,any_cons,hx];simp,?_⟩;exact(((KeepsOthers.of_grownBy (oz hb2) (λ _ _ e _=>by cases e)).trans (KeepsOthers.setCell _ _ _)).trans (KeepsOthers.setCell _ _ _)).from _;refine⟨((Below.trans Kx ((HI1.ae.mono Kx.size).trans (hb2.mono (fK Kx.size HI1.ae.size)))).setCell hl4 _).setCell hl5 _,?_,?_⟩;exact(((H4.ae.later hb2).aW 0 _).far (p:=⟨g5,0,none⟩) BU _);exact(((H5.ae.later hb2).far (p:=⟨g4,0,none⟩) (Ne.symm BU) _).aW 0 _)
 rename_i hdp;have hx:AG x=false:=by unfold AG;first|exact decide_eq_false WC|simpa using hdp
 exact⟨(KeepsOthers.of_grownBy (oz hb2) (λ _ _ e _=>by cases e)).from _,Fr.below hb2,HI1.ae.trans (hb2.mono HI1.ae.size),by rw[any_append,any_cons,hx,HI2.ae];rfl⟩):=h
theorem Ye(w0 w1:t_)(LL:List (QE w0))(gq g4 g5:Nat)(T:x_)(hT:T.size=252)(h4:T.getD 4 undef=aw g4)(h5:T.getD 5 undef=aw g5)(h69:T.getD 69 undef=.func (.func 96) #[] #[aw gq])
  (hseq:SeqStopsK Fence.wide 3 prog 96 #[aw gq] Sm Fr (λ ys=>ys=LL) (λ pre=>pre <+: LL) LL.length w1)
  (Kx:ai w0 w1) (hb4:aB w1 g4 72 #[.pointer none]) (JO:aB w1 g5 34 #[af 0]) (BU:g4≠g5) (hl4:w0.heap.size<=g4) (hl5:w0.heap.size<=g5) (Q:y_)
  (hdone:∀D W,ai w1 W->w1.heap.size<=D->W.heap[D]?=some (.deferred (some []))->LL.any AG=false->Q .normal {tmps:=T,defers:=[{target:=.collected D,args:= #[]}]} W)
  (Vj:∀D W,w1.heap.size<=D->LL.any AG=true->akH w0 g4 g5 W->W.heap[D]?=some (.deferred (some []))->Q .ret {tmps:=T,defers:=[{target:=.collected D,args:= #[]}]} W):
  SZ.wp prog Q {tmps:=T,defers:=[]} w1:=by
 obtain⟨f,rfl⟩:=lM T hT;have h4:f 4=_:=h4;have h5:f 5=_:=h5;have h69:f 69=_:=h69;have oY:bU f= #[f 0,f 1,f 2,f 3,aw g4,aw g5,f 6,f 7,f 8,f 9,f 10,f 11,f 12,f 13,f 14,f 15,f 16,f 17,f 18,f 19,f 20,f 21,f 22,f 23,f 24,f 25,f 26,f 27,f 28,f 29,f 30,f 31,f 32,f 33,f 34,f 35,f 36,f 37,f 38,f 39,f 40,f 41,f 42,f 43,f 44,f 45,f 46,f 47,f 48,f 49,f 50,f 51,f 52,f 53,f 54,f 55,f 56,f 57,f 58,f 59,f 60,f 61,f 62,f 63,f 64,f 65,f 66,f 67,f 68,.func (.func 96) #[] #[aw gq],f 70,f 71,f 72,f 73,f 74,f 75,f 76,f 77,f 78,f 79,f 80,f 81,f 82,f 83,f 84,f 85,f 86,f 87,f 88,f 89,f 90,f 91,f 92,f 93,f 94,f 95,f 96,f 97,f 98,f 99,f 100,f 101,f 102,f 103,f 104,f 105,f 106,f 107,f 108,f 109,f 110,f 111,f 112,f 113,f 114,f 115,f 116,f 117,f 118,f 119,f 120,f 121,f 122,f 123,f 124,f 125,f 126,f 127,f 128,f 129,f 130,f 131,f 132,f 133,f 134,f 135,f 136,f 137,f 138,f 139,f 140,f 141,f 142,f 143,f 144,f 145,f 146,f 147,f 148,f 149,f 150,f 151,f 152,f 153,f 154,f 155,f 156,f 157,f 158,f 159,f 160,f 161,f 162,f 163,f 164,f 165,f 166,f 167,f 168,f 169,f 170,f 171,f 172,f 173,f 174,f 175,f 176,f 177,f 178,f 179,f 180,f 181,f 182,f 183,f 184,f 185,f 186,f 187,f 188,f 189,f 190,f 191,f 192,f 193,f 194,f 195,f 196,f 197,f 198,f 199,f 200,f 201,f 202,f 203,f 204,f 205,f 206,f 207,f 208,f 209,f 210,f 211,f 212,f 213,f 214,f 215,f 216,f 217,f 218,f 219,f 220,f 221,f 222,f 223,f 224,f 225,f 226,f 227,f 228,f 229,f 230,f 231,f 232,f 233,f 234,f 235,f 236,f 237,f 238,f 239,f 240,f 241,f 242,f 243,f 244,f 245,f 246,f 247,f 248,f 249,f 250,f 251]:=by simp only[bU,h4,h5,h69]
 rw[oY]at hdone Vj⊢;clear oY h4 h5 h69;clear h4 h5 h69 hT;have HD:=aa hdone;have HS:=aa Vj;have aas:=hseq;simp only[SZ,Lj,bK,eC,f28,Option.getD_some];refine(wpIn_wide (n:=4)).1 ?_;refine wpIn_rangeFunc_ownH rfl WC (gf:=96) (lb:= #[aw gq]) rfl trivial (enters_of func96 Taa rfl) aas (λ h k=>Fr.trans h k) (λ W l ob ob' _ h1 h2 _=>Fr.putObj W l ob ob' h1 h2) cX (λ _=>rfl)
  (λ pre W=>ai w1 W/\pre.any AG=false)
  (λ cd pre W=>cd=.ret/\pre.any AG=true/\akH w0 g4 g5 W)
  ?hI ?hIx ?h0
  (λ x a' W=>∃g7,aB W g7 46 (bH x.1.1).toArray/\a'= {tmps:= #[f 0,f 1,f 2,f 3,aw g4,aw g5,f 6,aw g7,f 8,f 9,f 10,f 11,f 12,f 13,f 14,f 15,f 16,f 17,f 18,f 19,f 20,f 21,f 22,f 23,f 24,f 25,f 26,f 27,f 28,f 29,f 30,f 31,f 32,f 33,f 34,f 35,f 36,f 37,f 38,f 39,f 40,f 41,f 42,f 43,f 44,f 45,f 46,f 47,f 48,f 49,f 50,f 51,f 52,f 53,f 54,f 55,f 56,f 57,f 58,f 59,f 60,f 61,f 62,f 63,f 64,f 65,f 66,f 67,f 68,.func (.func 96) #[] #[aw gq],(.agg (bH x.1.1).toArray),f 71,f 72,f 73,f 74,f 75,f 76,f 77,f 78,f 79,f 80,f 81,f 82,f 83,f 84,f 85,f 86,f 87,f 88,f 89,f 90,f 91,f 92,f 93,f 94,f 95,f 96,f 97,f 98,f 99,f 100,f 101,f 102,f 103,f 104,f 105,f 106,f 107,f 108,f 109,f 110,f 111,f 112,f 113,f 114,f 115,f 116,f 117,f 118,f 119,f 120,f 121,f 122,f 123,f 124,f 125,f 126,f 127,f 128,f 129,f 130,f 131,f 132,f 133,f 134,f 135,f 136,f 137,f 138,f 139,f 140,f 141,f 142,f 143,f 144,f 145,f 146,f 147,f 148,f 149,f 150,f 151,f 152,f 153,f 154,f 155,f 156,f 157,f 158,f 159,f 160,f 161,f 162,f 163,f 164,f 165,f 166,f 167,f 168,f 169,f 170,f 171,f 172,f 173,f 174,f 175,f 176,f 177,f 178,f 179,f 180,f 181,f 182,f 183,f 184,f 185,f 186,f 187,f 188,f 189,f 190,f 191,f 192,f 193,f 194,f 195,f 196,f 197,f 198,f 199,f 200,f 201,f 202,f 203,f 204,f 205,f 206,f 207,f 208,f 209,f 210,f 211,f 212,f 213,f 214,f 215,f 216,f 217,f 218,f 219,f 220,f 221,f 222,f 223,f 224,f 225,f 226,f 227,f 228,f 229,f 230,f 231,f 232,f 233,f 234,f 235,f 236,f 237,f 238,f 239,f 240,f 241,f 242,f 243,f 244,f 245,f 246,f 247,f 248,f 249,f 250,f 251],defers:=[]})
  ?hAx ?assign ?body ?done ?stop
 case hI=>exact λ s W W' row hs hg hr=>⟨hs.1.grown hg hs.1.size (λ k e=>(hr k e).1),hs.2⟩
 case hIx=>exact λ cd s W W' row hs hg hr=>⟨hs.1,hs.2.1,hs.2.2.1.grown hg hs.2.2.1.size (λ k e=>fK Kx.size (hr k e).1),EW hs.2.2.2.1 hg (λ r e=>(hr r e).2),EW hs.2.2.2.2 hg (λ r e=>(hr r e).2)⟩
 case h0=>exact⟨cX,rfl⟩
 case hAx=>rintro x a' s W W' row ⟨g7,h1,h2⟩ hg hr;exact⟨g7,EW h1 hg (λ r e=>(hr r e).2),h2⟩
 case assign=>
  rintro l pre x W K ⟨hi1,Ib⟩ hK;have hbn:=aB.new W 46 (bH x.1.1).toArray;have bbn:=ah W (.cells (bH x.1.1).toArray 46);have hK2:=hK {tmps:= #[f 0,f 1,f 2,f 3,aw g4,aw g5,f 6,aw W.heap.size,f 8,f 9,f 10,f 11,f 12,f 13,f 14,f 15,f 16,f 17,f 18,f 19,f 20,f 21,f 22,f 23,f 24,f 25,f 26,f 27,f 28,f 29,f 30,f 31,f 32,f 33,f 34,f 35,f 36,f 37,f 38,f 39,f 40,f 41,f 42,f 43,f 44,f 45,f 46,f 47,f 48,f 49,f 50,f 51,f 52,f 53,f 54,f 55,f 56,f 57,f 58,f 59,f 60,f 61,f 62,f 63,f 64,f 65,f 66,f 67,f 68,.func (.func 96) #[] #[aw gq],(.agg (bH x.1.1).toArray),f 71,f 72,f 73,f 74,f 75,f 76,f 77,f 78,f 79,f 80,f 81,f 82,f 83,f 84,f 85,f 86,f 87,f 88,f 89,f 90,f 91,f 92,f 93,f 94,f 95,f 96,f 97,f 98,f 99,f 100,f 101,f 102,f 103,f 104,f 105,f 106,f 107,f 108,f 109,f 110,f 111,f 112,f 113,f 114,f 115,f 116,f 117,f 118,f 119,f 120,f 121,f 122,f 123,f 124,f 125,f 126,f 127,f 128,f 129,f 130,f 131,f 132,f 133,f 134,f 135,f 136,f 137,f 138,f 139,f 140,f 141,f 142,f 143,f 144,f 145,f 146,f 147,f 148,f 149,f 150,f 151,f 152,f 153,f 154,f 155,f 156,f 157,f 158,f 159,f 160,f 161,f 162,f 163,f 164,f 165,f 166,f 167,f 168,f 169,f 170,f 171,f 172,f 173,f 174,f 175,f 176,f 177,f 178,f 179,f 180,f 181,f 182,f 183,f 184,f 185,f 186,f 187,f 188,f 189,f 190,f 191,f 192,f 193,f 194,f 195,f 196,f 197,f 198,f 199,f 200,f 201,f 202,f 203,f 204,f 205,f 206,f 207,f 208,f 209,f 210,f 211,f 212,f 213,f 214,f 215,f 216,f 217,f 218,f 219,f 220,f 221,f 222,f 223,f 224,f 225,f 226,f 227,f 228,f 229,f 230,f 231,f 232,f 233,f 234,f 235,f 236,f 237,f 238,f 239,f 240,f 241,f 242,f 243,f 244,f 245,f 246,f 247,f 248,f 249,f 250,f 251],defers:=[]} (W.alloc (.cells (bH x.1.1).toArray 46)) ((KeepsOthers.alloc _ _).from _) (Fr.below bbn) ⟨Below.trans hi1 (bbn.mono hi1.size),Ib⟩ ⟨_,hbn,rfl⟩;clear hK hdone Vj HD HS aas hseq;unfold bH at*;simp only[Sm];gi_wp2;exact hK2
 case body=>rintro l pre x a' W hl ⟨r,hr⟩ ⟨hi1,Ib⟩ ⟨g7,hb,rfl⟩ hlt;have akI:=Tr.E7 x.1.2 x.1.1 w0 x.2.1 x.2.2 W (Below.trans Kx (hi1.mono Kx.size));have H4:=aa (hb4.later hi1);have H5:=aa (JO.later hi1);have HI1:=aa hi1;have HI2:=aa Ib;clear hdone Vj HD HS aas hseq hr hi1 Ib;unfold nt at akI;open zdB in exact ZbI
 case done=>rintro D xs W hD rfl ⟨h1,h2⟩ h3;exact HD.ae D W h1 hD h3 h2
 case stop=>
  rintro D cd pre W hD FA ⟨rfl,h1,h2⟩ h3;have hx:=HS.ae D W hD (by obtain⟨x,hx1,hx2⟩:=List.any_eq_true.1 h1;exact List.any_eq_true.2 ⟨x,FA.subset hx1,hx2⟩) h2 h3
  gi_wp2;exact hx
attribute [local go_sem] Oper.semAt_some
def ze0.Ka5(h:p:=by have x7:=cL.cell 7;simp only[Uaa]at y0 y1 c2 y3 y4 y5 y6 x7;clear hE hw hO hl hP hb cL hb4 JO BU hl4 hl5 key;simp only[bK,eC,f28,Option.getD_some];refine wp_seq_k λ K hK=>?_;have HK:=aa (show∀(D:Nat) (w':t_),w0.heap.size<=D->q.all.any (λ t=>decide (32<t.depth))=false->cW c w0 gp g2 (ft q L) g4 g5 D r w' u v [] ⟨[],[]⟩ hd [] [] [] [] [] []->∀T:x_,T.size=252->T.getD 1 undef=.slice c.cA c.cols.length c.cc->T.getD 2 undef=aw g2->T.getD 4 undef=aw g4->T.getD 5 undef=aw g5->T.getD 6 undef=aw gp->K {tmps:=T,defers:=dD D} w' from λ D w' h0 h1 h3 T a0 a1 a2 a3 a4 a5=>hK _ _ (KEY.ae D w' h0 h1 h3 T a0 a1 a2 a3 a4 a5));clear hK KEY;go_wp2_with fail;clear y0 y1 c2 y3 y4 y5 y6 x7;refine(afi q L w).mono ?_;rintro e w1 ⟨gq,rfl,Ko,Br,hb1⟩;obtain⟨LL,hLL,hseq⟩:=aar HL.ae 3 WC w1 gq Ko (Below.trans HB.ae (hb1.mono HB.ae.size));have Bh:=aa hLL;have aas:=aa hseq;have eZ:=aa hb1;clear Ko Br hb1 hLL hseq;go_wp2_with fail;have arS:=λ(T:x_) hT e4 e5 e69 (Q2:y_) hd hs=>Ye w0 w1 LL gq g4 g5 T hT e4 e5 e69 aas.ae (Below.trans HB.ae (eZ.ae.mono HB.ae.size)) (U6.ae.later eZ.ae) (wu.ae.later eZ.ae) Kx.ae.1 Kx.ae.2.1 Kx.ae.2.2 Q2 hd hs;simp only[SZ,Lj,bK,eC,f28,Option.getD_some]at arS;refine arS _ ?_ ?_ ?_ ?_ _ ?_ ?_;rfl;rfl;rfl;rfl;intro D W a1 a2 a3 a4;have nr:=Below.trans eZ.ae (a1.mono eZ.ae.size);exact HK.ae D W (fK HB.ae.size (fK eZ.ae.size a2)) (by rw[<-Bh.ae,any_map];exact a4) (iJ.ae W D nr (fK eZ.ae.size a2) a3) _ rfl rfl rfl rfl rfl rfl;intro D W a0 a1 a2 a3;exact HO.ae D _ W (fK HB.ae.size (fK eZ.ae.size a0)) (by rw[<-Bh.ae,any_map];exact a1) ⟨rfl,rfl,rfl⟩ a2 a3):=h
def zgq.KbE(h:p:=by
 have key:∀(D:Nat) (w':t_),w0.heap.size<=D->q.all.any (λ t=>decide (32<t.depth))=false->cW c w0 gp g2 (ft q L) g4 g5 D r w' u v [] ⟨[],[]⟩ hd [] [] [] [] [] []->∀T:x_,T.size=252->T.getD 1 undef=.slice c.cA c.cols.length c.cc->T.getD 2 undef=aw g2->T.getD 4 undef=aw g4->T.getD 5 undef=aw g5->T.getD 6 undef=aw gp->(eC bK 4).wp prog Q {tmps:=T,defers:=dD D} w':=λ D w' hDD hx hp T hT h1 h2 h4 h5 h6=>
  have hR:tz c.aJ c.aG c.cols q=yq c.aJ c.aG c.cols q:=if_neg (by rw[hx];decide)
  Yd c w0 gp g2 g4 g5 D q L r u v hd T hT h1 h2 h4 h5 h6 (dD D) w' Q (hl.full hx) hp (λ er a W he=>hE D er a W hDD (hR.trans he)) (λ a W r' u' v' rE s' wC yi yh yo ti th eP he ha hp=>hO D a W r' u' v' rE s' wC yi yh yo ti th eP hDD (hR.trans he) ha hp)
 have HO:=aa hw;have HL:=aa hl;have iJ:=aa hP;simp only[bK,eC,f28,Option.getD_some]at key;have KEY:=aa key;have HB:=aa hb;have fT:=aa cL;have U6:=aa hb4;have wu:=aa JO;have Kx:=aa (And.intro BU (And.intro hl4 hl5));unfold ft at cL;open ze0 in exact ZcW):=h
theorem afj(c:PC)(w0:t_)(gp g2 g4 g5:Nat)(q:Qy)(L:QL)(r:Rest)(u v:Value)(hd:List aZ)(T:x_)(hT:T.size=252)
  (h1:T.getD 1 undef=.slice c.cA c.cols.length c.cc) (h2:T.getD 2 undef=aw g2) (h4:T.getD 4 undef=aw g4) (h5:T.getD 5 undef=aw g5) (h6:T.getD 6 undef=aw gp) (w:t_) (Q:y_)
  (hl:EU c w0 q L hd)
  (hP:∀W D,ai w W->w.heap.size<=D->W.heap[D]?=some (.deferred (some []))->cW c w0 gp g2 (ft q L) g4 g5 D r W u v [] ⟨[],[]⟩ hd [] [] [] [] [] [])
  (hb:ai w0 w) (cL:aB w g2 27 (ft q L)) (hb4:aB w g4 72 #[.pointer none]) (JO:aB w g5 34 #[af 0]) (BU:g4≠g5) (hl4:w0.heap.size<=g4) (hl5:w0.heap.size<=g5)
  (hw:∀D a W,w0.heap.size<=D->q.all.any (λ t=>decide (32<t.depth))=true->rG a (dD D) g4 g5->akH w0 g4 g5 W->W.heap[D]?=some (.deferred (some []))->Q .ret a W)
  (hE:∀D er a W,w0.heap.size<=D->tz c.aJ c.aG c.cols q=.error er->er≠0->rG a (dD D) g4 g5->yj w0 g4 g5 D W->Q .ret a (jL W g4 g5 er))
  (hO:∀D a W r' u' v' rE s' wC yi yh yo ti th eP,w0.heap.size<=D->tz c.aJ c.aG c.cols q=.ok (ti,wC,th,eP,s')->rG a (dD D) g4 g5->cW c w0 gp g2 (ft q L) g4 g5 D r' W u' v' rE s' ((if q.items=[] then hd else [])++wC) yi yh yo ti th eP->Q .ret a (jT W g4 g5 gp)):
  (eC bK 3).wp prog Q {tmps:=T,defers:=[]} w:=by
 open zgq in exact ZeK
def ky(q:Qy):Prop:=1<q.bQ.length\/1<q.fE.length\/1<q.lim.length\/(q.lim.length=1/\q.lim.getD 0 0<0)
def zbV.Kak(h:p:=by
 simp only[bK,eC,f28,Option.getD_some]at hO⊢;have HBE:=aa hO;clear hO;refine wp_seq_k λ K hK=>?_;have Fl:=aa hK;clear hK;by_cases t1:1<q.bQ.length
 ·have t1':(1:Int)<((q.bQ.length:Nat):Int):=by omega
  go_wp2_with fail;exact HE.ae _ (.inl t1) ⟨rfl,rfl,rfl⟩
 have t1':¬(1:Int)<((q.bQ.length:Nat):Int):=by omega
 by_cases t2:1<q.fE.length
 ·have t2':(1:Int)<((q.fE.length:Nat):Int):=by omega
  go_wp2_with fail;exact HE.ae _ (.inr (.inl t2)) ⟨rfl,rfl,rfl⟩
 have t2':¬(1:Int)<((q.fE.length:Nat):Int):=by omega
 cases qN:q.lim with
 |nil=>
   rw[qN]at c7;have HN:=aa (show¬ky q from λ h=>by unfold ky at h;rw[qN]at h;rcases h with h|h|h|h;exact t1 h;exact t2 h;simp at h;simp at h)
   clear qN V6 t1 t2;exact Zgy
 |cons l0 ls=>
   rw[qN]at c7;cases hls:ls with
   |nil=>
     subst hls;have hcell:∃b off,L.l.A=some ⟨b,off,none⟩/\w.cell? ⟨b,off,none⟩=some (af l0):=by rcases V6 with h|⟨b,off,h1,_,h3⟩;rw[qN]at h;cases h;exact⟨b,off,h1,h3 0 l0 (by rw[qN];rfl)⟩
     obtain⟨b,off,hA,hc⟩:=hcell;rw[hA]at c7;by_cases t4:l0<0
     ·have HB:=aa (show ky q from .inr (.inr (.inr ⟨by rw[qN];rfl,by rw[qN];exact t4⟩)));clear qN V6 hA t1 t2;go_wp2_with fail;exact HE.ae _ HB.ae ⟨rfl,rfl,rfl⟩
     have HN:=aa (show¬ky q from λ h=>by unfold ky at h;rw[qN]at h;rcases h with h|h|h|h;exact t1 h;exact t2 h;simp at h;exact t4 h.2)
     clear qN V6 hA t1 t2;exact Zgy
   |cons l1 ls2=>
     subst hls;have t3:(1:Int)<(((l0::l1::ls2).length:Nat):Int):=by simp only[length_cons];omega
     have HB:=aa (show ky q from .inr (.inr (.inl (by rw[qN];simp))));generalize (l0::l1::ls2).length=n3 at*;clear qN V6 t1 t2;go_wp2_with fail;exact HE.ae _ HB.ae ⟨rfl,rfl,rfl⟩):=h
theorem afk(g1 g2 g4 g5 gp:Nat)(q:Qy)(L:QL)(T:x_)(hT:T.size=252)(h2:T.getD 2 undef=aw g2)(h4:T.getD 4 undef=aw g4)(h5:T.getD 5 undef=aw g5)(w:t_)(Q:y_)
  (hw:L.w.n=q.bQ.length) (hh:L.h.n=q.fE.length) (hl:L.l.n=q.lim.length) (V6:Wh w w.heap.size L.l.A q.lim) (hb2:aB w g2 27 (ft q L)) (b4:aB w g4 72 #[.pointer none]) (b5:aB w g5 34 #[af 0]) (vS:g4≠g5)
  (hE:∀a,ky q->rG a [] g4 g5->Q .ret a (jL w g4 g5 1))
  (hO:¬ky q->∀z39 z40 z41 z42 z43 z44 z45 z46 z47 z48 z49 z50 z51 z52 z53 z54 z55 z56 z57 z58 z59 z60 z61 z62 z63 z64 z65 z66 z67:Value,(eC bK 3).wp prog Q {tmps:=(((((((((((((((((((((((((((((T.setIfInBounds 39 z39).setIfInBounds 40 z40).setIfInBounds 41 z41).setIfInBounds 42 z42).setIfInBounds 43 z43).setIfInBounds 44 z44).setIfInBounds 45 z45).setIfInBounds 46 z46).setIfInBounds 47 z47).setIfInBounds 48 z48).setIfInBounds 49 z49).setIfInBounds 50 z50).setIfInBounds 51 z51).setIfInBounds 52 z52).setIfInBounds 53 z53).setIfInBounds 54 z54).setIfInBounds 55 z55).setIfInBounds 56 z56).setIfInBounds 57 z57).setIfInBounds 58 z58).setIfInBounds 59 z59).setIfInBounds 60 z60).setIfInBounds 61 z61).setIfInBounds 62 z62).setIfInBounds 63 z63).setIfInBounds 64 z64).setIfInBounds 65 z65).setIfInBounds 66 z66).setIfInBounds 67 z67),defers:=[]} w):
  (eC bK 2).wp prog Q {tmps:=T,defers:=[]} w:=by obtain⟨f,rfl⟩:=lM T hT;have h2:f 2=_:=h2;have h4:f 4=_:=h4;have h5:f 5=_:=h5;simp only[bU,Uac]at hO;simp only[bU,h2,h4,h5]at hO⊢;clear h2 h4 h5;clear h2 h4 h5 hT;have HE:=aa hE;unfold ft at hb2;have c3:=hb2.cell 3;have Kx:=hb2.cell 5;have c7:=hb2.cell 7;simp only[Uaa]at c3 Kx c7;rw[hw]at c3;rw[hh]at Kx;rw[hl]at c7;clear hw hh hl hE hb2;open zbV in exact ZaF
variable{B:Nat}{v:Value}
theorem OM{size base:Nat}{w:t_}{l:List α}(h:aH f e size w base v l)(hB:B<=base):aH f e size w B v l:=by refine⟨h.1,?_⟩;rcases h.2 with h|⟨g,cap,cur,h1,h2,h3⟩;exact Zis;exact .inr ⟨g,cap,cur,h1,fK hB h2,h3⟩
def PlB(B:Nat)(q:Qy)(L:QL)(CA:xP)(cc:Nat)(cols:List aZ)(w:t_)(g:Nat):Prop:=∃hv:Value,aB w g 81 #[.slice L.i.A L.i.n L.i.c,.string q.bU,.bool q.only,.slice L.w.A L.w.n L.w.c,.slice L.g.A L.g.n L.g.c,.slice L.h.A L.h.n L.h.c,.slice L.o.A L.o.n L.o.c,.slice L.l.A L.l.n L.l.c,.slice CA cols.length cc,az,az,.bool q.aJ,hv,az,az,az]/\aH aU 113 2 w B hv cols/\hv.ownBlock≠some g/\B<=g
variable{CA:xP}{cc:Nat}{cols:List aZ}{w':t_}
theorem PlB.later{w:t_}{g:Nat}(h:PlB B q L CA cc cols w g)(hb:ai w w'):PlB B q L CA cc cols w' g:=by obtain⟨hv,h1,h2,h3⟩:=h;exact⟨hv,h1.later hb,h2.later hb,h3⟩
def akJ(q:Qy)(L:QL)(CA:xP)(cc:Nat)(cols:List aZ)(B:Nat):Nat->t_->Value->Prop
 |0,_,v=>v=.agg #[.slice L.i.A L.i.n L.i.c,.string q.bU,.bool q.only,.slice L.w.A L.w.n L.w.c,.slice L.g.A L.g.n L.g.c,.slice L.h.A L.h.n L.h.c,.slice L.o.A L.o.n L.o.c,.slice L.l.A L.l.n L.l.c]
 |1,_,v=>v=.slice CA cols.length cc
 |2,_,v=>v=.agg #[.slice L.i.A L.i.n L.i.c,.string q.bU,.bool q.only,.slice L.w.A L.w.n L.w.c,.slice L.g.A L.g.n L.g.c,.slice L.h.A L.h.n L.h.c,.slice L.o.A L.o.n L.o.c,.slice L.l.A L.l.n L.l.c]
 |3,_,v=>v=.bool q.aJ
 |4,_,v=>v=.slice CA cols.length cc
 |5,w,v=>∃hv:Value,v=hv/\aH aU 113 2 w B hv cols
 |6,w,v=>∃hv:Value,v=.agg #[.slice L.i.A L.i.n L.i.c,.string q.bU,.bool q.only,.slice L.w.A L.w.n L.w.c,.slice L.g.A L.g.n L.g.c,.slice L.h.A L.h.n L.h.c,.slice L.o.A L.o.n L.o.c,.slice L.l.A L.l.n L.l.c,.slice CA cols.length cc,az,az,.bool q.aJ,hv,az,az,az]/\aH aU 113 2 w B hv cols
 |7,w,v=>∃g:Nat,v=aw g/\PlB B q L CA cc cols w g
 |_,_,_=>False
theorem Ta(q:Qy)(L:QL)(CA:xP)(cc:Nat)(cols:List aZ)(B:Nat):∀i w w' v,akJ q L CA cc cols B i w v->aj w w'->akJ q L CA cc cols B i w' v:=by
 intro i w w' v h hl
 match i with
 |0|1|2|3|4=>exact h
 |5=>exact Zg3
 |6=>exact Zg3
 |7=>exact Zg3
 |n+8=>exact h
theorem afm(q:Qy)(L:QL)(CA:xP)(cc:Nat)(cols:List aZ)(g2:Nat)(T:x_)(hT:T.size=252)(h1:T.getD 1 undef=.slice CA cols.length cc)(h2:T.getD 2 undef=aw g2)(w:t_)(Q:y_)
  (LK:su w q L) (bc:q.Ok) (hrc:RC w w.heap.size CA cols) (cj:cols.length<=1000) (hb2:aB w g2 27 (ft q L))
  (Kx:∀gp W z31 z32 z33 z34 z35 z36 z37 z38,PlB w.heap.size q L CA cc cols W gp->ai w W->(eC bK 2).wp prog Q {tmps:=(((((((((T.setIfInBounds 31 z31).setIfInBounds 32 z32).setIfInBounds 33 z33).setIfInBounds 34 z34).setIfInBounds 35 z35).setIfInBounds 36 z36).setIfInBounds 37 z37).setIfInBounds 38 z38).setIfInBounds 6 (aw gp)),defers:=[]} W):
  (eC bK 1).wp prog Q {tmps:=T,defers:=[]} w:=by
 obtain⟨f,rfl⟩:=lM T hT;have h1:f 1=_:=h1;have h2:f 2=_:=h2;simp only[bU,Uac]at Kx;simp only[bU,h1,h2]at Kx⊢;clear h1 h2;clear h1 h2 hT;have IJ:=aa LK;have iT:=aa bc;have HRC:=aa hrc;have Xx:=aa cj;have Ie:=aa hb2;unfold ft at Ie;simp only[bK,eC,f28,Option.getD_some]at Kx⊢;have HO:=aa Kx;clear Kx LK bc hrc cj hb2;obtain⟨B,hO⟩:∃B,B=w.heap.size:=⟨_,rfl⟩;have HBE:=aa hO;clear hO;refine wp_seq_k λ K hK=>?_;have Fl:=aa hK;clear hK;refine bD 8 (akJ q L CA cc cols B) (Ta _ _ _ _ _ _) Taa Taa Taa ?_ ?_
 ·simp only[take_succ_cons,take_zero];refine⟨Zb6,Zaa,Zb6,?_,Zaa,?_,?_,?_,trivial⟩
  ·intro ρ W4 hc hL hr;have h0:_=_:=hr.1;have e1:=hc.func 54;refine bu (f:=54) (args:= #[oF q L]) (w':=W4) (by unfold oF;simp[go_sem,e1,h0];done) ?_;refine(ME q L W4 (IJ.ae.later hL) iT.ae).mono ?_;exact Zbl
  intro ρ W4 hc hL hr;have h0:_=_:=hr.1;have e1:=hc.func 55;refine bu (f:=55) (args:= #[.slice CA cols.length cc]) (w':=W4) TaE ?_;refine(Kr CA cc cols W4 (HRC.ae.later hL) Xx.ae).mono ?_;rintro e4 w4 ⟨v4,rfl,ho4,b4⟩;exact⟨_,rfl,b4,_,rfl,OM ho4 (HBE.ae▸hL.size)⟩
  ·intro ρ W4 hc hL hr;have h0:_=_:=hr.1;have h1:_=_:=hr.2.1;have h2:_=_:=hr.2.2.1;obtain⟨hv3,h3,arU⟩:∃hv:Value,ρ (.tmp 36)=hv/\aH aU 113 2 W4 B hv cols:=hr.2.2.2.1;obtain⟨HA,hc9,hh,_⟩:=arU.reads;subst hh;exact aq (v:=.agg #[.slice L.i.A L.i.n L.i.c,.string q.bU,.bool q.only,.slice L.w.A L.w.n L.w.c,.slice L.g.A L.g.n L.g.c,.slice L.h.A L.h.n L.h.c,.slice L.o.A L.o.n L.o.c,.slice L.l.A L.l.n L.l.c,.slice CA cols.length cc,az,az,.bool q.aJ,(Value.slice HA cols.length hc9),az,az,az]) (w':=W4) (by simp[go_sem,h0,h1,h2,h3];done) ⟨aj.refl _,_,rfl,arU⟩
  intro ρ W4 hc hL hr;obtain⟨hv0,h0,gC⟩:∃hv:Value,ρ (.tmp 37)=.agg #[.slice L.i.A L.i.n L.i.c,.string q.bU,.bool q.only,.slice L.w.A L.w.n L.w.c,.slice L.g.A L.g.n L.g.c,.slice L.h.A L.h.n L.h.c,.slice L.o.A L.o.n L.o.c,.slice L.l.A L.l.n L.l.c,.slice CA cols.length cc,az,az,.bool q.aJ,hv,az,az,az]/\aH aU 113 2 W4 B hv cols:=hr.1;refine aq (v:=aw W4.heap.size) (w':=W4.alloc (.cells #[.slice L.i.A L.i.n L.i.c,.string q.bU,.bool q.only,.slice L.w.A L.w.n L.w.c,.slice L.g.A L.g.n L.g.c,.slice L.h.A L.h.n L.h.c,.slice L.o.A L.o.n L.o.c,.slice L.l.A L.l.n L.l.c,.slice CA cols.length cc,az,az,.bool q.aJ,hv0,az,az,az] 81)) Tas ⟨ah W4 _,_,rfl,?_⟩;exact⟨hv0,aB.new W4 _ _,gC.later (ah W4 _),λ e=>(by have:=(gC.lt e).1;omega),HBE.ae▸hL.size⟩
 intro W3 hL;simp only[Uab];rintro a0-a1-a2-a3-a4-a5-a6-a7 ⟨g_7,rfl,Xs⟩;simp only[bw,Act.put,Uac];have axG:=aa hL;have rH:=aa Xs;clear Xs hL;go_wp2_with fail;have hp:=rH.ae;rw[HBE.ae]at hp;exact Fl.ae _ _ (HO.ae _ _ _ _ _ _ _ _ _ _ hp axG.ae)
theorem aat(q:Qy)(L:QL)(T:x_)(hT:T.size=252)(h0:T.getD 0 undef=oF q L)(w:t_)(Q:y_)
  (hO:∀W g2 g4 g5 z2 z4 z5,z2=aw g2->z4=aw g4->z5=aw g5->aB W g2 27 (ft q L)->aB W g4 72 #[.pointer none]->aB W g5 34 #[af 0]->ai w W->w.heap.size<=g2/\g2<g4/\g4<g5->(eC bK 1).wp prog Q {tmps:=((T.setIfInBounds 2 z2).setIfInBounds 4 z4).setIfInBounds 5 z5,defers:=[]} W):
  bK.wp prog Q {tmps:=T,defers:=[]} w:=by
 obtain⟨f,rfl⟩:=lM T hT;have h0:f 0=_:=h0;have bb:=ah w (.cells (ft q L) 27);have HX:=aB.new w 27 (ft q L);obtain⟨W1,hW1⟩:∃W1,W1=w.alloc (.cells (ft q L) 27):=⟨_,rfl⟩;have s1:W1.heap.size=w.heap.size+1:=by rw[hW1,World.size_alloc]
 rw[<-hW1]at bb HX;have hL:=ah W1 (.cells #[.pointer none] 72);have k4:=aB.new W1 72 #[.pointer none];obtain⟨W2,hW2⟩:∃W2,W2=W1.alloc (.cells #[.pointer none] 72):=⟨_,rfl⟩;have s2:W2.heap.size=W1.heap.size+1:=by rw[hW2,World.size_alloc]
 rw[<-hW2]at hL k4;have b3:=ah W2 (.cells #[af 0] 34);have k5:=aB.new W2 34 #[af 0];have dU:=hO _ w.heap.size W1.heap.size W2.heap.size _ _ _ rfl rfl rfl ((HX.later hL).later b3) (k4.later b3) k5 (Below.trans (Below.trans bb (hL.mono WC)) (b3.mono WC)) ⟨aE,by omega,by omega⟩;simp only[bU,Uac]at dU;simp only[bU,h0]at dU⊢;subst hW2;subst hW1;clear h0 hO s1 s2 bb hL b3 HX k4 k5;clear h0 hT;simp only[World.size_alloc]at dU;unfold ft oF at*;simp only[bK,eC,f28,Option.getD_some]at dU⊢;refine wp_seq_k λ K hK=>?_;have HK:=aa hK;have xG:=aa dU;clear hK dU;go_wp2_with fail;exact HK.ae _ _ xG.ae
def BF(q:Qy)(L:QL)(CA:xP)(cc:Nat)(cols:List aZ):PC:=⟨.slice L.i.A L.i.n L.i.c,.string q.bU,.bool q.only,.slice L.w.A L.w.n L.w.c,.slice L.h.A L.h.n L.h.c,.slice L.o.A L.o.n L.o.c,.slice L.l.A L.l.n L.l.c,L.g.A,L.g.n,L.g.c,CA,cc,q.aJ,q.aG,cols⟩
def lO:Value:=az
variable{gp g2 g4 g5 D:Nat}{hv:Value}
theorem aau{w:t_}(hb:ai w0 w)(hB0:w0.heap.size<=B)(hblk:aB w gp 81 ((BF q L CA cc cols).cells ⟨hv,lO,lO,lO⟩ lO lO))(ho:aH aU 113 2 w B hv cols)(hg:hv.ownBlock≠some gp)(hBg:B<=gp)
  (k2:aB w g2 27 (ft q L)) (k4:aB w g4 72 #[.pointer none]) (k5:aB w g5 34 #[af 0]) (l2:g2<B) (l4:g4<B) (l5:g5<B) (m4:w0.heap.size<=g4) (m5:w0.heap.size<=g5) (BU:g4≠g5)
  (hW:ai w W) (hD:w.heap.size<=D) (hd:W.heap[D]?=some (.deferred (some []))):
  cW (BF q L CA cc cols) w0 gp g2 (ft q L) g4 g5 D ⟨hv,lO,lO,lO⟩ W lO lO [] ⟨[],[]⟩ cols [] [] [] [] [] []:=by
 have Br:=hblk.lt;have hs:=hW.size;have hDl:D<W.heap.size:=by rcases gR D W.heap.size with h|h;exact h;rw[Array.getElem?_eq_none h]at hd;cases hd
 have hown:∀i<6,∀b,(PR lO lO ⟨hv,lO,lO,lO⟩ i).ownBlock=some b->i=2/\B<=b/\b<w.heap.size/\b≠gp:=λ i hi b hb=>by
  match i with
  |0|1|3|4=>cases hb
  |2=>have hb:hv.ownBlock=some b:=hb;exact⟨rfl,(ho.lt hb).2.1,(ho.lt hb).1,λ e=>hg (by rw[hb,e])⟩
  |n+5=>cases hb
 have kp:∀b,b<W.heap.size->b≠gp->(b<B\/w.heap.size<=b)->ug W gp (PR lO lO ⟨hv,lO,lO,lO⟩) b:=λ b h1 h2 h3=>⟨h1,h2,λ i hi e=>by obtain⟨_,h4,h5,_⟩:=hown i hi b e;omega⟩
 have n2:=k2.lt;have n4:=k4.lt;have n5:=k5.lt;refine⟨⟨by omega,by omega,Below.trans hb (hW.mono hb.size),λ i hi b e=>?_,λ i hi j hj kE b e1 e2=>kE ((hown i hi b e1).1.trans (hown j hj b e2).1.symm),kp g2 WC WC (.inl l2),kp g4 WC WC (.inl l4),kp g5 WC WC (.inl l5),kp D hDl WC (.inr hD),⟨m4,m5,BU,by omega,by omega⟩,hd,k2.later hW,k4.later hW,k5.later hW⟩,hblk.later hW,px,px,OM (ho.later hW) hB0,px,px,px,?_,?_,?_,?_⟩
 ·obtain⟨_,h4,h5,h6⟩:=hown i hi b e;exact⟨by omega,by omega,h6⟩
 all_goals (unfold Tr.aO;rfl)
def aav(c:PC)(w0:t_)(q:Qy)(L:QL)(e:Ending)(W:t_):Prop:=
 (∃er,(ky q/\er=1\/¬ky q/\tz c.aJ c.aG c.cols q=.error er)/\er≠0/\e=.returned (.tuple #[.pointer none,af er])/\ai w0 W)\/
 (∃gp g2 g4 g5 D r W1 u v ya s hd yi yh yo ti th eP,¬ky q/\tz c.aJ c.aG c.cols q=.ok (ti,hd,th,eP,s)/\e=.returned (.tuple #[aw gp,af 0])/\w0.heap.size<=D/\cW c w0 gp g2 (ft q L) g4 g5 D r W1 u v ya s ((if q.items=[] then c.cols else [])++hd) yi yh yo ti th eP/\W=(jT W1 g4 g5 gp).putObj D (.deferred none))
variable{T:x_}
theorem Cf{a b:Value}(h4:T.getD 4 undef=aw g4)(h5:T.getD 5 undef=aw g5)(c4:W.cell? ⟨g4,0,none⟩=some a)(c5:W.cell? ⟨g5,0,none⟩=some b):(results f28 T).run prog W=.ok (.tuple #[a,b]) W:=by
 have e4:T[4]?.getD undef=aw g4:=by rw[<-h4];simp[Array.getD_eq_getD_getElem?]
 have e5:T[5]?.getD undef=aw g5:=by rw[<-h5];simp[Array.getD_eq_getD_getElem?]
 simp[results,f28,go_sem,e4,e5,c4,c5]
theorem afn:f28.body=some bK:=by unfold bK;simp only[f28,Option.getD_some]
theorem afo(a b:Value):(#[a,b]++Array.replicate (f28.ntmps-(#[a,b]:x_).size) undef).size=252:=by simp[f28]
variable{er:Int}
theorem IK(b4:aB W g4 72 #[.pointer none])(b5:aB W g5 34 #[af 0])(h:g4≠g5):(jL W g4 g5 er).cell? ⟨g4,0,none⟩=some (.pointer none)/\(jL W g4 g5 er).cell? ⟨g5,0,none⟩=some (af er):=
 ⟨(((b4.aW 0 (.pointer none)).far (p:=⟨g5,0,none⟩) h (af er)).cell 0),((b5.far (p:=⟨g4,0,none⟩) (Ne.symm h) (.pointer none)).aW 0 (af er)).cell 0⟩
theorem aaw(b4:aB W g4 72 #[.pointer none])(b5:aB W g5 34 #[af 0])(h:g4≠g5):(jT W g4 g5 gp).cell? ⟨g4,0,none⟩=some (aw gp)/\(jT W g4 g5 gp).cell? ⟨g5,0,none⟩=some (af 0):=
 ⟨(((b4.aW 0 (aw gp)).far (p:=⟨g5,0,none⟩) h (af 0)).cell 0),((b5.far (p:=⟨g4,0,none⟩) (Ne.symm h) (aw gp)).aW 0 (af 0)).cell 0⟩
variable{ob ob':Obj}
theorem my(h:W.heap[D]?=some ob)(hc:ob.isCells=false){p:Addr}(hv:W.cell? p=some v):(W.putObj D ob').cell? p=some v:=(Fr.putObj W D ob ob' h hc).cell p v hv
theorem vT{w:t_}(h:Below B w W)(hD:B<=D):Below B w (W.putObj D ob'):=
 ⟨h.os,h.tape,h.output,by simpa using h.size,λ k hk=>(World.putObj_heap_other WC).trans (h.block k hk)⟩
def zhz.Kb5(h:p:=by refine⟨by simp,.inl ⟨_,_,rfl,run_takeDeferred hK,?_⟩⟩;exact⟨_,Cf r4 r5 (my hK rfl c4) (my hK rfl c5),.inr ⟨gp,g2,g4,g5,D,r',W,u',v',rE,s',wC,yi,yh,yo,ti,th,eP,WH,he,rfl,hDl,hp,rfl⟩⟩):=h
def ziP.KcB(h:p:=by
 clear LM;have HRC:=hq.ok.cols;refine aat q L T hT t0 w0 _ ?_;intro Wa g2 g4 g5 x2 x4 x5 e2 e4 e5 k2 k4 k5 hba hg;have HBa:ai w0 Wa:=hba;have t0':T[0]?.getD undef=oF q L:=by rw[<-t0];simp[Array.getD_eq_getD_getElem?]
 have t1':T[1]?.getD undef=.slice CA cols.length cc:=by rw[<-t1];simp[Array.getD_eq_getD_getElem?]
 have arV:T[1]'(by rw[hT];decide)=.slice CA cols.length cc:=by have h:=t1';rw[Array.getElem?_eq_getElem (by rw[hT];decide)]at h;exact h
 refine afm q L CA cc cols g2 _ TaH ?_ ?_ Wa _ (LK.later hba) bc (HRC.later hba) cj k2 ?_;exact ZhN;exact ZfI;intro gp Wb z31 z32 z33 z34 z35 z36 z37 z38 hpl ly;obtain⟨hv,p1,p2,p3,p4⟩:=hpl;have q2:=k2.later ly;have q4:=k4.later ly;have q5:=k5.later ly;have hB:=Below.trans hba (ly.mono hba.size);refine afk g2 g2 g4 g5 gp q L _ TaH ZfI Zh8 Zh9 Wb _ LK.w.n LK.h.n LK.l.1 ((LK.later hB).l.2) q2 q4 q5 WC ?_ ?_;rintro⟨ta,da⟩ kN ⟨rfl,r4,r5⟩;obtain⟨c4,c5⟩:=IK (er:=1) q4 q5 WC;refine⟨_,Cf r4 r5 c4 c5,.inl ⟨1,.inl ⟨kN,rfl⟩,by decide,rfl,(hB.setCell (p:=⟨g4,0,none⟩) (show w0.heap.size<=g4 by omega) _).setCell (p:=⟨g5,0,none⟩) (show w0.heap.size<=g5 by omega) _⟩⟩;intro WH y39 y40 y41 y42 y43 y44 y45 y46 y47 y48 y49 y50 y51 y52 y53 y54 y55 y56 y57 y58 y59 y60 y61 y62 y63 y64 y65 y66 y67;refine afj (BF q L CA cc cols) w0 gp g2 g4 g5 q L ⟨hv,lO,lO,lO⟩ lO lO cols _ TaH ?_ ?_ ?_ ?_ ?_ Wb _ hq ?_ hB q2 q4 q5 WC WC WC ?_ ?_ ?_;exact ZhN;exact ZfI;exact Zh8;exact Zh9;simp[Array.getD_eq_getD_getElem?,Array.getElem?_setIfInBounds,hT];intro W D hW hD hd;exact aau hB hba.size p1 p2 p3 p4 q2 q4 q5 k2.lt k4.lt k5.lt WC WC WC hW hD hd;rintro D ⟨ta,da⟩ W hDl arW ⟨rfl,r4,r5⟩ ⟨d1,d2,d3⟩ hK;refine⟨by simp,.inl ⟨_,_,rfl,run_takeDeferred hK,?_⟩⟩;refine⟨_,Cf r4 r5 (my hK rfl (d2.cell 0)) (my hK rfl (d3.cell 0)),.inl ⟨1,.inr ⟨WH,if_pos arW⟩,by decide,rfl,vT d1 hDl⟩⟩
 ·rintro D er ⟨ta,da⟩ W hDl he hne ⟨rfl,r4,r5⟩ ⟨w1,w2,w3,w4,w5,w6,w7,w8,w9⟩;obtain⟨c4,c5⟩:=IK (er:=er) w7 w8 w4;have hK:(jL W g4 g5 er).heap[D]?=some (.deferred (some [])):=by unfold jL;rw[Below.heap_setCell _ ⟨g5,0,none⟩ _ D (Ne.symm w6),Below.heap_setCell _ ⟨g4,0,none⟩ _ D (Ne.symm w5)];exact w9
  refine⟨by simp,.inl ⟨_,_,rfl,run_takeDeferred hK,?_⟩⟩;refine⟨_,Cf r4 r5 (my hK rfl c4) (my hK rfl c5),.inl ⟨er,.inr ⟨WH,he⟩,hne,rfl,vT ((w1.setCell (p:=⟨g4,0,none⟩) w2 _).setCell (p:=⟨g5,0,none⟩) w3 _) hDl⟩⟩
 rintro D ⟨ta,da⟩ W r' u' v' rE s' wC yi yh yo ti th eP hDl he ⟨rfl,r4,r5⟩ hp;have hf:=hp.f;obtain⟨c4,c5⟩:=aaw (gp:=gp) hf.z4 hf.z5 hf.new.2.2.1;open zhz in exact ZfO):=h
theorem OO(q:Qy)(L:QL)(CA:xP)(cc:Nat)(cols:List aZ)(w0:t_)(LK:su w0 q L)(bc:q.Ok)(cj:cols.length<=1000)(hq:EU (BF q L CA cc cols) w0 q L cols):
  ar 28 #[oF q L,.slice CA cols.length cc] w0 (aav (BF q L CA cc cols) w0 q L):=by
 refine(callsIn_wide (n:=4)).1 ?_;refine callsIn_of_wp_marks (c:=bK) func28 afn trivial ?_ rfl;refine wpIn_wide.2 ?_;obtain⟨T,LM⟩:∃T:x_,T= #[oF q L,.slice CA cols.length cc]++Array.replicate (f28.ntmps-(#[oF q L,.slice CA cols.length cc]:x_).size) undef:=⟨_,rfl⟩;rw[<-LM];have hT:T.size=252:=by rw[LM];exact afo _ _
 open ziP in exact ZiK
theorem aax(cols:List aZ)(h:ky q):et q cols=.error 1:=by unfold et;exact if_pos h
theorem IL(cols:List aZ)(h:¬ky q):et q cols=match tz q.aJ q.aG cols q with
  |.error e=>.error e
  |.ok (is,hd,hs,os,s)=>.ok ⟨q.aJ,if q.items=[] then cols else hd,s,is,hs,os⟩:=by
 unfold et tz;rw[if_neg (show¬(1<q.bQ.length\/1<q.fE.length\/1<q.lim.length\/(q.lim.length=1/\q.lim.getD 0 0<0))from h)];by_cases hd:(q.all.any λ t=>decide (32<t.depth))=true;rw[if_pos hd,if_pos hd];rw[if_neg hd,if_neg hd];unfold yq;cases qf cols q.bQ with
 |error e=>rfl
 |ok u=>
   dsimp only;unfold ym
   cases lF cols q.aG 0 with
   |error e=>rfl
   |ok gc=>
     dsimp only;unfold AE;by_cases hi:q.items=[]/\q.aJ=true
     rw[if_pos hi,if_pos hi];rw[if_neg hi,if_neg hi];unfold yl;cases dr q.aJ q.aG cols q.items ⟨[],gc⟩with
     |error e=>rfl
     |ok p=>
       obtain⟨is,hd,s1⟩:=p;dsimp only;unfold II;cases dt q.aJ q.aG cols q.fE s1 with
       |error e=>rfl
       |ok p=>
         obtain⟨hs,s2⟩:=p;dsimp only;cases eF q.aJ q.aG cols q.ord s2 with
         |error e=>rfl
         |ok p=>rfl
variable{aG is hs os:vI}
theorem Yf{g:Bool}{s:dE}(hi:q.items=[])(h:tz g aG cols q=.ok (is,hd,hs,os,s)):hd=[]:=by unfold tz at h;split at h;cases h;unfold yq at h;split at h;cases h;unfold ym at h;split at h;cases h;unfold AE at h;split at h;cases h;unfold yl at h;rw[hi]at h;unfold dr at h;dsimp only at h;split at h;cases h;injection h with h;injection h with _ h;injection h with h _;exact h.symm
mutual
theorem Tr.at_.ex{w w':t_}{S S':Nat->Prop}(hE:∀b off x,cC w b off x->cC w' b off x)(hS:∀b,S b->S' b):∀(t:Tr) (y:Ex),t.at_ w S y->t.at_ w' S' y
 |.mk op v name width args,y,h=>by unfold Tr.at_ at h⊢;obtain⟨h1,h2,h3,h4,h5,ys,h6,h7⟩:=h;refine⟨h1,h2,h3,h4,h5,ys,?_,Tr.aO.ex hE hS args ys h7⟩;rcases h6 with h6|⟨b,off,k1,k2,k3⟩;exact .inl h6;exact .inr ⟨b,off,k1,hS b k2,λ i x hx=>hE _ _ _ (k3 i x hx)⟩
theorem Tr.aO.ex{w w':t_}{S S':Nat->Prop}(hE:∀b off x,cC w b off x->cC w' b off x)(hS:∀b,S b->S' b):∀(ts:vI) (ys:v_),Tr.aO w S ts ys->Tr.aO w' S' ts ys
 |[],ys,h=>by unfold Tr.aO at h⊢;exact h
 |t::ts,ys,h=>by unfold Tr.aO at h⊢;obtain⟨y,ys',h1,h2,h3⟩:=h;exact⟨y,ys',h1,Tr.at_.ex hE hS t y h2,Tr.aO.ex hE hS ts ys' h3⟩
end
variable{off:Nat}
theorem aay{w:t_}{g:Nat}{a:Value}{x:Ex}(hb:aB w g t #[a])(h:cC w g off x):False:=by unfold cC at h;have h1:=h.2.1;rw[hb.cell]at h1;simp at h1
theorem aaz{w:t_}{g:Nat}{a:Value}(hb:aB w g t #[a])(b off:Nat)(x:Ex)(h:cC w b off x):cC (w.setCell ⟨g,0,none⟩ v) b off x:=by
 have hne:b≠g:=λ e=>by subst e;exact aay hb h
 exact h.keep λ o=>bI (Below.heap_setCell w ⟨g,0,none⟩ v b hne) o
theorem Yg(b4:aB W g4 72 #[.pointer none])(b5:aB W g5 34 #[af 0])(h:g4≠g5)(hD:(jT W g4 g5 gp).heap[D]?=some (.deferred (some [])))(b off:Nat)(x:Ex)(hx:cC W b off x):cC ((jT W g4 g5 gp).putObj D (.deferred none)) b off x:=
 (aaz (b5.far (p:=⟨g4,0,none⟩) (Ne.symm h) (aw gp)) b off x (aaz b4 b off x hx)).fr (Fr.putObj _ D _ _ hD rfl)
structure ahv (c:PC) (w0 W:t_) (gp:Nat) (r:Rest) (u v:Value) (ya yi yh yo:v_) (p:iY):Prop where
 base:ai w0 W
 low:w0.heap.size<=gp
 blk:aB W gp 81 (c.cells r u v)
 o0:aH bH 46 7 W w0.heap.size u ya
 o1:aH aU 113 2 W w0.heap.size v p.st.aG
 o2:aH aU 113 2 W w0.heap.size r.h p.head
 o3:aH bH 46 7 W w0.heap.size r.i yi
 o4:aH bH 46 7 W w0.heap.size r.j yh
 o5:aH bH 46 7 W w0.heap.size r.o yo
 aD:Tr.aO w0 (Old w0) p.st.aD ya
 t3:Tr.aO W (Old W) p.items yi
 t4:Tr.aO W (Old W) p.having yh
 t5:Tr.aO W (Old W) p.order yo
def Lk(q:Qy)(L:QL)(CA:xP)(cc:Nat)(cols:List aZ)(w0:t_)(e:Ending)(W:t_):Prop:=
 match et q cols with
 |.error er=>er≠0/\e=.returned (.tuple #[.pointer none,af er])/\ai w0 W
 |.ok p=>∃gp r u v ya yi yh yo,e=.returned (.tuple #[aw gp,af 0])/\ahv (BF q L CA cc cols) w0 W gp r u v ya yi yh yo p
def zhA.Kb5(h:p:=by
 have hs:Kx.heap.size=W.heap.size:=by rw[hW];simp[jT]
 have ahw:∀b,b≠g4->b≠g5->b≠D->Kx.heap[b]?=W.heap[b]?:=λ b a1 a2 a3=>by rw[hW,World.putObj_heap_other a3];unfold jT;rw[Below.heap_setCell _ ⟨g5,0,none⟩ _ b a2,Below.heap_setCell _ ⟨g4,0,none⟩ _ b a1]
 have hex:=λ b off x=>hW▸Yg (gp:=gp) hf.z4 hf.z5 hf.new.2.2.1 hK b off x;have hS:∀b,ug W gp (PR u v r) b->Old Kx b:=λ b hb=>by show b<Kx.heap.size;rw[hs];exact hb.1
 have hrow:∀{α:Type}{f:α->xr}{t:TypeId}{size:Nat}{l:List α}(i:Nat),i<6->aH f t size W w0.heap.size (PR u v r i) l->aH f t size Kx w0.heap.size (PR u v r i) l:=λ i hi ho=>ho.keep λ g hg=>ahw g (λ e=>hf.k4.2.2 i hi (e▸hg)) (λ e=>hf.k5.2.2 i hi (e▸hg)) (λ e=>hf.kD.2.2 i hi (e▸hg));refine⟨gp,r,u,v,ya,yi,yh,yo,he,⟨?_,hf.low,(ahw gp (Ne.symm hf.k4.2.1) (Ne.symm hf.k5.2.1) (Ne.symm hf.kD.2.1)).trans hp.blk,hrow 0 WC hp.o0,hrow 1 WC hp.o1,hrow 2 WC (Uf▸hp.o2),hrow 3 WC hp.o3,hrow 4 WC hp.o4,hrow 5 WC hp.o5,hp.aD,Tr.aO.ex hex hS _ _ hp.t3,Tr.aO.ex hex hS _ _ hp.t4,Tr.aO.ex hex hS _ _ hp.t5⟩⟩;rw[hW];exact vT ((hf.base.setCell (p:=⟨g4,0,none⟩) hf.new.1 _).setCell (p:=⟨g5,0,none⟩) hf.new.2.1 _) hDl):=h
theorem Tb(q:Qy)(L:QL)(CA:xP)(cc:Nat)(cols:List aZ)(w0:t_)(LK:su w0 q L)(bc:q.Ok)(cj:cols.length<=1000)(hq:EU (BF q L CA cc cols) w0 q L cols):
  ar 28 #[oF q L,.slice CA cols.length cc] w0 (Lk q L CA cc cols w0):=by
 refine(OO q L CA cc cols w0 LK bc cj hq).mono ?_;rintro e Kx (⟨er,h1,h2,h3,h4⟩|⟨gp,g2,g4,g5,D,r,W,u,v,ya,s,hd,yi,yh,yo,ti,th,eP,hn,hr,he,hDl,hp,hW⟩)
 ·have hx:et q cols=.error er:=by
   rcases h1 with⟨hb,rfl⟩|⟨hb,hr⟩
   exact aax cols hb;have hr:tz q.aJ q.aG cols q=.error er:=hr;rw[IL cols hb,hr]
  unfold Lk;rw[hx];exact⟨h2,h3,h4⟩
 have hr:tz q.aJ q.aG cols q=.ok (ti,hd,th,eP,s):=hr;have hx:et q cols=.ok ⟨q.aJ,if q.items=[] then cols else hd,s,ti,th,eP⟩:=by rw[IL cols hn,hr]
 have Uf:((if q.items=[] then cols else [])++hd)=(if q.items=[] then cols else hd):=by by_cases hi:q.items=[];rw[if_pos hi,if_pos hi,Yf hi hr,append_nil];rw[if_neg hi,if_neg hi,nil_append]
 unfold Lk;rw[hx];have hf:=hp.f;open zhA in exact ZfO
theorem EU.later{w:t_}(h:EU (BF q L CA cc cols) w q L hd)(hb:ai w w'):EU (BF q L CA cc cols) w' q L hd:=
 ⟨⟨h.ok.env.later hb,h.ok.aG.later hb,h.ok.gok,h.ok.gl,h.ok.cols.later hb,h.ok.cl⟩,h.qw,h.iw.later hb,h.nw,h.qg,h.ig.later hb,h.ng,h.qi,h.ii.later hb,h.ni,h.nh,h.qh,h.ih.later hb,h.nhv,h.qo,h.io.later hb,h.no,h.len⟩
def akK(gb:Nat)(le:Int):Nat->t_->Value->Prop
 |0,_,v=>v=aw gb
 |1,_,v=>v=af le
 |2,_,v=>v=az
 |3,_,v=>v=af le
 |_,_,_=>False
theorem Tc(gb:Nat)(le:Int):∀i w w' v,akK gb le i w v->aj w w'->akK gb le i w' v:=by
 intro i w w' v h hl
 match i with
 |0|1|2|3=>exact h
 |n+4=>exact h
theorem afp(gb:Nat)(le:Int)(lv:Value)(T:x_)(hT:T.size=164)(h9:T.getD 9 undef=aw gb)(h10:T.getD 10 undef=lv)(d:List Deferred)(w:t_)(Q:y_)(cL:aB w gb 84 #[af le])
  (hE:le≠0->∀a W,a.defers=d->a.tmps.getD 4 undef=az->a.tmps.getD 5 undef=af le->ai w W->Q .ret a W)
  (hO:le=0->∀T':x_,T'.size=164->T'.getD 9 undef=aw gb->T'.getD 10 undef=lv->(eC iz 8).wp prog Q {tmps:=T',defers:=d} w):
  (eC iz 7).wp prog Q {tmps:=T,defers:=d} w:=by
 obtain⟨f,rfl⟩:=KQ T hT;have h9:f 9=_:=h9;have h10:f 10=_:=h10;simp only[frg,h9,h10];clear h9 h10;clear h9 h10 hT;have KK:=λ h0 (T':x_) a0 a1 a2=>hO h0 T' a0 a1 a2;simp only[iz,eC,f33,Option.getD_some]at KK;have HH:=aa KK;have HE:=aa hE;have HK:=aa cL;have y1:=cL.cell 0;simp only[getElem?_toArray,getElem?_cons_zero]at y1;clear KK hO hE cL;simp only[iz,eC,f33,Option.getD_some];refine wp_seq_k λ K hK=>?_;have Fl:=aa hK;clear hK;by_cases h:le=0
 ·have t1:(le != 0)=false:=by simp[h]
  have H:=aa h;clear h;go_wp2_with fail;exact Fl.ae _ _ (HH.ae H.ae _ rfl rfl rfl)
 have t1:(le != 0)=true:=by simp[h]
 have H:=aa h;clear h;go_upto_region 23 with fail;clear y1;refine bD 4 (akK gb le) (Tc _ _) Taa Taa Taa ?_ ?_;simp only[take_succ_cons,take_zero];refine⟨Zaa,Zbs,Zg5,Zaa,trivial⟩;intro W3 hL;simp only[Uab];rintro _ rfl _ rfl _ rfl _ rfl;simp only[bw,Act.put,Uac];go_wp2_with fail;exact HE.ae H.ae _ _ rfl rfl rfl hL
def zgX.KbQ(h:p:=by
 have xG:=aa (HP.ae.later bY);have HRD:=aa (HRE.ae.later bY).reads;have hb2:=aj.then hb bY;have hbase:=hb2.size;obtain⟨i0,kB,hg4,pD,HZ⟩:=info_parts gh;have HI:=aa kB;have LI:=aa hg4;have Ie:=aa pD;have uv:=aa HZ;have aFj:=arX;clear bY hR hex ly hb HP HRE kB hg4 pD HZ;go_wp2_with (first
  |(at_builtin
    refine cN _ rfl (.tmp 35) (.tmp 37) 23 rfl w.heap.size 46 i0 _ 7 88 underlying23 HI.ae LI.ae Ie.ae uv.ae rfl WC _ zs.length (zs.flatMap bH) rfl xG.ae _ x.A x.ys.length x.c (x.ys.flatMap bH) rfl HRD.ae (Rs x.ys) Tam WC hbase ?_;intro v4 w4 o4 g4 _;have O4:=aa (show aH bH 46 7 w4 w.heap.size v4 (zs++x.ys) by unfold aH;rw[length_append,flatMap_append];exact o4)
    have B4:=aa (bj xG.ae g4 hbase);clear o4 g4))
 go_roundw;case rel=>exact⟨i+1,hlt,by go_num,by rw[nx.ae];exact O4.ae,hb2.trans B4.ae⟩
 case measure=>exact Za2):=h
def zgu.KbG(h:p:=by
 go_wp2_with fail;clear c9;go_loopw [6,31] (λ av Ly wr=>∃i:Nat,i<=aG.length/\Ly=af i/\aH bH 46 7 wr w.heap.size av ((ls.take i).flatMap uM.ys)/\ai w wr) (λ _ Ly _=>aG.length-(intOf Ly).toNat);case atStart=>exact Zc2
 case round=>
  obtain⟨i,hk,rfl,hp,hb⟩:=hrel;have HP:=aa hp;clear hp;by_cases hlt:i<aG.length
  ·obtain⟨b,off,rfl,ly,hex⟩:=(iT.ae.ra.below hb).at_ hlt;have hlk:i<ls.length:=by rw[HFN.ae];exact hlt
   have hk9:i<=100000:=by have:=HO.ae;omega
   obtain⟨e1,e2,e3,Er⟩:=HK.ae i aG[i] ls[i] (getElem?_eq_getElem hlt) (getElem?_eq_getElem hlk);have nx:=aa (show(ls.take (i+1)).flatMap uM.ys=(ls.take i).flatMap uM.ys++ls[i].ys by rw[take_add_one,getElem?_eq_getElem hlk,flatMap_append];simp);have arX:((ls.take i).flatMap uM.ys).length+ls[i].ys.length<=100000:=by
    have h1:((ls.take (i+1)).flatMap uM.ys).length<=(ls.flatMap uM.ys).length:=by
     have h2:ls.flatMap uM.ys=(ls.take (i+1)).flatMap uM.ys++(ls.drop (i+1)).flatMap uM.ys:=by rw[<-flatMap_append,take_append_drop]
     rw[h2,length_append];omega
    rw[nx.ae,length_append]at h1;have:=HS.ae;omega
   have HRE:=aa ((Er.below hb).more hb.size);generalize aG[i]=y at*;generalize ls[i]=x at*;generalize (ls.take i).flatMap uM.ys=zs at*;unfold cC at hex;rw[e1,e2,e3]at hex;clear e1 e2 e3 Er hlk;go_upto_region 5 with fail;have bY:=ah wr (.cells #[ag y.op,ag y.v.k,af y.v.n,.string y.v.s,.string y.name,af y.width,.slice x.A x.ys.length x.c] 46);have hR:=aB.new wr 46 #[ag y.op,ag y.v.k,af y.v.n,.string y.v.s,.string y.name,af y.width,.slice x.A x.ys.length x.c];open zgX in exact Ze6
  have fX:i=aG.length:=by omega
  subst fX;have HAV:=aa (show aH bH 46 7 wr w.heap.size u6 (ls.flatMap uM.ys) by have h1:=HP.ae;rwa [<-HFN.ae,take_length]at h1);clear HP;go_wp2_with fail;refine Kh.ae _ _ ?_;clear Kh hlt hk;have b1:=ah wr (.cells #[af 0] 84);have k1:=aB.new wr 84 #[af 0];have Ae:=aa k1;have akL:=aa (HAV.ae.later b1);have eZ:=aa (Below.trans hb (b1.mono hb.size));have HLT:=aa hb.size;clear b1 k1 HAV hb;refine wp_seq_k λ K0 hK=>?_;have Fl:=aa hK;clear hK;go_wp2_with fail;refine Fl.ae _ _ ?_;clear Fl;generalize wr.alloc (.cells #[af 0] 84)=W1 at*;generalize wr.heap.size=gb at*;refine wp_seq_k λ K4 hK4=>?_;have Ef:=aa hK4;clear hK4;go_wp2_with fail;refine Ef.ae _ _ ?_;clear Ef;refine wp_seq_k λ K5 hK5=>?_;have HK5:=aa hK5;clear hK5;have Np:=aa (iT.ae.later eZ.ae);have c4:=Np.ae.c4;rw[Nj.ae]at c4;by_cases hg0:gn=0
  ·have t1:((gn:Int)==0)=true:=by simp[hg0]
   have HG0:=aa hg0;clear hg0;go_wp2_with fail;clear c4 t1;refine(Hx gp aG AA ac none 0 0 W1 (by have:=HO.ae;omega) Np.ae.lt Np.ae.c9 Np.ae.ra HL.ae).mono ?_;rintro e w2 ⟨gg,sv,qs,rfl,ei,Ko,hgk,U5,UT,b2⟩;have bN:=ah w2 (.cells #[aw gg] 135);have hNB:=aB.new w2 135 #[aw gg];have X7:=eZ.ae.size;have b3:=aj.then b2 bN;have yE:=aa (show lj (w2.alloc (.cells #[aw gg] 135)) w.heap.size [⟨gg,none,0,[],sv,qs,aG.map λ y=>fC y.op⟩] from lj.later ⟨λ x hx=>by rw[mem_singleton]at hx;subst hx;exact⟨hgk,fK X7 ei,U5.down X7,UT.down X7,.inl rfl,λ a ha=>by cases ha⟩,pairwise_singleton _ _⟩ bN)
   have axH:=aa (akL.ae.later b3);have axI:=aa (Ae.ae.later b3);have fT:=aa (Below.trans eZ.ae (b3.mono X7));have rb:=aa hNB;have hbase:=fT.ae.size;have Yi:=aa (show po gn aD [⟨gg,none,0,[],sv,qs,aG.map λ y=>fC y.op⟩] [] [] from⟨by unfold di;rw[if_pos HG0.ae];rfl,λ x hx=>by rw[mem_singleton]at hx;subst hx;show aG.map (λ y=>fC y.op)=_;rw[DX (λ p Lw=>by cases Lw),<-A1.ae,map_map];rfl⟩)
   clear bN hNB b2 b3 X7 hgk U5 UT Ko ei akL Ae eZ Np;go_wp2_with (first
    |(at_builtin
      refine aV (f:=dh) (l:=[]) rfl (.tmp 47) (.tmp 50) 134 rfl _ 8 underlying134 DJ rfl WC gg rfl Ta0 rfl aH.nil w2.heap.size rfl rb.ae Tad Tad hbase ?_;intro v4 w4 o4 g4;have O4:=aa o4;have B4:=aa (show Below (w2.alloc (.cells #[aw gg] 135)).heap.size _ w4 from qC g4);clear o4 g4))
   exact HK5.ae _ _ (ox.ae _ u6 _ gb [⟨gg,none,0,[],sv,qs,aG.map λ y=>fC y.op⟩] _ rfl rfl rfl rfl rfl rfl (Below.trans fT.ae (B4.ae.mono hbase)) (axH.ae.later B4.ae) (axI.ae.later B4.ae) HLT.ae O4.ae (yE.ae.later B4.ae) Yi.ae)
  have t1:((gn:Int)==0)=false:=by simp[hg0]
  have HG0:=aa hg0;clear hg0;go_wp2_with fail;exact HK5.ae _ _ (ox.ae _ u6 _ gb [] _ rfl rfl rfl rfl rfl rfl eZ.ae akL.ae Ae.ae HLT.ae aH.nil .nil ⟨by unfold di;rw[if_neg HG0.ae];rfl,λ x hx=>by cases hx⟩)):=h
def zhE.Kb7(h:p:=by have HL:=aa hl;have A1:=aa hh;have c9:=Ui.c9;clear h Bi Ui qT hfn hz hS hw hl hh;simp only[iz,eC,f33,Option.getD_some];refine wp_seq_k λ KK pJ=>?_;have Jk:=aa pJ;clear pJ;go_wp2_with fail;refine Jk.ae _ _ ?_;open zgu in exact ZeQ):=h
theorem Yh(gp gn:Nat)(LE aD:vI)(cols:List aZ)(yg aG:v_)(ls:List uM)(GA:xP)(gc:Nat)(CA:xP)(cc:Nat)(AA:xP)(ac:Nat)(rv:Value)(T:x_)(hT:T.size=164)
  (h0:T.getD 0 undef=aw gp) (h1:T.getD 1 undef=rv) (d:List Deferred) (w:t_) (Q:y_)
  (Ui:Ez w gp LE aD cols yg aG GA gc CA cc AA ac) (qT:yg.length=gn) (hfn:ls.length=aG.length) (hz:∀(Ly:Nat) y x,aG[Ly]?=some y->ls[Ly]?=some x->y.A=x.A/\y.n=x.ys.length/\y.c=x.c/\RE w w.heap.size x.A x.ys) (hS:(ls.flatMap uM.ys).length<=100000) (hw:aG.length<=100000) (hl:∀y∈aG,isAgg y.op=true) (hh:aG.map Ex.op=aD.map Tr.op)
  (h:∀(T':x_) av lv gb xs W,T'.size=164->T'.getD 0 undef=aw gp->T'.getD 1 undef=rv->T'.getD 6 undef=av->T'.getD 9 undef=aw gb->T'.getD 10 undef=lv->ai w W->aH bH 46 7 W w.heap.size av (ls.flatMap uM.ys)->aB W gb 84 #[af 0]->w.heap.size<=gb->aH dh 135 1 W w.heap.size lv (xs.map gV.g)->lj W w.heap.size xs->po gn aD xs [] []->(eC iz 6).wp prog Q {tmps:=T',defers:=d} W):
  (eC iz 0).wp prog Q {tmps:=T,defers:=d} w:=by
 obtain⟨f,rfl⟩:=KQ T hT;have h0:f 0=_:=h0;have h1:f 1=_:=h1;simp only[frg,h0,h1];clear h0 h1;clear h0 h1 hT;have Bi:=λ(T':x_) av lv gb xs W a0 a1 a2 a3 a4 a5 a6 a7 a8 a9 b0 b1 b2=>h T' av lv gb xs W a0 a1 a2 a3 a4 a5 a6 a7 a8 a9 b0 b1 b2;simp only[iz,eC,f33,Option.getD_some]at Bi;open zhE in exact Zf2
noncomputable def yr (aG aD:vI) (cols:List aZ) (rows:z_):uC (z_):=match Be (rows.map λ r=>bA cols r (aG++aD.flatMap Tr.args))with
 |.error e=>.error e
 |.ok l=>jE aG.length aD l
def aaA(aG aD:vI)(cols:List aZ)(rows:z_)(w0:t_)(e:Ending)(W:t_):Prop:=ai w0 W/\match yr aG aD cols rows with
 |.error er=>er≠0/\∃v,e=.returned (.tuple #[v,af er])
 |.ok gs=>∃v cl,e=.returned (.tuple #[v,af 0])/\aH bh 38 1 W w0.heap.size v cl/\Mine W w0.heap.size cl/\cl.map (·.l)=gs
variable{rows:List aK}
theorem EX{aD:vI}:yr aG aD cols (rows.map (·.l))=if ee cols (aG++aD.flatMap Tr.args) rows≠0 then .error (ee cols (aG++aD.flatMap Tr.args) rows)else jE aG.length aD (fH cols (aG++aD.flatMap Tr.args) rows):=by
 have e1:((rows.map (·.l)).map λ r=>bA cols r (aG++aD.flatMap Tr.args)).map exE=rows.map λ r=>od (bA cols r.l (aG++aD.flatMap Tr.args)):=by rw[map_map,map_map];refine map_congr_left λ r _=>?_;show exE (bA cols r.l (aG++aD.flatMap Tr.args))=_;cases bA cols r.l (aG++aD.flatMap Tr.args)<;>rfl
 have e2:((rows.map (·.l)).map λ r=>bA cols r (aG++aD.flatMap Tr.args)).filterMap vu=fH cols (aG++aD.flatMap Tr.args) rows:=by unfold fH;rw[map_map,filterMap_map];congr 1;funext r;show vu (bA cols r.l (aG++aD.flatMap Tr.args))=_;cases bA cols r.l (aG++aD.flatMap Tr.args)<;>rfl
 unfold yr;rw[Es,e1,e2];unfold ee;by_cases h:bX (rows.map λ r=>od (bA cols r.l (aG++aD.flatMap Tr.args)))=0;rw[if_neg TaR,if_neg TaR];rw[if_pos h,if_pos h]
theorem aaB{aD:vI}(h:ee cols (aG++aD.flatMap Tr.args) rows≠0):yr aG aD cols (rows.map (·.l))=.error (ee cols (aG++aD.flatMap Tr.args) rows):=by rw[EX,if_pos h]
variable{xs:List gV}
theorem afr{aD:vI}(h:ee cols (aG++aD.flatMap Tr.args) rows=0)(hI:po aG.length aD xs (fH cols (aG++aD.flatMap Tr.args) rows) (fH cols (aG++aD.flatMap Tr.args) rows)):yr aG aD cols (rows.map (·.l))=if rF xs≠0 then .error (rF xs)else .ok (FY xs):=by
 rw[EX,if_neg TaR];generalize fH cols (aG++aD.flatMap Tr.args) rows=ls at*;have hk:(if aG.length=0 then [[]] else fZ ((gM aG.length aD ls).map (·.1)))=xs.map gV.key:=by rw[hI.keys];unfold di gM;rw[map_map];rfl
 have e1:bX ((xs.map gV.key).map λ k=>cf (cg (aD.map Tr.op) (gM aG.length aD ls) k))=rF xs:=by unfold rF;rw[map_map];congr 1;exact map_congr_left λ x hx=>by show cf (cg (aD.map Tr.op) (gM aG.length aD ls) x.key)=_;rw[jI,hI.rK x hx]
 have e2:(xs.map gV.key).map (λ k=>k++(cg (aD.map Tr.op) (gM aG.length aD ls) k).map (·.1))=FY xs:=by unfold FY;rw[map_map];exact map_congr_left λ x hx=>by show x.key++(cg (aD.map Tr.op) (gM aG.length aD ls) x.key).map (·.1)=_;rw[jI,hI.rK x hx]
 unfold jE;show(if bX ((if aG.length=0 then [[]] else fZ ((gM aG.length aD ls).map (·.1))).map λ k=>cf (cg (aD.map Tr.op) (gM aG.length aD ls) k))≠0 then Except.error (bX ((if aG.length=0 then [[]] else fZ ((gM aG.length aD ls).map (·.1))).map λ k=>cf (cg (aD.map Tr.op) (gM aG.length aD ls) k)))else .ok ((if aG.length=0 then [[]] else fZ ((gM aG.length aD ls).map (·.1))).map λ k=>k++(cg (aD.map Tr.op) (gM aG.length aD ls) k).map (·.1)))=_;rw[hk,e1,e2]
theorem afs:f33.body=some iz:=by unfold iz;simp only[f33,Option.getD_some]
theorem aft(a b:Value):(#[a,b]++Array.replicate (f33.ntmps-(#[a,b]:x_).size) undef).size=164:=by simp[f33]
theorem aaC{a b:Value}(h4:T.getD 4 undef=a)(h5:T.getD 5 undef=b):(results f33 T).run prog W=.ok (.tuple #[a,b]) W:=by
 have e4:T[4]?.getD undef=a:=by rw[<-h4];simp[Array.getD_eq_getD_getElem?]
 have e5:T[5]?.getD undef=b:=by rw[<-h5];simp[Array.getD_eq_getD_getElem?]
 simp[results,f33,go_sem,e4,e5]
theorem Td(gp:Nat)(aG aD:vI)(cols:List aZ)(yg ya:v_)(GA:xP)(gc:Nat)(CA:xP)(cc:Nat)(AA:xP)(ac:Nat)(rows:List aK)(RA:xP)(rrc:Nat)(w:t_)
  (hEV:Ez w gp aG aD cols yg ya GA gc CA cc AA ac) (jN:ya.map Ex.op=aD.map Tr.op) (hagg:∀t∈aD,isAgg t.op=true) (V1:∀t∈aD,t.args.length<=2) (KS:Tr.cO (aG++aD.flatMap Tr.args)) (Br:aG.length<=1000) (yK:aD.length<=50000) (cj:cols.length<=140737488355328)
  (hR:RR w w.heap.size RA rows) (Pz:rows.length<=300) (lQ:∀r∈rows,r.l.length<=140737488355328/\∀v∈r.l,v.Ok):
  ar 33 #[aw gp,.slice RA rows.length rrc] w (aaA aG aD cols (rows.map (·.l)) w):=by
 obtain⟨ls,fI,hl2,uW,hl4⟩:=xK aD ya hEV.ta;have YP:=dZ hEV.tg;have BD:=dZ hEV.ta;have hle:(ls.flatMap uM.ys).length<=100000:=by
  rw[<-dZ uW,length_flatMap];have:∀l:vI,(∀t∈l,t.args.length<=2)->(l.map λ t=>t.args.length).sum<=2*l.length:=by
   intro l
   induction l with
   |nil=>intro _;simp
   |cons t l ih=>
     intro h;have h1:=h t (mem_cons_self ..);have h2:=ih λ u hu=>h u (mem_cons_of_mem _ hu);rw[map_cons,sum_cons,length_cons];omega
  have:=this aD V1;omega
 have arZ:∀y∈ya,isAgg y.op=true:=λ y hy=>by
  have h1:y.op∈aD.map Tr.op:=by rw[<-jN];exact mem_map_of_mem hy
  obtain⟨t,ht,he⟩:=List.mem_map.1 h1;rw[<-he];exact hagg t ht
 refine calls_of_wp func33 afs ?_;obtain⟨T,LM⟩:∃T:x_,T= #[aw gp,.slice RA rows.length rrc]++Array.replicate (f33.ntmps-(#[aw gp,.slice RA rows.length rrc]:x_).size) undef:=⟨_,rfl⟩;rw[<-LM];have hT:T.size=164:=by rw[LM];exact aft _ _
 have t0:T.getD 0 undef=aw gp:=by rw[LM];simp[Array.getD_eq_getD_getElem?]
 have t1:T.getD 1 undef=.slice RA rows.length rrc:=by rw[LM];simp[Array.getD_eq_getD_getElem?]
 clear LM;refine Yh gp aG.length aG aD cols yg ya ls GA gc CA cc AA ac (.slice RA rows.length rrc) T hT t0 t1 [] w _ hEV YP.symm fI hl2 hle WC arZ jN ?_;intro T1 av lv gb xs0 W1 s1 s2 s3 s4 s5 s6 b1 o1 k1 g1 l1 x1 i1;refine V0 w gp gb aG.length aG aD cols yg ya (ls.flatMap uM.ys) GA gc CA cc AA ac rows RA rrc av lv xs0 T1 s1 s2 s3 s4 s5 s6 [] W1 _ hEV YP.symm uW hl4 jN hagg V1 KS WC WC hle cj hR Pz lQ b1 o1 k1 g1 l1 x1 i1 ?_;intro T2 lv2 xs W2 s1 s2 s3 b2 k2 l2 x2 i2;have hlen:(fH cols (aG++aD.flatMap Tr.args) rows).length<=rows.length:=vN _ _ _;refine afp gb _ lv2 T2 s1 s2 s3 [] W2 _ k2 ?_ ?_;intro hne a W e1 e2 e3 bW;refine⟨e1,_,aaC e2 e3,Below.trans b2 (bW.mono b2.size),?_⟩;rw[aaB hne];exact⟨hne,_,rfl⟩;intro hz T3 s1 s2 s3;rw[hz]at k2;have hxl:xs.length<=301:=by have h1:=congrArg List.length i2.keys;rw[length_map]at h1;have h2:=zE aG.length ((fH cols (aG++aD.flatMap Tr.args) rows).map λ l=>l.take aG.length);rw[length_map]at h2;omega
 obtain⟨LA,lc,hlv,_,V6⟩:=xJ l2;rw[length_map]at hlv;have qE:∀x∈xs,∀s∈x.ss,(s.Ok/\s.all<4611686018427387904)/\∃v e,gZ s v e:=λ x hx s hs=>by rw[i2.rK x hx]at hs;exact vM (λ op ho=>by obtain⟨t,ht,rfl⟩:=List.mem_map.1 ho;exact hagg t ht) (by unfold gM;rw[length_map];omega) s hs
 refine aef xs w.heap.size LA lc gb T3 s1 s2 (s3.trans hlv) [] W2 _ k2 V6 ?_ x2 WC ?_ (λ x hx s hs=>⟨(qE x hx s hs).1.1,(qE x hx s hs).2⟩) ?_
 ·intro a ha e;have:lv2.ownBlock=some gb:=by rw[hlv,fO,ha,<-e];rfl
  exact l2.other k2 Tab this
 ·intro x hx;refine⟨?_,?_⟩
  ·have:=sV (by rw[<-i2.keys];exact mem_map_of_mem hx);omega
  rw[i2.rK x hx,nZ,length_map];omega
 intro a W ov cl e1 e2 e3 o3 m3 r3 g3;have hb3:ai w W:=dz b2 g3 g1;refine⟨e1,_,aaC e2 e3,hb3,?_⟩;rw[afr hz i2];by_cases he:rF xs=0;rw[if_neg (by simp[he]),he];exact⟨_,cl,rfl,o3.down b2.size,λ r hr=>(m3 r hr).down b2.size,r3 he⟩;rw[if_pos he];exact⟨he,_,rfl⟩
variable{op:Int}{args:vI}
theorem Yj(h:(gJ cols op args).2=0):args.length<=2:=by unfold gJ at h;split at h;rename_i h1;exact absurd h h1;unfold kq at h;split at h;cases h;rename_i h2;rw[length_map,Tr.pM]at h2;have h2:(args.length:Int)=iR op:=Decidable.byContradiction h2;rcases ML (op:=op)with e|e|e<;>omega
def py(s:dE):Prop:=∀a∈s.aD,a.args.length<=2
mutual
theorem Tr.OQ(aG:vI)(cols:List aZ):∀(t:Tr) (s:dE) (y:Tr) (s':dE),t.turn aG cols s=.ok (y,s')->py s->py s'
 |.mk op v name width args,s,y,s',h,hs=>by
   unfold Tr.turn at h;split at h;injection h with h;injection h with h1 h2;rw[<-h2];exact hs;split at h
   ·rename_i hop;split at h
    ·cases h
    rename_i hty;injection h with h;injection h with h1 h2;rw[<-h2];intro a ha;rcases List.mem_append.1 ha with ha|ha;exact hs a ha;rw[mem_singleton]at ha;rw[ha];have h9:=Yj (cols:=cols) (op:=op) (args:=args) (Decidable.byContradiction hty);exact h9
   split at h;cases h;rename_i ys s1 h1;split at h;cases h;split at h;cases h;injection h with h;injection h with h3 h4;rw[<-h4];exact Tr.IM aG cols args s ys s1 h1 hs
theorem Tr.IM(aG:vI)(cols:List aZ):∀(ts:vI) (s:dE) (ys:vI) (s':dE),Tr.turns aG cols ts s=.ok (ys,s')->py s->py s'
 |[],s,ys,s',h,hs=>by unfold Tr.turns at h;injection h with h;injection h with h1 h2;rw[<-h2];exact hs
 |t::ts,s,ys,s',h,hs=>by unfold Tr.turns at h;split at h;cases h;rename_i y s1 h1;split at h;cases h;rename_i YX s2 h2;injection h with h;injection h with h3 h4;rw[<-h4];exact Tr.IM aG cols ts s1 YX s2 h2 (Tr.OQ aG cols t s y s1 h1 hs)
end
variable{y:Tr}{k:Int}{s':dE}
theorem Ll{g:Bool}{t:Tr}{s:dE}(h:pZ g aG cols t s=.ok (y,k,s'))(hs:py s):py s':=by unfold pZ at h;split at h;exact Zgw;split at h;cases h;rename_i y1 s1 h1;split at h;cases h;injection h with h;injection h with h2 h;injection h with h3 h4;rw[<-h4];exact Tr.OQ aG cols t s y1 s1 h1 hs
theorem IP{g:Bool}:∀{l:List (Tr×u_)}{s:dE}{ys:vI}{hd:List aZ}{s':dE},dr g aG cols l s=.ok (ys,hd,s')->py s->py s'
 |[],s,ys,hd,s',h,hs=>by unfold dr at h;injection h with h;injection h with h1 h;injection h with h2 h3;rw[<-h3];exact hs
 |(t,nm)::l,s,ys,hd,s',h,hs=>by unfold dr at h;split at h;cases h;rename_i y k s1 h1;split at h;cases h;rename_i YX Pn s2 h2;injection h with h;injection h with h3 h;injection h with h4 h5;rw[<-h5];exact IP h2 (Ll h1 hs)
theorem EY{g:Bool}:∀{l:vI}{s:dE}{ys:vI}{s':dE},dt g aG cols l s=.ok (ys,s')->py s->py s'
 |[],s,ys,s',h,hs=>by unfold dt at h;injection h with h;injection h with h1 h2;rw[<-h2];exact hs
 |t::l,s,ys,s',h,hs=>by unfold dt at h;split at h;cases h;rename_i y k s1 h1;split at h;cases h;split at h;cases h;rename_i YX s2 h2;injection h with h;injection h with h3 h4;rw[<-h4];exact EY h2 (Ll h1 hs)
theorem IQ{g:Bool}:∀{l:List (Tr×Bool)}{s:dE}{ys:vI}{s':dE},eF g aG cols l s=.ok (ys,s')->py s->py s'
 |[],s,ys,s',h,hs=>by unfold eF at h;injection h with h;injection h with h1 h2;rw[<-h2];exact hs
 |(t,d)::l,s,ys,s',h,hs=>by unfold eF at h;split at h;cases h;rename_i y k s1 h1;split at h;cases h;rename_i YX s2 h2;injection h with h;injection h with h3 h4;rw[<-h4];exact IQ h2 (Ll h1 hs)
def zgd.KbA(h:p:=by exact IQ h3 (EY h2 (IP h1 (λ a ha=>by cases ha)))):=h
theorem aaD{p:iY}(h:et q cols=.ok p):py p.st:=by open zgd in exact Zey
theorem OS{g:Bool}:∀{l:List (Tr×u_)}{s:dE}{ys:vI}{hd:List aZ}{s':dE},dr g aG cols l s=.ok (ys,hd,s')->Tr.cO (l.map (·.1))->Tr.cO s.aD->Tr.cO ys/\Tr.cO s'.aD/\hd.length=l.length/\s'.aG.length+s'.aD.length<=s.aG.length+s.aD.length+2*Tr.aP (l.map (·.1))
 |[],s,ys,hd,s',h,_,hs=>by unfold dr at h;injection h with h;injection h with h1 h;injection h with h2 h3;subst h1 h2 h3;exact⟨by unfold Tr.cO;trivial,hs,rfl,by omega⟩
 |(t,nm)::l,s,ys,hd,s',h,ho,hs=>by
  unfold dr at h;rw[map_cons]at ho⊢;unfold Tr.cO at ho;have hf:=mr g aG cols t s;split at h;cases h;rename_i y k s1 hy;split at h;cases h;rename_i YX Pn s2 h2;injection h with h;injection h with h3 h;injection h with h4 h5;subst h3 h4 h5;have e1:=hf.ok _ _ _ hy ho.1;have e2:=hf.aok _ _ _ hy ho.1 hs;have e3:=hf.len _ _ _ hy;obtain⟨f1,f2,f3,f4⟩:=OS h2 ho.2 e2;have e4:Tr.aP (t::l.map (·.1))=t.nodes+Tr.aP (l.map (·.1)):=by rw[Tr.aP]
  refine⟨by unfold Tr.cO;exact⟨e1,f1⟩,f2,by simp[f3],by rw[e4];omega⟩
theorem IU{g:Bool}:∀{l:vI}{s:dE}{ys:vI}{s':dE},dt g aG cols l s=.ok (ys,s')->Tr.cO l->Tr.cO s.aD->Tr.cO ys/\Tr.cO s'.aD/\ys.length=l.length/\s'.aG.length+s'.aD.length<=s.aG.length+s.aD.length+2*Tr.aP l
 |[],s,ys,s',h,_,hs=>by unfold dt at h;injection h with h;injection h with h1 h3;subst h1 h3;exact⟨by unfold Tr.cO;trivial,hs,rfl,by omega⟩
 |t::l,s,ys,s',h,ho,hs=>by
   unfold dt at h;unfold Tr.cO at ho;have hf:=mr g aG cols t s;split at h;cases h;rename_i y k s1 hy;split at h;cases h;split at h;cases h;rename_i YX s2 h2;injection h with h;injection h with h3 h5;subst h3 h5;have e1:=hf.ok _ _ _ hy ho.1;have e2:=hf.aok _ _ _ hy ho.1 hs;have e3:=hf.len _ _ _ hy;obtain⟨f1,f2,f3,f4⟩:=IU h2 ho.2 e2;have e4:Tr.aP (t::l)=t.nodes+Tr.aP l:=by rw[Tr.aP]
   refine⟨by unfold Tr.cO;exact⟨e1,f1⟩,f2,by simp[f3],by rw[e4];omega⟩
theorem OT{g:Bool}:∀{l:List (Tr×Bool)}{s:dE}{ys:vI}{s':dE},eF g aG cols l s=.ok (ys,s')->Tr.cO (l.map (·.1))->Tr.cO s.aD->Tr.cO ys/\Tr.cO s'.aD/\ys.length=l.length/\s'.aG.length+s'.aD.length<=s.aG.length+s.aD.length+2*Tr.aP (l.map (·.1))
 |[],s,ys,s',h,_,hs=>by unfold eF at h;injection h with h;injection h with h1 h3;subst h1 h3;exact⟨by unfold Tr.cO;trivial,hs,rfl,by omega⟩
 |(t,b)::l,s,ys,s',h,ho,hs=>by
  unfold eF at h;rw[map_cons]at ho⊢;unfold Tr.cO at ho;have hf:=mr g aG cols t s;split at h;cases h;rename_i y k s1 hy;split at h;cases h;rename_i YX s2 h2;injection h with h;injection h with h3 h5;subst h3 h5;have e1:=hf.ok _ _ _ hy ho.1;have e2:=hf.aok _ _ _ hy ho.1 hs;have e3:=hf.len _ _ _ hy;obtain⟨f1,f2,f3,f4⟩:=OT h2 ho.2 e2;have e4:Tr.aP (t::l.map (·.1))=t.nodes+Tr.aP (l.map (·.1)):=by rw[Tr.aP]
  refine⟨by unfold Tr.cO;exact⟨e1,f1⟩,f2,by simp[f3],by rw[e4];omega⟩
theorem IV:∀{l:vI}{k:Nat}{gc:List aZ},lF cols l k=.ok gc->gc.length=l.length
 |[],k,gc,h=>by unfold lF at h;injection h with h;subst h;rfl
 |t::ts,k,gc,h=>by unfold lF at h;split at h;cases h;split at h;cases h;rename_i l hg;injection h with h;subst h;rw[length_cons,length_cons,IV hg]
structure Te (q:Qy) (p:iY):Prop where
 items:Tr.cO p.items
 having:Tr.cO p.having
 order:Tr.cO p.order
 aD:Tr.cO p.st.aD
 ahx:∀t∈p.st.aD,isAgg t.op=true
 few:∀t∈p.st.aD,t.args.length<=2
 li:p.items.length=q.items.length
 lh:p.having.length=q.fE.length
 lo:p.order.length=q.ord.length
 ln:p.st.aG.length+p.st.aD.length<=q.aG.length+2*Tr.aP (q.items.map (·.1))+2*Tr.aP q.fE+2*Tr.aP (q.ord.map (·.1))
theorem afu{p:iY}(h:et q cols=.ok p)(h1:Tr.cO (q.items.map (·.1)))(h2:Tr.cO q.fE)(h3:Tr.cO (q.ord.map (·.1))):Te q p:=by
 obtain⟨_,_,gc,hd,s1,s2,_,hg,hi,hh,ho,_⟩:=qM h;obtain⟨a1,a2,a3,a4⟩:=OS hi h1 (by unfold Tr.cO;trivial);obtain⟨b1,b2,b3,b4⟩:=IU hh h2 a2;obtain⟨c1,c2,c3,c4⟩:=OT ho h3 b2;have Br:=IV hg;refine⟨a1,b1,c1,c2,Xl h,aaD h,zL hi,b3,c3,?_⟩;have e:(dE.mk [] gc).aG.length+(dE.mk [] gc).aD.length=q.aG.length:=by rw[<-Br];rfl
 omega
theorem afv(cols:List aZ)(CA:xP)(cc:Nat)(row:w_)(RA:xP)(rc:Nat)(ts:vI)(ys:v_)(A:xP)(c:Nat)(w:t_)(cj:cols.length<=140737488355328)(lQ:row.length<=140737488355328)(hro:∀v∈row,v.Ok)
  (bc:Tr.cO ts) (hat:Tr.aO w (Old w) ts ys) (hl:ys.length<=1599289640356) (hA:RE w w.heap.size A ys) (hC:RC w w.heap.size CA cols) (hV:RV w w.heap.size RA row):
  ar 16 #[.slice A ys.length c,.slice CA cols.length cc,.slice RA row.length rc] w λ e w'=>e=.returned (.tuple #[.bool (eM cols ts row).1,af (eM cols ts row).2])/\ai w w':=by
 cases ts with
 |nil=>unfold Tr.aO at hat;subst hat;refine(ZG A c _ _ w).mono ?_;rintro e w' ⟨rfl,rfl⟩;exact⟨rfl,cX⟩
 |cons t ts=>unfold Tr.aO at hat;obtain⟨y,ys',rfl,h1,_⟩:=hat;unfold Tr.cO at bc;have he:=Tr.Jq cols CA cc row RA rc cj lQ hro t y w bc.1 h1 hC hV;exact ZF A (y::ys').length c Tad hl y ys' _ _ (t.eval cols row) w hA he
theorem Vk(cols:List aZ)(CA:xP)(cc:Nat)(ts:vI)(ys:v_)(A:xP)(c:Nat)(rows:List aK)(RA:xP)(rc:Nat)(w:t_)(cj:cols.length<=140737488355328)(Pz:rows.length<=1000000)(lQ:∀r∈rows,r.l.length<=140737488355328/\∀v∈r.l,v.Ok)
  (bc:Tr.cO ts) (hat:Tr.aO w (Old w) ts ys) (hl:ys.length<=1599289640356) (hA:RE w w.heap.size A ys) (hC:RC w w.heap.size CA cols) (hR:RR w w.heap.size RA rows):
  ar 32 #[.slice A ys.length c,.slice CA cols.length cc,.slice RA rows.length rc] w λ e w'=>∃v,e=.returned (.tuple #[v,af (cP cols ts (rows.map (·.l))).2])/\aH bh 38 1 w' w.heap.size v (jS (eM cols ts) rows)/\ai w w':=by
 have he:(cP cols ts (rows.map (·.l))).2=bX (rows.map λ r=>(eM cols ts r.l).2):=by unfold cP;rw[map_map];rfl
 rw[he];refine F7 (.slice A ys.length c) (.slice CA cols.length cc) (eM cols ts) rows RA rc w Pz hR λ r hr W hW=>?_;obtain⟨i,hi,rfl⟩:=getElem_of_mem hr;obtain⟨_,_,_,_,_,hv⟩:=(hR.below hW).at_ hi;exact afv cols CA cc rows[i].l rows[i].A rows[i].c ts ys A c W cj (lQ _ hr).1 (lQ _ hr).2 bc (Tr.aO.later hat hW) hl (hA.later hW) (hC.later hW) (hv.more hW.size)
theorem aaE(cols:List aZ)(ts:vI)(rows:List aK):(jS (eM cols ts) rows).map (·.l)=(cP cols ts (rows.map (·.l))).1:=by unfold jS cP;dsimp only;rw[filter_map];rfl
theorem uP{w:t_}{base:Nat}{cl:List aK}(h:aH bh 38 1 w base v cl)(hm:∀r∈cl,RV w w.heap.size r.A r.l):∃A c,v=.slice A cl.length c/\RR w w.heap.size A cl:=by obtain⟨A,c,hv,hc⟩:=ey (f:=bh) (size:=1) (λ _=>rfl) h;refine⟨A,c,hv,?_⟩;rcases hc with hc|⟨g,hA,hg,hc⟩;exact .inl hc;refine .inr ⟨g,0,hA,hg,λ i r hr=>⟨?_,hm r (mem_of_getElem? hr)⟩⟩;have:=hc i r 0 _ hr WC rfl;exact ZfH
variable{ts:vI}{A:xP}{n:Nat}
theorem Tf{w:t_}(h:ib w ts A n):∃ys,n=ys.length/\RE w w.heap.size A ys/\Tr.aO w (Old w) ts ys:=by obtain⟨hn,ys,h1,h2⟩:=h;refine⟨ys,by rw[hn,dZ h2],?_,h2⟩;exact Zdh
theorem akM(s:St)(a b:Val):(s.feed a b).a=s.a\/(s.feed a b).a=a:=by
 unfold St.feed St.does St.some_ St.put St.alone St.CI St.take;repeat' split
 all_goals first
  |exact .inl rfl
  |exact .inr rfl
theorem EZ:∀(l:List (Val×Val)) (s:St),s.a.Ok->(∀x∈l,x.1.Ok)->(l.foldl (λ s x=>s.feed x.1 x.2) s).a.Ok
 |[],s,hs,_=>hs
 |x::l,s,hs,h=>by rw[foldl_cons];refine EZ l _ ?_ λ y hy=>h y (mem_cons_of_mem _ hy);rcases akM s x.1 x.2 with e|e;rw[e];exact hs;rw[e];exact h x (mem_cons_self ..)
theorem aaF{l:List (Val×Val)}(h:∀x∈l,x.1.Ok):(lS op l).a.Ok:=EZ l (fC op) ed h
def zfB.Kbk(h:p:=by exact⟨_,λ w=>Mo (hi a) (lo a) n q r _ nl c nh c2 hn e0 hs hd (Int.tmod_eq_emod_of_nonneg e0) s1 s2 w,(tH _).1,(tH _).2⟩):=h
theorem Yk(a n:Int)(ha0:0<=a)(ha1:a<M*M)(hn:0<n)(wV:n<512):∃v,Qg a n v/\ -9223372036854775808<=v/\v<=9223372036854775807:=by
 have h0:=tK ha0;have h1:=agj ha1;have l0:=tJ a;have l1:=TL a;by_cases hs:(hi a/9223372036854775808==0)=true;have Pl:=Int.emod_nonneg (hi a) (show n≠0 by omega);have Js:=Int.emod_lt_of_pos (hi a) hn;obtain⟨q,r,hd⟩:=Jt (hi a % n) (lo a) n Pl Js wV l0 l1;exact⟨_,λ w=>Mn (hi a) (lo a) n q r _ hn h0 hs hd (Int.tmod_eq_emod_of_nonneg h0) w,(tH _).1,(tH _).2⟩
 open zfB in exact ZdN
theorem akN{s:St}(ok:s.Ok)(hc:s.count<512)(ha:s.a.Ok):∃v e,gZ s v e/\v.Ok:=by
 have h1:=ok.anm;have h2:=ok.aur;have h3:=ok.yM;unfold gZ;split;exact Zig;split;exact Zig;split
 ·refine⟨_,_,⟨rfl,rfl⟩,?_⟩;unfold St.total;split
  ·exact ed
  split;show -9223372036854775808<=GF _/\GF _<=9223372036854775807;unfold GF;rw[IntKind.wrap_i64];omega;exact ed
 split
 ·by_cases hz:s.count=0
  ·exact⟨aM,0,⟨.inl ⟨hz,rfl⟩,rfl⟩,ed⟩
  obtain⟨q,hq,q1,q2⟩:=Yk s.sum s.count ok.acS ok.acT WC hc;exact⟨num q,0,⟨.inr ⟨hz,q,hq,rfl⟩,rfl⟩,q1,q2⟩
 exact⟨s.a,0,⟨rfl,rfl⟩,ha⟩
theorem afw{l:w_}(h:∀v∈l,v.Ok)(i:Nat):(l.getD i aM).Ok:=by
 rw[getD_eq_getElem?_getD];cases hj:l[i]? with
 |none=>exact ed
 |some v=>exact h v (mem_of_getElem? hj)
theorem IW:∀(ts:vI) (l:w_),(∀v∈l,v.Ok)->∀x∈fU ts l,x.1.Ok
 |[],l,_,x,hx=>by cases hx
 |t::ts,l,h,x,hx=>by
   unfold fU at hx;rcases List.mem_cons.1 hx with rfl|hx
   ·dsimp only;split
    ·exact afw h 0
    exact ed
   exact IW ts _ (λ v hv=>h v (mem_of_mem_drop hv)) x hx
variable{l gs:z_}
theorem Yl{ng:Nat}{aD:vI}(hagg:∀t∈aD,isAgg t.op=true)(hl:∀r∈l,∀v∈r,v.Ok)(hn:l.length<=300)(h:jE ng aD l=.ok gs):gs.length<=l.length+1/\∀g∈gs,g.length<=ng+aD.length/\∀v∈g,v.Ok:=by
 have hk:(if ng=0 then [[]] else fZ ((gM ng aD l).map (·.1)))=di ng (l.map λ r=>r.take ng):=by unfold di gM;rw[map_map];rfl
 unfold jE at h;have h:(if bX ((if ng=0 then [[]] else fZ ((gM ng aD l).map (·.1))).map λ k=>cf (cg (aD.map Tr.op) (gM ng aD l) k))≠0 then Except.error (bX ((if ng=0 then [[]] else fZ ((gM ng aD l).map (·.1))).map λ k=>cf (cg (aD.map Tr.op) (gM ng aD l) k)))else .ok ((if ng=0 then [[]] else fZ ((gM ng aD l).map (·.1))).map λ k=>k++(cg (aD.map Tr.op) (gM ng aD l) k).map (·.1)))=.ok gs:=h;rw[hk]at h;split at h;cases h;injection h with h;subst h;refine⟨?_,λ g hg=>?_⟩;rw[length_map];have:=zE ng (l.map λ r=>r.take ng);rwa [length_map]at this;obtain⟨k,hkm,rfl⟩:=List.mem_map.1 hg;have qV:=sV hkm;refine⟨?_,λ v hv=>?_⟩;rw[length_append,length_map,jI,length_map,nZ,length_map];omega;rcases List.mem_append.1 hv with hv|hv
 ·unfold di at hkm;split at hkm
  ·rw[mem_singleton]at hkm;rw[hkm]at hv;cases hv
  have:=((oX fS eO _).2 _).1 hkm;obtain⟨r,hr,rfl⟩:=List.mem_map.1 this;exact hl r hr v (mem_of_mem_take hv)
 rw[jI,map_map]at hv;obtain⟨s,hs,rfl⟩:=List.mem_map.1 hv;unfold dV at hs;obtain⟨i,hi,rfl⟩:=List.mem_map.1 hs;have hi:i <(aD.map Tr.op).length:=List.mem_range.1 hi;have hop:isAgg ((aD.map Tr.op).getD i 0)=true:=by rw[getD_eq_getElem?_getD,getElem?_eq_getElem hi];have Ib:i<aD.length:=Tay;simp only[Option.getD_some,getElem_map];exact hagg _ (getElem_mem Ib)
 have pJ:=hop;unfold isAgg at pJ;simp only[Bool.and_eq_true,decide_eq_true_eq]at pJ;have hlen:(ow i (gM ng aD l) k).length<=300:=by unfold ow;rw[length_map];refine fK (length_filter_le _ _) ?_;unfold gM;rw[length_map];exact hn
 have r:=BO pJ.1 pJ.2 (ow i (gM ng aD l) k);have ok:=U7 pJ.1 pJ.2 r WC;have hcb:=KR ((aD.map Tr.op).getD i 0) (ow i (gM ng aD l) k);have hct:=r.count;refine adg (akN ok WC (aaF λ x hx=>?_));unfold ow at hx;obtain⟨p,hp,rfl⟩:=List.mem_map.1 hx;have hp:=(List.mem_filter.1 hp).1;unfold gM at hp;obtain⟨q,hq,rfl⟩:=List.mem_map.1 hp;dsimp only;rw[getD_eq_getElem?_getD];cases hj:(fU aD (q.drop ng))[i]? with
 |none=>exact ed
 |some y=>exact IW aD (q.drop ng) (λ v hv=>hl q hq v (mem_of_mem_drop hv)) y (mem_of_getElem? hj)
theorem afx{aD:vI}(hagg:∀t∈aD,isAgg t.op=true)(KS:Tr.cO (aG++aD.flatMap Tr.args))(hr:∀r∈rows,∀v∈r.l,v.Ok)(hn:rows.length<=300)(h:yr aG aD cols (rows.map (·.l))=.ok gs):gs.length<=rows.length+1/\∀g∈gs,g.length<=aG.length+aD.length/\∀v∈g,v.Ok:=by
 rw[EX]at h;split at h;cases h;have hl:=vN cols (aG++aD.flatMap Tr.args) rows;obtain⟨h1,h2⟩:=Yl hagg (λ r hrm=>by obtain⟨x,hx,he⟩:=XD hrm;exact Ey (hr x hx) KS he) WC h
 exact⟨by omega,h2⟩
theorem Cg{w:t_}{base:Nat}{l:List aZ}(h:aH aU 113 2 w base v l):∃A c,v=.slice A l.length c/\RC w w.heap.size A l:=by obtain⟨A,c,hv,hc⟩:=ey (f:=aU) (size:=2) (λ _=>rfl) h;refine⟨A,c,hv,?_⟩;rcases hc with hc|⟨g,hA,hg,hc⟩;exact .inl hc;refine .inr ⟨g,0,hA,hg,λ i x hx=>?_⟩;have h0:=hc i x 0 _ hx WC rfl;have h1:=hc i x 1 _ hx WC rfl;unfold qW;rw[Nat.zero_add];exact⟨by simpa using h0,h1⟩
structure PlE (w:t_) (gp:Nat) (q:Qy) (L:QL) (p:iY) (cols:List aZ) (CA:xP) (cc:Nat) (yg ya yi yh yo:v_) (AA:xP) (ac:Nat) (VA:xP) (vc:Nat) (HA:xP) (hc:Nat) (IA:xP) (ic:Nat) (JA:xP) (jc:Nat) (DA:xP) (dc:Nat):Prop where
 blk:∃cs,aB w gp 81 cs
 gr:Ez w gp q.aG p.st.aD cols yg ya L.g.A L.g.c CA cc AA ac
 ops:ya.map Ex.op=p.st.aD.map Tr.op
 c10:w.cell? ⟨gp,10,none⟩=some (.slice VA p.st.aG.length vc)
 rv:RC w w.heap.size VA p.st.aG
 c11:w.cell? ⟨gp,11,none⟩=some (.bool q.aJ)
 c12:w.cell? ⟨gp,12,none⟩=some (.slice HA p.head.length hc)
 c14:w.cell? ⟨gp,14,none⟩=some (.slice JA yh.length jc)
 rj:RE w w.heap.size JA yh
 tj:Tr.aO w (Old w) p.having yh
 c13:w.cell? ⟨gp,13,none⟩=some (.slice IA yi.length ic)
 ri:RE w w.heap.size IA yi
 ti:Tr.aO w (Old w) p.items yi
 c15:w.cell? ⟨gp,15,none⟩=some (.slice DA yo.length dc)
 ro:RE w w.heap.size DA yo
 eP:Tr.aO w (Old w) p.order yo
 c6:w.cell? ⟨gp,6,none⟩=some (.slice L.o.A L.o.n L.o.c)
section
variable{w w':t_}{gp:Nat}{q:Qy}{L:QL}{p:iY}{cols:List aZ}{CA:xP}{cc:Nat}{yg ya yi yh yo:v_}{AA:xP}{ac:Nat}{VA:xP}{vc:Nat}{HA:xP}{hc:Nat}{IA:xP}{ic:Nat}{JA:xP}{jc:Nat}{DA:xP}{dc:Nat}
theorem PlE.later(h:PlE w gp q L p cols CA cc yg ya yi yh yo AA ac VA vc HA hc IA ic JA jc DA dc)(hb:ai w w'):PlE w' gp q L p cols CA cc yg ya yi yh yo AA ac VA vc HA hc IA ic JA jc DA dc:=by have hl:=h.gr.lt;have hc:=λ i=>hb.cell (p:=⟨gp,i,none⟩) hl;obtain⟨cs,hcs⟩:=h.blk;exact⟨⟨cs,hcs.later hb⟩,h.gr.later hb,h.ops,(hc 10).trans h.c10,h.rv.later hb,(hc 11).trans h.c11,(hc 12).trans h.c12,(hc 14).trans h.c14,h.rj.later hb,Tr.aO.later h.tj hb,(hc 13).trans h.c13,h.ri.later hb,Tr.aO.later h.ti hb,(hc 15).trans h.c15,h.ro.later hb,Tr.aO.later h.eP hb,(hc 6).trans h.c6⟩
theorem PlE.run(h:PlE w gp q L p cols CA cc yg ya yi yh yo AA ac VA vc HA hc IA ic JA jc DA dc){over:List aZ}{OA:xP}(ho:RC w w.heap.size OA over):OJ w gp p.items p.order over yi yo IA ic DA dc OA:=
 ⟨h.gr.lt,h.c13,h.c15,h.ri,h.ti,h.ro,h.eP,ho⟩
end
theorem Vl{w:t_}:∀{ts:vI}{ys:v_},Tr.aO w S ts ys->ys.map Ex.op=ts.map Tr.op
 |[],ys,h=>by unfold Tr.aO at h;rw[h];rfl
 |t::ts,ys,h=>by unfold Tr.aO at h;obtain⟨y,ys',rfl,h1,h2⟩:=h;obtain⟨op,v,name,width,args⟩:=t;unfold Tr.at_ at h1;rw[map_cons,map_cons,Vl h2,h1.1];rfl
variable{u:Value}{ya yi yh yo:v_}
theorem aaG{w:t_}{r:Rest}{p:iY}(hP:ahv (BF q L CA cc cols) w0 w gp r u v ya yi yh yo p)(hq:EU (BF q L CA cc cols) w0 q L cols):
  ∃yg AA ac VA vc HA hc IA ic JA jc DA dc,PlE w gp q L p cols CA cc yg ya yi yh yo AA ac VA vc HA hc IA ic JA jc DA dc/\aH aU 113 2 w w0.heap.size (.slice HA p.head.length hc) p.head:=by obtain⟨AA,ac,hu,Z7⟩:=sW hP.o0;obtain⟨VA,vc,hv,uw⟩:=Cg hP.o1;obtain⟨HA,hc,hh,hrh⟩:=Cg hP.o2;obtain⟨IA,ic,hi,hri⟩:=sW hP.o3;obtain⟨JA,jc,hj,hrj⟩:=sW hP.o4;obtain⟨DA,dc,hd,YH⟩:=sW hP.o5;obtain⟨yg,hyn,hyr,XW⟩:=Tf hq.ig;have k1:=hP.blk;unfold PC.cells at k1;have c4:=k1.cell 4;have c6:=k1.cell 6;have c8:=k1.cell 8;have c9:=k1.cell 9;have c10:=k1.cell 10;have c11:=k1.cell 11;have c12:=k1.cell 12;have Zi:=k1.cell 13;have c14:=k1.cell 14;have c15:=k1.cell 15;simp only[Uaa]at c4 c6 c8 c9 c10 c11 c12 Zi c14 c15;have c4:w.cell? ⟨gp,4,none⟩=some (.slice L.g.A L.g.n L.g.c):=c4;rw[hyn]at c4;rw[hu]at c9;rw[hv]at c10;rw[hh]at c12;rw[hi]at Zi;rw[hj]at c14;rw[hd]at c15;refine⟨yg,AA,ac,VA,vc,HA,hc,IA,ic,JA,jc,DA,dc,⟨⟨_,hP.blk⟩,⟨k1.lt,c4,c8,c9,hyr.later hP.base,Tr.aO.later XW hP.base,Z7,Tr.aO.later hP.aD hP.base,hq.ok.cols.later hP.base⟩,Vl hP.aD,c10,uw,c11,c12,c14,hrj,hP.t4,Zi,hri,hP.t3,c15,YH,hP.t5,c6⟩,hh▸hP.o2⟩
noncomputable def lU (q:Qy) (p:iY) (cols:List aZ) (e0:Int) (rows:z_):uC (z_):=
 if e0≠0 then .error e0 else if p.aJ=false then .ok rows else match yr q.aG p.st.aD cols rows with
 |.error e=>.error e
 |.ok gs=>if (cP p.st.aG p.having gs).2≠0 then .error (cP p.st.aG p.having gs).2 else .ok (cP p.st.aG p.having gs).1
theorem aaH(q:Qy)(p:iY)(cols:List aZ)(rows:z_):xp q p cols rows=lU q p cols (cP cols q.bQ rows).2 (cP cols q.bQ rows).1:=by unfold xp lU yr;split;rfl;split;rfl;cases Be ((cP cols q.bQ rows).1.map λ r=>bA cols r (q.aG++p.st.aD.flatMap Tr.args))<;>rfl
def zdK.KaJ(h:p:=by
 clear akm hO hE Xz;simp only[eI,eC,f11,Option.getD_some];refine wp_seq_k λ K hK=>?_;have Fl:=aa hK;clear hK;by_cases h:er=0
 ·have t1:(er != 0)=false:=by simp[h]
  have H:=aa h;clear h;go_wp2_with fail;exact Fl.ae _ _ (akn.ae H.ae _ rfl rfl rfl rfl rfl rfl)
 have t1:(er != 0)=true:=by simp[h]
 have H:=aa h;clear h;go_wp2_with fail;have hs:=qO Bv.ae;exact HE.ae H.ae _ _ rfl rfl rfl (((Bv.ae.aW 0 _).aW 1 _).aW 2 _) hs):=h
def zhr.Kb2(h:p:=by have akm:=λ h0 (T':x_) a0 a1 a2 a3 a4 a5=>hO h0 T' a0 a1 a2 a3 a4 a5;simp only[eI,eC,f11,Option.getD_some]at akm;have akn:=aa akm;have HE:=aa hE;have Bv:=aa Xz;open zdK in exact ZbY):=h
theorem aaI(g3 g6 gp:Nat)(er:Int)(lv ov:Value)(T:x_)(hT:T.size=183)(h3:T.getD 3 undef=aw g3)(h6:T.getD 6 undef=aw g6)(h8:T.getD 8 undef=aw gp)(h9:T.getD 9 undef=af er)(h10:T.getD 10 undef=lv)(h11:T.getD 11 undef=ov)(d:List Deferred)(w:t_)(Q:y_)
  (Xz:aB w g6 33 #[az,az,af 0])
  (hE:er≠0->∀a W,a.defers=d->a.tmps.getD 6 undef=aw g6->a.tmps.getD 7 undef=af er->aB W g6 33 #[az,az,af 0]->ai w W->Q .ret a W)
  (hO:er=0->∀T':x_,T'.size=183->T'.getD 3 undef=aw g3->T'.getD 6 undef=aw g6->T'.getD 8 undef=aw gp->T'.getD 10 undef=lv->T'.getD 11 undef=ov->(eC eI 8).wp prog Q {tmps:=T',defers:=d} w):
  (eC eI 7).wp prog Q {tmps:=T,defers:=d} w:=by
 open zhr in exact Zfx
def yt(w:t_)(r:aK):Prop:=RV w w.heap.size r.A r.l/\r.l.length<=1000/\∀v∈r.l,v.Ok
theorem yt.later{w:t_}{r:aK}(h:yt w r)(hb:ai w w'):yt w' r:=⟨h.1.later hb,h.2⟩
def zcO.Kav(h:p:=by
 have iJ:=aa Il;have c11:=Bi.c11;clear akO hE hO Bi Ui qT hfn hz hS hw hl hh M7 hlv hJ Pk Il;simp only[eI,eC,f11,Option.getD_some];refine wp_seq_k λ K hK=>?_;have Fl:=aa hK;clear hK;by_cases he:e0=0
 ·subst he;obtain⟨gd,hgd⟩:∃gd,gd=q.aJ:=⟨_,rfl⟩;rw[<-hgd]at c11;have PB:=aa hgd;clear hgd
  cases gd with
  |false=>have U4:=aa (show lU q p cols 0 (rows.map (·.l))=.ok (rows.map (·.l)) by unfold lU;rw[if_neg Tab,if_pos (Nj.ae.trans PB.ae.symm)]);have HOV:=aa (show ie p cols=cols by unfold ie;rw[if_neg TaY]);go_wp2_with fail;refine Fl.ae _ _ (HCK.ae 0 _ _ _ rfl rfl rfl rfl rfl rfl rfl w Q A2.ae (λ h=>absurd rfl h) λ _ T' a0 a1 a2 a3 a4 a5=>?_);have ho:=HOL.ae _ U4.ae T' w rows EA ec CA cc a0 a1 a2 a3 a4 (by rw[HOV.ae];exact a5) cX iJ.ae rfl HJ.ae (by have:=pE.ae;omega) (by rw[HOV.ae];exact ox.ae.gr.rc);exact ho
  |true=>
    have c10:=ox.ae.c10;go_wp2_with fail;clear c10 c11;have ahA:Tr.cO (q.aG++p.st.aD.flatMap Tr.args):=by rw[dP];intro t ht;rcases List.mem_append.1 ht with ht|ht;exact dP.1 HFN.ae t ht;obtain⟨a,ha,hta⟩:=List.mem_flatMap.1 ht;have:=dP.1 iT.ae.aD a ha;obtain⟨op,v,name,width,args⟩:=a;unfold Tr.ok at this;exact dP.1 this.2.2.2.2.2 t hta
    have asb:=aa ahA;clear ahA;refine(Td gp q.aG p.st.aD cols yg ya L.g.A L.g.c CA cc AA ac rows EA ec w ox.ae.gr ox.ae.ops iT.ae.ahx iT.ae.few asb.ae HK.ae (by have:=HS.ae;omega) (by have:=HL.ae;omega) iJ.ae pE.ae (λ r hr=>⟨by have:=(HJ.ae r hr).2.1;omega,(HJ.ae r hr).2.2⟩)).mono ?_;rintro e w2 ⟨b2,hm⟩;have fT:=aa b2;clear b2;have HGI:=aa (λ gs=>afx (cols:=cols) (gs:=gs) iT.ae.ahx asb.ae (λ r hr=>(HJ.ae r hr).2.2) pE.ae);cases hgr:yr q.aG p.st.aD cols (rows.map (·.l))with
    |error er=>
      rw[hgr]at hm;obtain⟨hne,v,rfl⟩:=hm;have t1:(er==0)=false:=by simp[hne]
      have U4:=aa (show lU q p cols 0 (rows.map (·.l))=.error er by unfold lU;rw[if_neg Tab,if_neg TaY,hgr]);have oD:=aa hne;clear hgr hne;go_wp2_with fail;have KK:=HE.ae er U4.ae oD.ae;refine Fl.ae _ _ (HCK.ae er _ _ _ rfl rfl rfl rfl rfl rfl rfl w2 Q (A2.ae.later fT.ae) (λ _ a W e1 e2 e3 k6 bW=>KK a W e1 e2 e3 k6 (Below.trans fT.ae (bW.mono fT.ae.size))) λ h=>absurd h oD.ae)
    |ok gs=>
      rw[hgr]at hm;obtain⟨v,cl,rfl,ho,hmi,uo⟩:=hm;have hgi:=HGI.ae gs hgr;have U4:=aa (show lU q p cols 0 (rows.map (·.l))=if (cP p.st.aG p.having gs).2≠0 then .error (cP p.st.aG p.having gs).2 else .ok (cP p.st.aG p.having gs).1 by unfold lU;rw[if_neg Tab,if_neg TaY,hgr]);obtain⟨Kx,c2,hv2,hr2⟩:=UH ho hmi;subst hv2;have Ym:=aa (ox.ae.later fT.ae);have c14:=Ym.ae.c14;have hcn:cl.length<=301:=by have h1:=congrArg List.length uo;rw[length_map]at h1;have h2:=hgi.1;have h3:=pE.ae;omega
      have afC:∀r∈cl,yt w2 r:=λ r hr=>by
       have hx:r.l∈gs:=by rw[<-uo];exact mem_map_of_mem hr
       obtain⟨x1,x2⟩:=hgi.2 _ hx;obtain⟨A3,c3,e3,h3⟩:=Jj (hmi r hr);unfold aK.v at e3;injection e3 with e3;refine⟨by rw[e3];exact h3,by have:=HS.ae;omega,x2⟩
      have HRI:=aa afC;have HCN:=aa hcn;have UG:=aa hr2;have axJ:=aa uo;have HMI:=aa hmi;clear hgr hgi hcn afC hr2 uo hmi ho HGI;go_wp2_with fail;clear c14;have hyl:yh.length=p.having.length:=(dZ Ym.ae.tj).symm;refine(Vk p.st.aG VA vc p.having yh JA jc cl Kx c2 w2 (by have:=HO.ae;omega) (by have:=HCN.ae;omega) (λ r hr=>⟨by have:=(HRI.ae r hr).2.1;omega,(HRI.ae r hr).2.2⟩) iT.ae.having Ym.ae.tj (by rw[hyl];have:=A1.ae;omega) Ym.ae.rj Ym.ae.rv UG.ae).mono ?_;rintro e w3 ⟨v3,rfl,ho3,b3⟩;have YL:=aa (aaE p.st.aG p.having cl);have MX:ie p cols=p.st.aG:=by unfold ie;rw[if_pos (by rw[Nj.ae,<-PB.ae])]
      have HOV:=aa MX;have VG:=aa ho3;have ux:=aa b3;rw[axJ.ae]at YL⊢;have aaJ:∀r∈jS (eM p.st.aG p.having) cl,yt w3 r:=λ r hr=>(HRI.ae r (List.mem_filter.1 hr).1).later ux.ae;have AV:(jS (eM p.st.aG p.having) cl).length<=301:=fK (length_filter_le _ _) HCN.ae;obtain⟨A4,c4,hv4,hr4⟩:=uP VG.ae λ r hr=>(aaJ r hr).1;subst hv4;have HR4:=aa hr4;have axK:=aa aaJ;have HKN:=aa AV;obtain⟨e3,he3⟩:∃e3,e3=(cP p.st.aG p.having gs).2:=⟨_,rfl⟩;rw[<-he3]at U4⊢;have HE3:=aa he3;clear ho3 b3 MX aaJ AV hr4 he3 hyl;by_cases KK:e3=0
      ·have HZ:=aa KK;have akQ:=aa (show lU q p cols 0 (rows.map (·.l))=.ok (cP p.st.aG p.having gs).1 by rw[U4.ae,if_neg (by simp[KK])]);clear KK;go_wp2_with fail;refine Fl.ae _ _ (HCK.ae e3 _ _ _ rfl rfl rfl rfl rfl rfl rfl w3 Q ((A2.ae.later fT.ae).later ux.ae) (λ h=>absurd HZ.ae h) λ _ T' a0 a1 a2 a3 a4 a5=>?_);have ly:=Below.trans fT.ae (ux.ae.mono fT.ae.size);have ho:=HOL.ae _ akQ.ae T' w3 (jS (eM p.st.aG p.having) cl) A4 c4 VA vc a0 a1 a2 a3 a4 (by rw[HOV.ae];exact a5) ly HR4.ae YL.ae axK.ae HKN.ae (by rw[HOV.ae];exact(Ym.ae.later ux.ae).rv);exact ho
      have HZ:=aa KK;have akQ:=aa (show lU q p cols 0 (rows.map (·.l))=.error e3 by rw[U4.ae,if_pos KK]);clear KK;go_wp2_with fail;have hx:=HE.ae e3 akQ.ae HZ.ae;refine Fl.ae _ _ (HCK.ae e3 _ _ _ rfl rfl rfl rfl rfl rfl rfl w3 Q ((A2.ae.later fT.ae).later ux.ae) (λ _ a W e1 e2 e3 k6 bW=>hx a W e1 e2 e3 k6 (Below.trans fT.ae ((Below.trans ux.ae (bW.mono ux.ae.size)).mono fT.ae.size))) λ h=>absurd h HZ.ae)
 have U4:=aa (show lU q p cols e0 (rows.map (·.l))=.error e0 by unfold lU;rw[if_pos he]);have t1:(e0==0)=false:=by simp[he]
 have H:=aa he;clear he;go_wp2_with fail;have KK:=HE.ae e0 U4.ae H.ae;exact Fl.ae _ _ (HCK.ae e0 _ _ _ rfl rfl rfl rfl rfl rfl rfl w Q A2.ae (λ _ a W e1 e2 e3 k6 bW=>KK a W e1 e2 e3 k6 bW) λ h=>absurd h H.ae)):=h
def zhs.Kb2(h:p:=by have akO:=λ(er:Int) (lv ov:Value) T hT a0 a1 a2 a3 a4 a5 w Q=>aaI g3 g6 gp er lv ov T hT a0 a1 a2 a3 a4 a5 d w Q;have Lw:=aa hO;simp only[eI,eC,f11,Option.getD_some]at akO hO;have HCK:=aa akO;have HOL:=aa hO;have HE:=aa hE;open zcO in exact Zbf):=h
theorem afy(w0:t_)(g3 g6 gp:Nat)(q:Qy)(L:QL)(p:iY)(cols:List aZ)(CA:xP)(cc:Nat)(yg ya yi yh yo:v_)(AA:xP)(ac:Nat)(VA:xP)(vc:Nat)(HA:xP)(hc:Nat)(IA:xP)(ic:Nat)(JA:xP)(jc:Nat)(DA:xP)(dc:Nat)(e0:Int)(rows:List aK)(base:Nat)(lv:Value)(T:x_)(hT:T.size=183)(h3:T.getD 3 undef=aw g3)(h6:T.getD 6 undef=aw g6)(h8:T.getD 8 undef=aw gp)(h9:T.getD 9 undef=af e0)(h10:T.getD 10 undef=lv)(h11:T.getD 11 undef=.slice CA cols.length cc)(d:List Deferred)(w:t_)(Q:y_)
  (Bi:PlE w gp q L p cols CA cc yg ya yi yh yo AA ac VA vc HA hc IA ic JA jc DA dc) (Ui:Te q p) (qT:p.aJ=q.aJ) (hfn:Tr.cO q.aG) (hz:q.aG.length<=1000) (hS:q.aG.length+p.st.aD.length<=1000) (hw:p.st.aG.length<=100000) (hl:cols.length<=100000) (hh:p.having.length<=100000)
  (M7:aB w g6 33 #[az,az,af 0]) (hlv:aH bh 38 1 w base lv rows) (hJ:∀r∈rows,yt w r) (Pk:rows.length<=300)
  (hE:∀er,lU q p cols e0 (rows.map (·.l))=.error er->er≠0->∀a W,a.defers=d->a.tmps.getD 6 undef=aw g6->a.tmps.getD 7 undef=af er->aB W g6 33 #[az,az,af 0]->ai w W->Q .ret a W)
  (hO:∀left,lU q p cols e0 (rows.map (·.l))=.ok left->∀(T':x_) W (rows':List aK) EA ec OA oc,T'.size=183->T'.getD 3 undef=aw g3->T'.getD 6 undef=aw g6->T'.getD 8 undef=aw gp->T'.getD 10 undef=.slice EA rows'.length ec->T'.getD 11 undef=.slice OA (ie p cols).length oc->ai w W->RR W W.heap.size EA rows'->rows'.map (·.l)=left->(∀r∈rows',yt W r)->rows'.length<=301->RC W W.heap.size OA (ie p cols)->(eC eI 8).wp prog Q {tmps:=T',defers:=d} W):
  (eC eI 6).wp prog Q {tmps:=T,defers:=d} w:=by
 obtain⟨EA,ec,afA,Il⟩:=uP hlv λ r hr=>(hJ r hr).1;subst afA;open zhs in exact Zfx
theorem aaK(p:iY)(cols:List aZ)(rows:List aK):yZ p cols (rows.map (·.l))=if ee (ie p cols) (p.items++p.order) rows≠0 then .error (ee (ie p cols) (p.items++p.order) rows)else .ok (xZ p.items p.order (ie p cols) rows):=by
 have e1:((rows.map (·.l)).map (Ay p (ie p cols))).map exE=rows.map λ r=>od (bA (ie p cols) r.l (p.items++p.order)):=by rw[map_map,map_map];refine map_congr_left λ r _=>?_;show exE (Ay p (ie p cols) r.l)=_;unfold Ay;cases bA (ie p cols) r.l (p.items++p.order)<;>rfl
 have e2:((rows.map (·.l)).map (Ay p (ie p cols))).filterMap vu=xZ p.items p.order (ie p cols) rows:=by unfold xZ;rw[map_map,filterMap_map];congr 1
 rw[Ir,Es,e1,e2];rfl
noncomputable def yu (q:Qy) (p:iY) (cols:List aZ) (e0:Int) (rows:z_):uC (z_):=match lU q p cols e0 rows with
 |.error e=>.error e
 |.ok left=>match yZ p cols left with
   |.error e=>.error e
   |.ok ls=>.ok ((match q.lim with|[]=>iF (q.ord.map λ o:Tr×Bool=>o.2) ls|n::_=>(iF (q.ord.map λ o:Tr×Bool=>o.2) ls).take n.toNat).map eu.row)
theorem afD(q:Qy)(cols:List aZ)(rows:z_):iZ q cols rows=match et q cols with
 |.error e=>.error e
 |.ok p=>if rows.any (λ r=> !iE cols r)=true then .error 40 else match yu q p cols (cP cols q.bQ rows).2 (cP cols q.bQ rows).1 with
   |.error e=>.error e
   |.ok la=>.ok (p.head,la):=by
 unfold iZ yu;cases et q cols with
 |error e=>rfl
 |ok p=>
   dsimp only;split
   rfl;rw[aaH];cases lU q p cols (cP cols q.bQ rows).2 (cP cols q.bQ rows).1 with
   |error e=>rfl
   |ok left=>dsimp only;cases yZ p cols left<;>rfl
theorem aaL(w0:t_)(g3 g6 gp:Nat)(q:Qy)(L:QL)(p:iY)(cols:List aZ)(CA:xP)(cc:Nat)(yg ya yi yh yo:v_)(AA:xP)(ac:Nat)(VA:xP)(vc:Nat)(HA:xP)(hc:Nat)(IA:xP)(ic:Nat)(JA:xP)(jc:Nat)(DA:xP)(dc:Nat)(e0:Int)(rows:List aK)(base:Nat)(lv:Value)(T:x_)(hT:T.size=183)(h3:T.getD 3 undef=aw g3)(h6:T.getD 6 undef=aw g6)(h8:T.getD 8 undef=aw gp)(h9:T.getD 9 undef=af e0)(h10:T.getD 10 undef=lv)(h11:T.getD 11 undef=.slice CA cols.length cc)(d:List Deferred)(w:t_)(Q:y_)
  (hPE:PlE w gp q L p cols CA cc yg ya yi yh yo AA ac VA vc HA hc IA ic JA jc DA dc) (BL:Te q p) (Uo:p.aJ=q.aJ) (hgo:Tr.cO q.aG) (XB:q.aG.length<=1000) (hsm:q.aG.length+p.st.aD.length<=1000) (Br:p.st.aG.length<=100000) (cj:cols.length<=100000) (hyh:p.having.length<=100000)
  (Pk:q.items.length<=1000) (fW:q.ord.length<=1000)
  (vw:fh w0 (q.ord.map λ x=>(x.1,Value.bool x.2)) L.o.A L.o.n) (qN:L.l.n=q.lim.length/\Wh w0 w0.heap.size L.l.A q.lim) (hlm:∀n∈q.lim,0<=n/\n<=9223372036854775807) (fI:q.lim.length<=1) (hb0:ai w0 w) (hg3:aB w g3 27 (ft q L))
  (sQ:aB w g6 33 #[az,az,af 0]) (axM:w0.heap.size<=g6) (hlv:aH bh 38 1 w base lv rows) (td:∀r∈rows,yt w r) (Pz:rows.length<=300)
  (hE:∀er,yu q p cols e0 (rows.map (·.l))=.error er->er≠0->∀a W,a.defers=d->a.tmps.getD 6 undef=aw g6->a.tmps.getD 7 undef=af er->aB W g6 33 #[az,az,af 0]->ai w0 W->Q .ret a W)
  (hO:∀la,yu q p cols e0 (rows.map (·.l))=.ok la->∀a W ov (out:List aK),a.defers=d->a.tmps.getD 6 undef=aw g6->a.tmps.getD 7 undef=af 0->aB W g6 33 #[.slice HA p.head.length hc,ov,af out.length]->aH bh 38 1 W w0.heap.size ov out->(∀r∈out,js W r)->out.map (·.l)=la->ai w0 W->w.grownBy W (some g6)->Q .ret a W):
  (eC eI 6).wp prog Q {tmps:=T,defers:=d} w:=by
 have HG:∀{W:t_},w.grownBy W (some g6)->ai w0 W:=λ h=>dz hb0 h axM;refine afy w0 g3 g6 gp q L p cols CA cc yg ya yi yh yo AA ac VA vc HA hc IA ic JA jc DA dc e0 rows base lv T hT h3 h6 h8 h9 h10 h11 d w Q hPE BL Uo hgo XB hsm Br cj hyh sQ hlv td Pz ?_ ?_;intro er hl hne a W e1 e2 e3 k6 bW;exact hE er (by unfold yu;rw[hl]) hne a W e1 e2 e3 k6 (Below.trans hb0 (bW.mono hb0.size));intro left hl T1 W1 ahB EA ec OA oc s1 s2 s3 s4 s5 s6 b1 I6 hle hri axN hrc;have ase:=hPE.later b1;have aaM:ai w0 W1:=Below.trans hb0 (b1.mono hb0.size);have Fa:=aaK p cols ahB;rw[hle]at Fa;refine XT w0 gp g3 g6 p.items p.order (ie p cols) yi yo IA ic DA dc OA oc ahB EA ec T1 s1 s2 s3 s4 s5 s6 d W1 Q (ase.run hrc) (dP.2 λ t ht=>by rcases List.mem_append.1 ht with ht|ht;exact dP.1 BL.items t ht;exact dP.1 BL.order t ht) (by rw[BL.li];omega) (by rw[BL.lo];omega) ?_ (λ _=>by rw[BL.li];omega) I6 axN (λ r hr=>(hri r hr).2) (sQ.later b1) ?_ ?_
 ·unfold ie;split
  ·omega
  omega
 intro hne a W e1 e2 e3 k6 gW;rw[if_pos hne]at Fa;refine hE _ (by unfold yu;rw[hl];dsimp only;rw[Fa]) hne a W e1 e2 e3 k6 (HG (ba (aQ b1) gW));intro hz T2 W2 LA lc dN s1 s2 s3 s4 s5 b2 afA axO hls FB;rw[if_neg (by simp[hz])]at Fa;have afE:=ase.later b2;have akR:ai w0 W2:=Below.trans aaM (b2.mono aaM.size);have k3:=((hg3.later b1).later b2);have c7:=k3.cell 7;unfold ft at c7;simp only[Uaa]at c7;rw[qN.1]at c7;refine aad gp g3 g6 q.ord L.o.A L.o.n L.o.c q.lim L.l.A L.l.c dN W1.heap.size LA lc HA p.head.length hc T2 s1 s2 s3 s4 s5 d W2 Q WC WC afE.gr.lt afE.c12 afE.c6 afE.blk (vw.later akR) (λ b hb w' hg=>vw.later (dz akR hg (fK aaM.size hb))) c7 ⟨_,k3⟩ ?_ hlm fI ((sQ.later b1).later b2) b2.size afA (λ x hx=>by obtain⟨q1,q2,q3,q4⟩:=axO x hx;exact⟨q1,q2,q3,by rw[q4,BL.lo]⟩) ?_
 ·rcases qN.2 with h|⟨b,off,x1,x2,x3⟩
  ·exact Zis
  exact .inr ⟨b,off,x1,eS x2 aaM.size,λ i x hx=>(akR.cell (p:=⟨b,off+i,none⟩) x2).trans (x3 i x hx)⟩
 rintro a W ov out e1 e2 e3 k6 oW hk BD ⟨wm,gm,gW⟩;have g1:W1.grownBy W (some g6):=ba (qL (aQ b2) gm aE λ q hq=>(afA.lt hq).2.1) gW;have g2:w.grownBy W (some g6):=ba (aQ b1) g1;refine hO _ ?_ a W ov out e1 e2 e3 k6 (oW.down aaM.size) hk BD (HG g2) g2;unfold yu;rw[hl];dsimp only;rw[Fa,<-hls];cases q.lim<;>rfl
noncomputable def La:Code:=f130.body.getD .skip
structure SyT (vc:Value) (T:x_) (g n cap a m b mid:Nat) (vn vs vf:Value):Prop where
 sz:T.size=220
 t0:T.getD 0 undef=aL g n cap
 t1:T.getD 1 undef=af a
 t2:T.getD 2 undef=af m
 t3:T.getD 3 undef=af b
 t4:T.getD 4 undef=vc
 t18:T.getD 18 undef=af mid
 t19:T.getD 19 undef=vn
 t20:T.getD 20 undef=vs
 t24:T.getD 24 undef=vf
def Z8(w0:t_)(g n cap a b:Nat)(D:Nat->aK):Prop:=b<=n/\n<=1000/\∀a' m' b' E W,a' < m'->m' < b'->b'<=n->b'-a' < b-a->SS w0 g n W E->cT E a' m'->cT E m' b'->ar 130 #[aL g n cap,af (a':Nat),af (m':Nat),af (b':Nat),.func (.func 14) #[] #[]] W (cI w0 g n a' b' E)
def Z9(w0:t_)(g n a b:Nat)(D:Nat->aK)(d:List Deferred)(Q:y_):Prop:=∀A W,A.defers=d->cI w0 g n a b D (.returned (.tuple #[])) W->Q .normal A W
structure SyO (a b mid s f:Nat) (R:Nat->aK):Prop where
 o:a<mid/\mid<b/\a<=s/\s<=mid/\mid<=f/\f<=b
 q1:cT R a s
 q2:cT R s mid
 q3:cT R mid f
 q4:cT R f b
 q5:∀x y,a<=x->x<mid->mid<=y->y<b->le (R x) (R y)
variable{cap a m b mid:Nat}{vn:Value}{s:Nat}{R:Nat->aK}{d:List Deferred}{Q:y_}
def zf3.Kbv(h:p:=by simp only[La,eC,f130,Option.getD_some];exact ZaM):=h
def zax.KM(h:p:=by open zf3 in exact Zeh):=h
theorem sy3{g:Nat}{f:Nat}{D S:Nat->aK}(hT:SyT (.func (.func 14) #[] #[]) T g n cap a m b mid (vn) (af s) (af f)){w:t_}(hS:SS w0 g n w S)(hw:SyO a b mid s f R)(h1:Sw a mid R S)(h2:cT S a mid)(hd:Sw a b D R)(hI:Z8 w0 g n cap a b D)(hQ:Z9 w0 g n a b D d Q):
  (eC La 11).wp prog Q {tmps:=T,defers:=d} w:=by
 open zax in exact Zag
def zay.KM(h:p:=by have HS:=aa hS;have HO:=aa hw;have HD:=aa hd;have o:=hw.o;have bn:=HI.ae.1;clear hS hw hd;have HY:=aa λ S W (k1:SS w0 g n W S) (k2:Sw a mid R S) (k3:cT S a mid) T hT=>sy3 (T:=T) (d:=d) (m:=m) (vn:=vn) hT k1 HO.ae k2 k3 HD.ae HI.ae HQ.ae;simp only[La,eC,f130,Option.getD_some]at HY⊢;exact ZaP):=h
theorem sy2{g:Nat}{f:Nat}{D:Nat->aK}(hT:SyT (.func (.func 14) #[] #[]) T g n cap a m b mid (vn) (af s) (af f)){w:t_}(hS:SS w0 g n w R)(hw:SyO a b mid s f R)(hd:Sw a b D R)(hI:Z8 w0 g n cap a b D)(hQ:Z9 w0 g n a b D d Q):
  (eC La 10).wp prog Q {tmps:=T,defers:=d} w:=by
 open zay in exact Zag
variable{s0 r0:Nat}{vf:Value}
def zdl.KaC(h:p:=by simp only[La,eC,f130,Option.getD_some]at HY⊢;exact ZaN):=h
def zaz.KM(h:p:=by open zdl in exact Zbt):=h
theorem sy1{g:Nat}{p:Nat}{D:Nat->aK}(hT:SyT (.func (.func 14) #[] #[]) T g n cap a m b mid (af (mid+m:Nat)) (af s) (vf)){w:t_}(hS:SS w0 g n w D)(he:jC a m b mid s0 r0)(hp:p=mid+m-1)(k1:cT D a m)(k2:cT D m b)(hF:Qo D p s0 r0 s s)(hs:s0<=s/\s<=r0)(hI:Z8 w0 g n cap a b D)(hQ:Z9 w0 g n a b D d Q):
  (eC La 8).wp prog Q {tmps:=T,defers:=d} w:=by
 open zaz in exact Zag
def zaT.Kaa(h:p:=by exact ZfS):=h
def zaU.Kaa(h:p:=by exact ZfC):=h
def zc2.Kay(h:p:=by
 have zpc:(p:Int)-(jp:Int)=((p-jp:Nat):Int):=WC;have HG:=aa (Qo.goP HL.ae HO.ae A1.ae A2.ae HF.ae vZ hjr cj hcr);have cV:=λ q:Ext wr.heap.size wr=>(H2.ae.at_.later q.h).cell (p-jp) WC;have cU:=λ q:Ext wr.heap.size wr=>(H2.ae.at_.later q.h).cell jp WC;have cQ:=λ q:Ext wr.heap.size wr=>H2.ae.cmp (p-jp) jp WC WC q.h;by_cases Kx:bT (D (p-jp)).l (D jp).l<0;have t2:=decide_eq_true Kx;have HX:=aa (HG.ae.2 Kx);clear Kx;refine aR 14 wr.heap.size wr cX Taa Taa Taa Taa ?_;open zaT in exact Zak
 have t2:=decide_eq_false Kx;have HX:=aa (HG.ae.1 Kx);clear Kx;refine aR 14 wr.heap.size wr cX Taa Taa Taa Taa ?_;open zaU in exact Zak):=h
def zct.Kaq(h:p:=by
 have HY:=aa λ s W (hh:SS w0 g n W D) (M7:Qo D p s0 r0 s s) (k3:s0<=s/\s<=r0) T vf hT=>sy1 (T:=T) (d:=d) (vf:=vf) hT hh HO.ae HL.ae A1.ae A2.ae M7 k3 HI.ae HQ.ae;simp only[La,eC,f130,Option.getD_some]at HY⊢;refine wp_seq_k λ K hK=>?_;have Fl:=aa hK;clear hK;go_wp2_with fail;go_loopw [20,21] (λ sv rv wr=>∃i j:Nat,s0<=i/\i<=j/\j<=r0/\sv=af i/\rv=af j/\SS w0 g n wr D/\Qo D p s0 r0 i j) (λ sv rv _=>(intOf rv).toNat-(intOf sv).toNat);case atStart=>exact Zga
 case round=>
  clear HS;obtain⟨i,j,vZ,kE,hjr,rfl,rfl,hs,hF⟩:=hrel;have H2:=aa hs;have HF:=aa hF;clear hs hF;by_cases hlt:i<j
  ·go_upto_region 35 with fail;open zc2 in exact Zbi
  exact Zeu):=h
theorem syL{g:Nat}{p:Nat}{D:Nat->aK}(hT:SyT (.func (.func 14) #[] #[]) T g n cap a m b mid (af (mid+m:Nat)) (af s0) (vf)){w:t_}(XO:T.getD 21 undef=af r0)(e22:T.getD 22 undef=af p)(hS:SS w0 g n w D)(hw:jC a m b mid s0 r0)(hl:p=mid+m-1)(hh:cT D a m)(M7:cT D m b)(hI:Z8 w0 g n cap a b D)(hQ:Z9 w0 g n a b D d Q):
  (eC La 7).wp prog Q {tmps:=T,defers:=d} w:=by
 open zct in exact ZaQ
def zeq.KaT(h:p:=by exact Zhu):=h
def zer.KaT(h:p:=by exact Zhu):=h
def ze8.Ka7(h:p:=by go_enter func130,ntmps130;open zeq in exact ZcB):=h
def zhj.KbY(h:p:=by go_enter func130,ntmps130;open zer in exact ZcB):=h
def zdx.KaE(h:p:=by
 simp only[La,eC,f130,Option.getD_some]at HY;rw[<-pY]at HY;clear h hp k1 k2 hI;have bm:a<mid/\mid<b:=WC;have HM:=aa aaa;have HNN:=aa pY;clear aaa pY;by_cases c:mid<m
 ·open ze8 in exact Zc0
 open zhj in exact Zfs):=h
theorem Lb(w0:t_)(g n cap a m b:Nat)(D:Nat->aK)(w:t_)(h:SS w0 g n w D)(ham:a+1<m)(hmb:m+1<b)(k1:cT D a m)(k2:cT D m b)(hI:Z8 w0 g n cap a b D):
  ar 130 #[aL g n cap,af a,af m,af b,.func (.func 14) #[] #[]] w (cI w0 g n a b D):=by
 open zdx in exact Zbw
theorem xY(w0:t_)(g n cap:Nat)(hn:n<=1000):∀(N a m b:Nat) (D:Nat->aK) (w:t_),b-a<=N->a<m->m<b->b<=n->SS w0 g n w D->cT D a m->cT D m b->
  ar 130 #[aL g n cap,af a,af m,af b,.func (.func 14) #[] #[]] w (cI w0 g n a b D):=by exact ZbV
def EL(E:Nat->aK)(s n:Nat):Prop:=∀a,s ∣ a->cT E a (min (a+s) n)
theorem mZ{d x y:Nat}(h1:d ∣ x)(h2:d ∣ y)(h:x<y):x+d<=y:=Zd4
def Low(E:Nat->aK)(s a:Nat):Prop:=∀x,s ∣ x->x+s<=a->cT E x (x+s)
def Ld(E:Nat->aK)(s a n:Nat):Prop:=∀x,s ∣ x->a<=x->cT E x (min (x+s) n)
variable{E F:Nat->aK}
theorem Low.step(h:Low E s a)(hd:s ∣ a)(hw:Sw a (a+s) E F)(ho:cT F a (a+s)):Low F s (a+s):=by exact Zej
theorem Ld.step(h:Ld E s a n)(hab:a<=b)(hw:Sw a b E F):Ld F s b n:=λ x hx hle=>(h x hx WC).congr λ i h2 h3=>hw.ae i (.inr WC)
theorem je(h:Low E s a)(hd:s ∣ a)(han:a<=n)(hn:n<a+s)(hw:Sw a n E F)(ho:cT F a n):EL F s n:=by exact ZcZ
def zfH.Kbn(h:p:=by
 go_loopw [6] (λ sv wr=>∃(j:Nat) (E:Nat->aK),0<j/\j<=2000/\sv=af j/\SS w0 g n wr E/\Sw 0 n D E/\EL E j n) (λ sv _=>n-(intOf sv).toNat);case atStart=>exact⟨20,F,by omega,by omega,rfl,H2.ae,HW.ae,Gb.ae⟩
 case round=>
  clear H2 HW Gb;obtain⟨j,E,hj0,hj,rfl,hS,hw,hl⟩:=hrel;have HS:=aa hS;have HO:=aa hw;have HL:=aa hl;clear hS hw hl;by_cases hlt:j<n
  ·go_wp2_with fail;go_loopw [7,8] (λ av bv wr2=>∃(a:Nat) (E:Nat->aK),2*j ∣ a/\a<=n/\av=af a/\bv=af (a+2*j:Nat)/\SS w0 g n wr2 E/\Sw 0 n D E/\Low E (2*j) a/\Ld E j a n) (λ av _ _=>n-(intOf av).toNat);case atStart=>exact Zgp
   case round=>exact Zam
  have HE:=aa (show cT E 0 n from(HL.ae 0 ⟨0,rfl⟩).mono aE WC);go_wp2_with fail;exact bodyPost_ret (v:=.tuple #[]) Tbt rfl ⟨rfl,E,HS.ae,HO.ae,HE.ae⟩):=h
theorem vQ(w0:t_)(g n cap:Nat)(D:Nat->aK)(w:t_)(h:SS w0 g n w D)(hn:n<=1000):
  ar 84 #[aL g n cap,af n,.func (.func 14) #[] #[]] w (cI w0 g n 0 n D):=by
 have Kx:=aa h;clear h;go_enter func84,ntmps84;go_wp2_with fail;go_loopw [7,8] (λ av bv wr=>∃(a:Nat) (E:Nat->aK),20 ∣ a/\a<=n/\av=af a/\bv=af (a+20)/\SS w0 g n wr E/\Sw 0 n D E/\Low E 20 a) (λ av _ _=>n-(intOf av).toNat);case atStart=>exact ZhC
 case round=>
  clear Kx;obtain⟨a,E,M7,han,rfl,rfl,hS,hw,hl⟩:=hrel;have HS:=aa hS;have HO:=aa hw;have HL:=aa hl;have A2:=aa M7;clear hS hw hl M7;by_cases hlt:a+20<=n;exact ZbX
  open zfH in exact ZdX
theorem nd(w0:t_)(g n cap:Nat)(D:Nat->aK)(w:t_)(h:SS w0 g n w D)(hn:n<=1000):
  ar 51 #[aL g n cap,.func (.func 14) #[] #[]] w (cI w0 g n 0 n D):=by have HC:=vQ w0 g n cap D w h hn;clear h;go_enter func51,ntmps51;go_wp2_with fail;refine HC.mono ?_;rintro e w1 ⟨rfl,b1⟩;go_wp2_with fail;exact bodyPost_ret (v:=.tuple #[]) Tbv rfl ⟨rfl,b1⟩
def nj(w:t_)(e:Ending)(w':t_):Prop:=e=.returned (.tuple #[])/\w'=w
theorem nk(A:xP)(cap:Nat)(w:t_):
  ar 129 #[.slice A 0 cap,af 0,af 0,.func (.func 14) #[] #[]] w (nj w):=by
 go_enter func129,ntmps129;go_wp2_with fail;go_loopw [8] (λ iv wr=>iv=af 1/\wr=w) (λ _ _=>0);case atStart=>exact ZfK
 case round=>obtain⟨rfl,rfl⟩:=hrel;go_wp2_with fail;exact bodyPost_ret (v:=.tuple #[]) Tbn rfl ⟨rfl,rfl⟩
theorem sZ(A:xP)(cap:Nat)(w:t_):
  ar 84 #[.slice A 0 cap,af 0,.func (.func 14) #[] #[]] w (nj w):=by
 go_enter func84,ntmps84;go_wp2_with fail;go_loopw [7,8] (λ av bv wr=>av=af 0/\bv=af 20/\wr=w) (λ _ _ _=>0);case atStart=>exact ZiF
 case round=>
  obtain⟨rfl,rfl,rfl⟩:=hrel;go_wp2_with fail;refine(nk A cap _).mono ?_;rintro e_ w1 ⟨rfl,rfl⟩;go_wp2_with fail;go_loopw [6] (λ sv wr=>sv=af 20/\wr=w1) (λ _ _=>0);case atStart=>exact ZfK
  case round=>obtain⟨rfl,rfl⟩:=hrel;go_wp2_with fail;exact bodyPost_ret (v:=.tuple #[]) Tbt rfl ⟨rfl,rfl⟩
theorem lN(A:xP)(cap:Nat)(w:t_):
  ar 51 #[.slice A 0 cap,.func (.func 14) #[] #[]] w (nj w):=by go_enter func51,ntmps51;go_wp2_with fail;refine(sZ A cap w).mono ?_;rintro e_ w1 ⟨rfl,rfl⟩;go_wp2_with fail;exact bodyPost_ret (v:=.tuple #[]) Tbv rfl ⟨rfl,rfl⟩
variable{rs:List aK}
theorem RR.later{w:t_}(h:RR w w.heap.size A rs)(hb:ai w w'):RR w' w'.heap.size A rs:=by rcases h with h|⟨b,off,h1,h2,h3⟩;exact Zis;exact .inr ⟨b,off,h1,eS h2 hb.size,λ i r hr=>⟨(hb.cell (p:=⟨b,off+i,none⟩) h2).trans (h3 i r hr).1,((h3 i r hr).2.below hb).more hb.size⟩⟩
theorem Lm(a b:Val)(w:t_):ar 144 #[.agg (aC a),.agg (aC b)] w λ e w'=>e=.returned (af (bC a b))/\ai w w':=by
 by_cases hk:a.k=b.k
 ·have t1:(a.k != b.k)=false:=by simpa using hk
  by_cases hn:a.n=b.n
  ·have t2:(a.n != b.n)=false:=by simpa using hn
   have hv:bC a b=lY a.s b.s:=by unfold bC or3 mA;rw[if_neg (show¬a.k<b.k by omega),if_neg (show¬b.k<a.k by omega),if_pos rfl,if_neg (show¬a.n<b.n by omega),if_neg (show¬b.n<a.n by omega),if_pos rfl]
   have HV:=aa hv;clear hv hk hn;cases he:(a.s.toList==b.s.toList)
   ·cases hl:Op.bytesLess a.s.toList b.s.toList
    ·have HQ:=aa (show bC a b=1 by rw[HV.ae];unfold lY;rw[if_neg (by rw[hl];simp),if_neg (by rw[he];simp)]);exact ZbA
    have HQ:=aa (show bC a b= -1 by rw[HV.ae];unfold lY;rw[if_pos hl]);exact ZbA
   have hl:Op.bytesLess a.s.toList b.s.toList=false:=by
    have:a.s.toList=b.s.toList:=by simpa using he
    rw[this];exact kO _
   have HQ:=aa (show bC a b=0 by rw[HV.ae];unfold lY;rw[if_neg (by rw[hl];simp),if_pos he]);exact ZbA
  have t2:(a.n != b.n)=true:=by simpa using hn
  by_cases hl:a.n<b.n;have t3:=decide_eq_true hl;have HQ:=aa (show bC a b= -1 by unfold bC or3 mA;rw[if_neg (show¬a.k<b.k by omega),if_neg (show¬b.k<a.k by omega),if_pos rfl,if_pos hl,if_neg Tab]);clear hk hn;exact ZbA;have t3:=decide_eq_false hl;have HQ:=aa (show bC a b=1 by unfold bC or3 mA;rw[if_neg (show¬a.k<b.k by omega),if_neg (show¬b.k<a.k by omega),if_pos rfl,if_neg hl,if_pos (show b.n<a.n by omega),if_neg Tab]);clear hk hn;exact ZbA
 have t1:(a.k != b.k)=true:=by simpa using hk
 by_cases hl:a.k<b.k;have t3:=decide_eq_true hl;have HQ:=aa (show bC a b= -1 by unfold bC or3 mA;rw[if_pos hl,if_neg Tab]);clear hk;exact ZbA;have t3:=decide_eq_false hl;have HQ:=aa (show bC a b=1 by unfold bC or3 mA;rw[if_neg hl,if_pos (show b.k<a.k by omega),if_neg Tab]);clear hk;exact ZbA
def zdq.KaD(h:p:=by clear fq y2 x0 x1 x2 y0 y1 Kx;replace hB:=aj.then hB hL;clear hL;exact ZcC):=h
def zeA.KaX(h:p:=by go_big_quiet_step ((go_at_call 144;exact aN aE (Lm v v' _)));open zdq in exact Zbu):=h
theorem Yn(A:xP)(c:Nat)(l:w_)(A':xP)(c':Nat)(l':w_)(w:t_)(h:RV w w.heap.size A l)(h':RV w w.heap.size A' l')(hm:l.length<=1000)(hm':l'.length<=1000):
  ar 90 #[.slice A l.length c,.slice A' l'.length c'] w λ e w'=>e=.returned (af (bT l l'))/\ai w w':=by
 have HR:=aa h;have HR':=aa h';clear h h';go_enter func90,ntmps90;go_wp2_with fail;go_loopw [5] (λ i wr=>∃k:Nat,k<=l.length/\k<=l'.length/\i=af k/\bT (l.drop k) (l'.drop k)=bT l l'/\ai w wr) (λ i _=>l.length-(intOf i).toNat);case atStart=>exact Zit
 case round=>
  obtain⟨k,hk,TC,rfl,hd,hB⟩:=hrel;have HD:=aa hd;clear hd;by_cases hlt:k<l.length
  ·by_cases CM:k<l'.length
   ·obtain⟨b,off,rfl,hb,c0,c1,c2⟩:=(HR.ae.later hB).at_ hlt;obtain⟨b',off',rfl,hb',d0,d1,d2⟩:=(HR'.ae.later hB).at_ CM;have HS:=aa (GK l l' k hlt CM);generalize l[k]=v at*;generalize l'[k]=v' at*;have x0:=λ q:Ext wr.heap.size wr=>(q.h.cell (p:=⟨b,off+k*3,none⟩) hb).trans c0
    have x1:=λ q:Ext wr.heap.size wr=>(q.h.cell (p:=⟨b,off+k*3+1,none⟩) hb).trans c1;have x2:=λ q:Ext wr.heap.size wr=>(q.h.cell (p:=⟨b,off+k*3+2,none⟩) hb).trans c2;have y0:=λ q:Ext wr.heap.size wr=>(q.h.cell (p:=⟨b',off'+k*3,none⟩) hb').trans d0;have y1:=λ q:Ext wr.heap.size wr=>(q.h.cell (p:=⟨b',off'+k*3+1,none⟩) hb').trans d1;have Kx:=λ q:Ext wr.heap.size wr=>(q.h.cell (p:=⟨b',off'+k*3+2,none⟩) hb').trans d2;clear c0 c1 c2 d0 d1 d2;go_upto_region 4 with fail;refine aR 9 wr.heap.size wr cX Taa Taa Taa Taa ?_;open zeA in exact ZcI
   have HS:=aa (GL l l' k hlt WC);have n1:¬l.length<l'.length:=by omega
   have n2:l'.length<l.length:=WC;exact Zdp
  by_cases CM:k<l'.length
  ·have HS:=aa (GM l l' k WC CM);have n1:l.length<l'.length:=by omega
   exact Zdp
  have HS:=aa (Mt l l' k WC WC);have n1:¬l.length<l'.length:=by omega
  have n2:¬l'.length<l.length:=WC;exact Zdp
theorem Yo(A:xP)(c:Nat)(l:w_)(A':xP)(c':Nat)(l':w_)(w:t_)(h:RV w w.heap.size A l)(h':RV w w.heap.size A' l')(hm:l.length<=1000)(hm':l'.length<=1000):
  ar 53 #[.slice A l.length c,.slice A' l'.length c'] w λ e w'=>e=.returned (.bool (bT l l'==0))/\ai w w':=by have HC:=Yn A c l A' c' l' w h h' hm hm';clear h h';go_enter func53,ntmps53;go_wp2_with fail;refine HC.mono ?_;exact Zdl
def zdr.KaD(h:p:=by exact Zf7):=h
def zeB.KaX(h:p:=by go_big_quiet_step ((go_at_call 53;exact aN aE (hc1 _)));open zdr in exact Zbu):=h
theorem OU(A:xP)(c:Nat)(rs:List aK)(A':xP)(c':Nat)(ss:List aK)(w:t_)(h:RR w w.heap.size A rs)(h':RR w w.heap.size A' ss)(he:rs.map (·.l)=ss.map (·.l))(hm:rs.length<=1000)(hl:∀r∈rs,r.l.length<=1000):
  ar 26 #[.slice A rs.length c,.slice A' ss.length c'] w λ e w'=>e=.returned (.bool true)/\ai w w':=by
 have hlen:ss.length=rs.length:=by simpa using(congrArg List.length he).symm
 have Fz:=aa (show∀i (h1:i<rs.length) (h2:i<ss.length),ss[i].l=rs[i].l from λ i h1 h2=>by have:=congrArg (λ l=>l[i]?) he;simp only[getElem?_map,getElem?_eq_getElem h1,getElem?_eq_getElem h2,Option.map_some,Option.some.injEq]at this;exact this.symm)
 have Wv:=aa hlen;have HR:=aa h;have HR':=aa h';have HL:=aa hl;rw[hlen];clear he h h' hl hlen;go_enter func26,ntmps26;go_wp2_with fail;go_loopw [5] (λ Kx wr=>∃k:Nat,k<=rs.length/\Kx=af k/\ai w wr) (λ Kx _=>rs.length-(intOf Kx).toNat);case atStart=>exact Zhs
 case round=>
  obtain⟨i,Xz,rfl,cL⟩:=hrel;by_cases hlt:i<rs.length
  ·have D7:i<ss.length:=by rw[Wv.ae];exact hlt
   obtain⟨b1,o1,rfl,l1,c1,r1⟩:=(HR.ae.later cL).at_ hlt;obtain⟨b2,o2,rfl,l2,c2_,r2⟩:=(HR'.ae.later cL).at_ D7;have k1:=λ q:Ext wr.heap.size wr=>(q.h.cell (p:=⟨b1,o1+i,none⟩) l1).trans c1;have k2:=λ q:Ext wr.heap.size wr=>(q.h.cell (p:=⟨b2,o2+i,none⟩) l2).trans c2_;have hc1:=λ q:Ext wr.heap.size wr=>Yo rs[i].A rs[i].c rs[i].l ss[i].A ss[i].c ss[i].l q.w (r1.later q.h) (r2.later q.h) (HL.ae _ (getElem_mem hlt)) (by rw[Fz.ae i hlt D7];exact HL.ae _ (getElem_mem hlt));have t1:(bT rs[i].l ss[i].l==0)=true:=by rw[Fz.ae i hlt D7,oN];rfl
   clear c1 c2_ l1 l2 r1 r2;go_upto_region 6 with fail;refine aR 10 wr.heap.size wr cX Taa Taa Taa Taa ?_;open zeB in exact ZcI
  go_wp2_with fail;go_ret;exact⟨rfl,cL⟩
theorem afF:f11.body=some eI:=by unfold eI;simp only[f11,Option.getD_some]
theorem afG(a b c:Value):(#[a,b,c]++Array.replicate (f11.ntmps-(#[a,b,c]:x_).size) undef).size=183:=by simp[f11]
variable{g6:Nat}
def zgK.KbN(h:p:=by simp[results,f11,go_sem,e6,e7,v0,v1,v2]):=h
theorem Ln{a b c:Value}(h6:T.getD 6 undef=aw g6)(h7:T.getD 7 undef=u)(HV:aB W g6 33 #[a,b,c]):(results f11 T).run prog W=.ok (.tuple #[.agg #[a,b,c],u]) W:=by
 have e6:T[6]?.getD undef=aw g6:=by rw[<-h6];simp[Array.getD_eq_getD_getElem?]
 have e7:T[7]?.getD undef=u:=by rw[<-h7];simp[Array.getD_eq_getD_getElem?]
 open zgK in exact Ze2
def Fb(q:Qy)(cols:List aZ)(rows:z_)(w0:t_)(e:Ending)(W:t_):Prop:=
 ai w0 W/\match iZ q cols rows with
 |.error er=>er≠0/\e=.returned (.tuple #[.agg #[az,az,af 0],af er])
 |.ok (hd,la)=>∃HA hc ov out,e=.returned (.tuple #[.agg #[.slice HA hd.length hc,ov,af la.length],af 0])/\aH aU 113 2 W w0.heap.size (.slice HA hd.length hc) hd/\aH bh 38 1 W w0.heap.size ov out/\(∀r∈out,js W r)/\out.map (·.l)=la
theorem aaN{p:iY}(h:et q cols=.ok p):∀n∈q.lim,0<=n:=by unfold et at h;split at h;cases h;rename_i hn;intro n hm;rcases hl:q.lim with _|⟨a,_|⟨b,l⟩⟩;rw[hl]at hm;cases hm;rw[hl]at hm hn;rw[mem_singleton]at hm;subst hm;refine Int.not_lt.1 λ hlt=>hn (.inr (.inr (.inr ⟨rfl,hlt⟩)));rw[hl]at hn;exact absurd (.inr (.inr (.inl Tad))) hn
theorem Yp{p:iY}(h:et q cols=.ok p):q.lim.length<=1:=by unfold et at h;split at h;cases h;rename_i hn;exact Nat.not_lt.1 λ hlt=>hn (.inr (.inr (.inl hlt)))
theorem Lp{p:iY}(h:et q cols=.ok p):q.all.any (λ t=>decide (32<t.depth))=false:=by unfold et at h;split at h;cases h;split at h;cases h;rename_i hn;exact Bool.not_eq_true _▸hn
structure Lr (w0:t_) (q:Qy) (L:QL) (CA:xP) (cc:Nat) (cols:List aZ) (RA:xP) (rows:List aK):Prop where
 qy:su w0 q L
 ok:q.Ok
 pl:EU (BF q L CA cc cols) w0 q L cols
 cl:cols.length<=1000
 rr:RR w0 w0.heap.size RA rows
 each:∀r∈rows,r.l.length<=1000/\∀v∈r.l,v.Ok
 rn:rows.length<=300
 ng:q.aG.length<=1000
 ni:q.items.length<=1000
 no:q.ord.length<=1000
 nh:q.fE.length<=1000
 nw:q.bQ.length<=1000
 sm:q.all.any (λ t=>decide (32<t.depth))=false->q.aG.length+(q.aG.length+2*Tr.aP (q.items.map (·.1))+2*Tr.aP q.fE+2*Tr.aP (q.ord.map (·.1)))<=1000
 lim:∀n∈q.lim,n<=9223372036854775807
variable{RA:xP}
theorem Lr.later{w:t_}(h:Lr w0 q L CA cc cols RA rows)(hb:ai w0 w):Lr w q L CA cc cols RA rows:=
 ⟨h.qy.later hb,h.ok,h.pl.later hb,h.cl,RR.later h.rr hb,h.each,h.rn,h.ng,h.ni,h.no,h.nh,h.nw,h.sm,h.lim⟩
def zdL.KaJ(h:p:=by have HS:=aa (Below.trans HB.ae (hS.mono HB.ae.size));clear hz hne Xz hS;go_wp2_with fail;refine Jk.ae _ _ ?_;clear Jk;refine wp_seq_k λ K1 hK1=>?_;clear hK1;go_wp2_with fail;refine⟨rfl,_,Ln rfl rfl (((Bv.ae.aW 0 _).aW 1 _).aW 2 _),?_⟩;unfold Fb;rw[HR.ae];exact⟨Below.trans HS.ae ((qO Bv.ae).mono HS.ae.size),oD.ae,rfl⟩):=h
def zhq.Kb1(h:p:=by clear qE;go_wp2_with fail;refine⟨rfl,_,Ln rfl rfl (((NW.ae.aW 0 _).aW 1 _).aW 2 _),?_⟩;unfold Fb;rw[HR.ae];exact⟨Below.trans NN.ae ((qO NW.ae).mono NN.ae.size),by decide,rfl⟩):=h
def zgv.KbG(h:p:=by
 have d0:=xO.ae.cell 0;simp only[getElem?_toArray,getElem?_cons_zero]at d0;go_wp2_with fail;refine(OD g4 cols CA cc rows RA rc W xO.ae.lt d0 (by have:=Up.ae.cl;omega) (by have:=Up.ae.rn;omega) (λ x hz=>by have:=(Up.ae.each x hz).1;omega) Up.ae.pl.ok.cols Up.ae.rr).mono ?_;rintro e w2 ⟨rfl,hL⟩;have fT:=aa hL;have asg:((rows.map (·.l)).any λ r=> !iE cols r)=(rows.any λ r=> !iE cols r.l):=by rw[any_map];rfl
 have ash:=aa asg;have NN:=aa (Below.trans wu.ae (hL.mono wu.ae.size));have NW:=aa (Bv.ae.later hL);clear hL asg d0;cases qE:(rows.any λ r=> !iE cols r.l)with
 |true=>have HR:=aa (show iZ q cols (rows.map (·.l))=.error 40 by rw[HRD.ae,HK.ae];dsimp only;rw[ash.ae,qE,if_pos rfl]);open zhq in exact Zfv
 |false=>
   have HR:=aa (show iZ q cols (rows.map (·.l))=(match yu q p cols (cP cols q.bQ (rows.map (·.l))).2 (cP cols q.bQ (rows.map (·.l))).1 with|.error e=>.error e|.ok la=>.ok (p.head,la)) by rw[HRD.ae,HK.ae];dsimp only;rw[ash.ae,qE,if_neg Tab];try (generalize yu q p cols _ _=z;cases z<;>rfl));clear qE;go_wp2_with fail;refine Kh.ae _ _ ?_;clear Kh;refine wp_seq_k λ K3 hK3=>?_;have Ef:=aa hK3;clear hK3;have Ao:=aa (Up.ae.later fT.ae);obtain⟨yw,cb,hR,XW⟩:=Tf Ao.ae.pl.iw;have y3:=(uz.ae.later fT.ae).cell 3;have d0:=(xO.ae.later fT.ae).cell 0;unfold ft at y3;simp only[Uaa]at y3 d0;rw[cb]at y3;have zB:=aa hR;have IH:=aa XW;clear hR XW cb;go_wp2_with fail;clear y3 d0;have hyl:yw.length=q.bQ.length:=(dZ IH.ae).symm;refine(Vk cols CA cc q.bQ yw L.w.A L.w.c rows RA rc w2 (by have:=Ao.ae.cl;omega) (by have:=Ao.ae.rn;omega) (λ x hz=>⟨by have:=(Ao.ae.each x hz).1;omega,(Ao.ae.each x hz).2⟩) Ao.ae.pl.qw IH.ae (by rw[hyl];have:=Ao.ae.nw;omega) zB.ae Ao.ae.pl.ok.cols Ao.ae.rr).mono ?_;rintro e w3 ⟨v3,rfl,ho3,b3⟩;have VG:=aa ho3;have ux:=aa b3;have YL:=aa (aaE cols q.bQ rows);have Ls:=aa (Below.trans fT.ae (b3.mono fT.ae.size));clear ho3 b3 hyl;obtain⟨e0,hK4⟩:∃e0,e0=(cP cols q.bQ (rows.map (·.l))).2:=⟨_,rfl⟩;rw[<-hK4]at HR⊢;rw[<-YL.ae]at HR;clear hK4;go_wp2_with fail;refine Ef.ae _ _ ?_;clear Ef;refine wp_seq_k λ K5 hK5=>?_;have HK5:=aa hK5;clear hK5;have d0:=(xO.ae.later Ls.ae).cell 0;simp only[getElem?_toArray,getElem?_cons_zero]at d0;go_wp2_with fail;refine HK5.ae _ _ ?_;clear HK5 d0;have aFp:=aa (Below.trans HS.ae (Ls.ae.mono HS.ae.size));have axQ:=aa (ox.ae.later Ls.ae);have axR:=aa (Below.trans wu.ae (Ls.ae.mono wu.ae.size));have AV:(jS (eM cols q.bQ) rows).length<=300:=fK (length_filter_le _ _) HQ.ae.rn;have afC:∀x∈jS (eM cols q.bQ) rows,yt w3 x:=λ x hz=>by have hz:=(List.mem_filter.1 hz).1;obtain⟨i,hi,he⟩:=getElem_of_mem hz;obtain⟨_,_,_,_,_,hv⟩:=Ao.ae.rr.at_ hi;rw[he]at hv;have hv3:RV w3 w3.heap.size x.A x.l:=hv.later ux.ae;exact⟨hv3,HQ.ae.each x hz⟩
   have hsm:=HQ.ae.sm (Lp HK.ae);have hln:=Nj.ae.ln;have LP:=λ T hT a3 a6 a8 a9 Hc S1=>aaL w0 g3 g6 gp q L p cols CA cc yg ya yi yh yo AA ac VA vc HA hc IA ic JA jc DA dc e0 (jS (eM cols q.bQ) rows) w2.heap.size v3 T hT a3 a6 a8 a9 Hc S1 [] w3 (bodyPost prog f11 (Fb q cols (rows.map (·.l)) w0)) axQ.ae Nj.ae HFN.ae HQ.ae.pl.qg HQ.ae.ng WC WC (by have:=HQ.ae.cl;omega) (by rw[Nj.ae.lh];have:=HQ.ae.nh;omega) HQ.ae.ni HQ.ae.no YJ.ae.pl.io YJ.ae.qy.l (λ n hn=>⟨aaN HK.ae n hn,HQ.ae.lim n hn⟩) (Yp HK.ae) axR.ae (uz.ae.later Ls.ae) (Bv.ae.later Ls.ae) axP.ae VG.ae afC AV
    (λ er hr hne a W e1 e2 e3 Xz hS=>⟨e1,_,Ln e2 e3 Xz,by unfold Fb;rw[HR.ae,hr];exact⟨hS,hne,rfl⟩⟩)
    (λ la hr a W ov out e1 e2 e3 Xz oW hk BD hS gW=>⟨e1,_,Ln e2 e3 Xz,by
      unfold Fb;rw[HR.ae,hr];have hlen:out.length=la.length:=by rw[<-BD,length_map]
      rw[hlen];have hh:=(iT.ae.later Ls.ae).grown gW ((iT.ae.later Ls.ae).other (Bv.ae.later Ls.ae) Tab);exact⟨hS,HA,hc,ov,out,rfl,hh.down HB.ae.size,oW,hk,BD⟩⟩)
   simp only[eI,eC,f11,Option.getD_some]at LP;exact LP _ rfl rfl rfl rfl rfl rfl rfl):=h
theorem afH(q:Qy)(L:QL)(CA:xP)(cc:Nat)(cols:List aZ)(RA:xP)(rc:Nat)(rows:List aK)(T:x_)(hT:T.size=183)(h0:T.getD 0 undef=oF q L)(h1:T.getD 1 undef=.slice CA cols.length cc)(h2:T.getD 2 undef=.slice RA rows.length rc)(w0:t_)(hq:Lr w0 q L CA cc cols RA rows):
  (eC eI 0).wp prog (bodyPost prog f11 (Fb q cols (rows.map (·.l)) w0)) {tmps:=T,defers:=[]} w0:=by
 obtain⟨f,rfl⟩:=zN T hT;have h0:f 0=_:=h0;have h1:f 1=_:=h1;have h2:f 2=_:=h2;unfold oF at h0;simp only[Zg,h0,h1,h2];clear h0 h1 h2;clear h0 h1 h2 hT;have b1:=ah w0 (.cells (ft q L) 27);have k3:=aB.new w0 27 (ft q L);obtain⟨W1,hW1⟩:∃W1,W1=w0.alloc (.cells (ft q L) 27):=⟨_,rfl⟩;have s1:W1.heap.size=w0.heap.size+1:=by rw[hW1,World.size_alloc]
 rw[<-hW1]at b1 k3;have hL:=ah W1 (.cells #[.slice CA cols.length cc] 28);have k4:=aB.new W1 28 #[.slice CA cols.length cc];obtain⟨W2,hW2⟩:∃W2,W2=W1.alloc (.cells #[.slice CA cols.length cc] 28):=⟨_,rfl⟩;have s2:W2.heap.size=W1.heap.size+1:=by rw[hW2,World.size_alloc]
 rw[<-hW2]at hL k4;have b3:=ah W2 (.cells #[az,az,af 0] 33);have Xz:=aB.new W2 33 #[az,az,af 0];obtain⟨W3,hW3⟩:∃W3,W3=W2.alloc (.cells #[az,az,af 0] 33):=⟨_,rfl⟩;rw[<-hW3]at b3 Xz;have hb:=aj.then (aj.then b1 hL) b3;have HX:=aa (show aB W3 w0.heap.size 27 (ft q L)from(k3.later hL).later b3);have K3:=aa (show aB W3 W1.heap.size 28 #[.slice CA cols.length cc] from k4.later b3);have K6:=aa Xz;have HB:=aa hb;have HQ:=aa (hq.later hb);have yD:=aa (show w0.heap.size<=W2.heap.size by omega);have y0:=HX.ae.cell 0;have y1:=HX.ae.cell 1;have c2:=HX.ae.cell 2;have y3:=HX.ae.cell 3;have y4:=HX.ae.cell 4;have y5:=HX.ae.cell 5;have y6:=HX.ae.cell 6;have x7:=HX.ae.cell 7;have d0:=K3.ae.cell 0;unfold ft at y0 y1 c2 y3 y4 y5 y6 x7;simp only[Uaa]at y0 y1 c2 y3 y4 y5 y6 x7 d0;subst hW2;subst hW1;obtain⟨g3,hg3⟩:∃g3,g3=w0.heap.size:=⟨_,rfl⟩;have wk:=aa hg3;have hpl:=Tb q L CA cc cols W3 HQ.ae.qy HQ.ae.ok HQ.ae.cl HQ.ae.pl;unfold oF at hpl;have QY:=aa hpl;have YJ:=aa hq;clear hq b1 hL b3 k3 k4 Xz hb s1 s2 hg3 hpl;unfold ft at hW3;simp only[World.size_alloc]at y0 y1 c2 y3 y4 y5 y6 x7 d0 K3 K6 yD;simp only[eI,eC,f11,Option.getD_some];refine wp_seq_k λ K hK=>?_;have Fl:=aa hK;clear hK;go_wp2_with fail;refine Fl.ae _ _ ?_;clear Fl;rw[<-hW3];have Le:=aa hW3;clear hW3;obtain⟨g4,hg4⟩:∃g4,g4=w0.heap.size+1:=⟨_,rfl⟩;obtain⟨g6,sQ⟩:∃g6,g6=w0.heap.size+1+1:=⟨_,rfl⟩;obtain⟨g3,hg3⟩:∃g3,g3=w0.heap.size:=⟨_,rfl⟩;have axP:=aa (show w0.heap.size<=g6 by omega);rw[<-sQ]at K6⊢;rw[<-hg4]at d0 K3⊢;rw[<-hg3]at y0 y1 c2 y3 y4 y5 y6 x7 HX⊢;clear hg3 hg4 sQ yD wk Le;refine wp_seq_k λ KK pJ=>?_;have Jk:=aa pJ;clear pJ;go_wp2_with fail;clear y0 y1 c2 y3 y4 y5 y6 x7 d0;refine QY.ae.mono ?_;intro e W hp;unfold Lk at hp;have HRD:=aa (afD q cols (rows.map (·.l)));cases hz:et q cols with
 |error er=>
   rw[hz]at hp;obtain⟨hne,rfl,hS⟩:=hp;have HR:=aa (show iZ q cols (rows.map (·.l))=.error er by rw[HRD.ae,hz]);have t1:(er != 0)=true:=by simp[hne]
   have oD:=aa hne;have Xz:=K6.ae.later hS;have Bv:=aa Xz;open zdL in exact ZbY
 |ok p=>rw[hz]at hp;obtain⟨gp,r,u,v,ya,yi,yh,yo,rfl,akS⟩:=hp;have hq3:=HQ.ae;obtain⟨yg,AA,ac,VA,vc,HA,hc,IA,ic,JA,jc,DA,dc,Bi,Ui⟩:=aaG akS hq3.pl;have qT:=afu hz hq3.pl.qi hq3.pl.qh hq3.pl.qo;obtain⟨hfn,_⟩:=qM hz;have hS:=akS.base;have ox:=aa Bi;have iT:=aa Ui;have Nj:=aa qT;have HFN:=aa hfn;have HK:=aa hz;have HS:=aa hS;have wu:=aa (Below.trans HB.ae (hS.mono HB.ae.size));have uz:=aa (HX.ae.later hS);have xO:=aa (K3.ae.later hS);have Bv:=aa (K6.ae.later hS);have Up:=aa (hq3.later hS);clear hz akS hq3 Bi Ui qT hfn hS;go_wp2_with fail;refine Jk.ae _ _ ?_;open zgv in exact ZeQ
def ziQ.KcB(h:p:=by
 have t2:T.getD 2 undef=.slice RA rows.length rc:=by rw[LM];simp[Array.getD_eq_getD_getElem?]
 clear LM;exact afH q L CA cc cols RA rc rows T hT t0 t1 t2 w0 hq):=h
theorem Lt(q:Qy)(L:QL)(CA:xP)(cc:Nat)(cols:List aZ)(RA:xP)(rc:Nat)(rows:List aK)(w0:t_)(hq:Lr w0 q L CA cc cols RA rows):
  ar 11 #[oF q L,.slice CA cols.length cc,.slice RA rows.length rc] w0 (Fb q cols (rows.map (·.l)) w0):=by
 refine calls_of_wp func11 afF ?_;obtain⟨T,LM⟩:∃T:x_,T= #[oF q L,.slice CA cols.length cc,.slice RA rows.length rc]++Array.replicate (f11.ntmps-(#[oF q L,.slice CA cols.length cc,.slice RA rows.length rc]:x_).size) undef:=⟨_,rfl⟩;rw[<-LM];have hT:T.size=183:=by rw[LM];exact afG _ _ _
 open ziQ in exact ZiK
mutual
def Tr.small:Tr->Prop
 |.mk op v name width args=>name.size<=1048576/\v.s.size<=1048576/\Tr.smalls args
def Tr.smalls:vI->Prop
 |[]=>True
 |t::ts=>t.small/\Tr.smalls ts
end
theorem iL:∀{a b:vI},Tr.smalls a->Tr.smalls b->Tr.smalls (a++b)
 |[],b,_,h=>h
 |t::a,b,h,k=>by unfold Tr.smalls at h;show Tr.smalls (t::(a++b));unfold Tr.smalls;exact⟨h.1,iL h.2 k⟩
variable{x:Int}
theorem eV(h0:0<=x)(h1:x<9223372036854775808):wrap64 x=x:=by unfold wrap64;omega
mutual
theorem size_grow:∀(t:Tr),t.small->(Tr.aP t.args<=1099511627776)->0<=Tr.dH 0 t.args/\Tr.dH 0 t.args<=Tr.aP t.args*1048576/\(Tr.dH 0 t.args<2000->(Tr.aP t.args:Int)<=Tr.dH 0 t.args)
 |.mk op v name width args,h=>by intro hn;unfold Tr.small at h;replace hn:Tr.aP args<=1099511627776:=hn;have k:=vU args h.2.2 0 (Int.le_refl _) hn WC;show 0<=Tr.dH 0 args/\Tr.dH 0 args<=Tr.aP args*1048576/\(Tr.dH 0 args<2000->(Tr.aP args:Int)<=Tr.dH 0 args);obtain⟨k1,k2,k3⟩:=k;refine⟨k1,by omega,λ h=>?_⟩;have:=k3 h;omega
theorem vU:∀(ts:vI),Tr.smalls ts->∀(n:Int),0<=n->Tr.aP ts<=1099511627776->n<=2305843009213693952-(Tr.aP ts:Int)*1048576->n<=Tr.dH n ts/\Tr.dH n ts<=n+Tr.aP ts*1048576/\(Tr.dH n ts<2000->n+Tr.aP ts<=Tr.dH n ts)
 |[],_=>by intro n h0 _ _;unfold Tr.dH Tr.aP;exact⟨Int.le_refl _,by omega,λ _=>by omega⟩
 |t::ts,h=>by
   intro n h0 hn hm;unfold Tr.smalls at h;have ht:=size_grow t h.1;have hs:=vU ts h.2;obtain⟨op,v,name,width,args⟩:=t;have hd:Tr.aP (.mk op v name width args::ts)=Tr.aP args+1+Tr.aP ts:=rfl;rw[hd]at hn hm⊢;have h1:=h.1;unfold Tr.small at h1;have ht:Tr.aP args<=1099511627776->0<=Tr.dH 0 args/\Tr.dH 0 args<=Tr.aP args*1048576/\(Tr.dH 0 args<2000->(Tr.aP args:Int)<=Tr.dH 0 args):=ht;obtain⟨a1,a2,a3⟩:=ht WC;have e:Tr.dH n (.mk op v name width args::ts)=if n<2000 then Tr.dH (CF n name.size v.s.size (Tr.dH 0 args)) ts else n:=by conv=>lhs;unfold Tr.dH
   rw[e];by_cases hlt:n<2000
   ·rw[if_pos hlt];generalize Tr.dH 0 args=m at*;have hse:∃z:Int,CF n name.size v.s.size m=n+1+z+m/\0<=z/\z<=1000000:=by refine⟨(name.size:Int)/ 5000*2000+(v.s.size:Int)/ 5000*2000,?_,by omega,by omega⟩;unfold CF;rw[eV (x:=n+1) WC WC,eV (x:=(name.size:Int)/ 5000) WC WC,eV (x:=(name.size:Int)/ 5000*2000) WC WC,eV (x:=(v.s.size:Int)/ 5000) WC WC,eV (x:=(v.s.size:Int)/ 5000*2000) WC WC,eV (x:=n+1+(name.size:Int)/ 5000*2000) WC WC,eV (x:=n+1+(name.size:Int)/ 5000*2000+(v.s.size:Int)/ 5000*2000) WC WC,eV WC WC];omega
    obtain⟨z,hz,z0,z1⟩:=hse;rw[hz];obtain⟨b1,b2,b3⟩:=hs (n+1+z+m) WC WC WC;refine⟨by omega,by omega,λ hf=>?_⟩;have:=b3 hf;have:=a3 WC;omega
   rw[if_neg hlt];exact⟨Int.le_refl _,by omega,λ hf=>absurd hf hlt⟩
end
theorem OV(hs:Tr.smalls ts)(hn:Tr.aP ts<=1099511627776)(h:Tr.dH 0 ts<=300):Tr.aP ts<=300:=by have:=(vU ts hs 0 (Int.le_refl _) hn WC).2.2 WC;omega
theorem kK(a b:vI):Tr.aP (a++b)=Tr.aP a+Tr.aP b:=by rw[gK,gK,gK,map_append,sum_append]
theorem vV(q:Qy):Tr.aP q.all=Tr.aP (q.items.map (·.1))+(Tr.aP q.bQ+Tr.aP q.aG+Tr.aP q.fE)+Tr.aP (q.ord.map (·.1)):=by unfold Qy.all;rw[kK,kK,kK,kK]
structure Few (q:Qy):Prop where
 g:q.aG.length<=40
 w:q.bQ.length<=40
 h:q.fE.length<=40
 i:q.items.length<=40
 o:q.ord.length<=40
 nodes:Tr.aP q.all<=320
 lim:∀n∈q.lim,n<=9223372036854775807
structure CR (w:t_) (CA:xP) (cols:List aZ) (RA:xP) (rows:List aK):Prop where
 env:Bc w
 cr:RC w w.heap.size CA cols
 cl:cols.length<=20
 rr:RR w w.heap.size RA rows
 rn:rows.length<=100
 each:∀r∈rows,r.l.length<=30/\∀v∈r.l,v.Ok
theorem CR.later{w:t_}(h:CR w CA cols RA rows)(hb:ai w w'):CR w' CA cols RA rows:=
 ⟨h.env.later hb,h.cr.later hb,h.cl,h.rr.later hb,h.rn,h.each⟩
theorem qP{w:t_}(cc:Nat)(LK:su w q L)(ok:q.Ok)(f:Few q)(c:CR w CA cols RA rows):Lr w q L CA cc cols RA rows:=by have hn:=f.nodes;rw[vV]at hn;have h1:=f.g;have h2:=f.w;have h3:=f.h;have h4:=f.i;have h5:=f.o;have h6:=c.cl;have h7:=c.rn;refine⟨LK,ok,⟨⟨c.env,LK.g,ok.g,by show q.aG.length<=1000000;omega,c.cr,by show cols.length<=1000000;omega⟩,ok.w,LK.w,by omega,ok.g,LK.g,by omega,ok.i,LK.i,by omega,by omega,ok.h,LK.h,by omega,ok.o,LK.o,by omega,λ _=>by omega⟩,by omega,c.rr,λ r hr=>⟨by have:=(c.each r hr).1;omega,(c.each r hr).2⟩,by omega,by omega,by omega,by omega,by omega,by omega,λ _=>by omega,f.lim⟩
def asj(w:t_)(hd:List aZ)(la:z_)(e:Ending)(w':t_):Prop:=∃HA hc OA oc out,e=.returned (.tuple #[.agg #[.slice HA hd.length hc,.slice OA (List.length out) oc,af la.length],af 0])/\RC w' w'.heap.size HA hd/\RR w' w'.heap.size OA out/\out.map (·.l)=la/\ai w w'
variable{la:z_}
theorem Tg{w:t_}(rc:Nat)(h:Lr w q L CA cc cols RA rows)(hr:iZ q cols (rows.map (·.l))=.ok (hd,la)):
  ar 11 #[oF q L,.slice CA cols.length cc,.slice RA rows.length rc] w (asj w hd la):=by
 refine(Lt q L CA cc cols RA rc rows w h).mono ?_;rintro e w1 ⟨hb,hk⟩;rw[hr]at hk;obtain⟨HA,hc,ov,out,rfl,h1,h2,h3,h4⟩:=hk;obtain⟨OA,oc,rfl,h5⟩:=uP h2 λ r hr=>(h3 r hr).rv;obtain⟨A',c',h6,h7⟩:=Cg h1;injection h6 with e1 e2 e3;subst e1;exact⟨HA,hc,OA,oc,out,rfl,h7,h5,h4,hb⟩
theorem afI{w:t_}(rc:Nat)(h:Lr w q L CA cc cols RA rows)(hr:iZ q cols (rows.map (·.l))=.error er):
  ar 11 #[oF q L,.slice CA cols.length cc,.slice RA rows.length rc] w λ e w'=>er≠0/\e=.returned (.tuple #[.agg #[az,az,af 0],af er])/\ai w w':=by refine(Lt q L CA cc cols RA rc rows w h).mono ?_;rintro e w1 ⟨hb,hk⟩;rw[hr]at hk;exact⟨hk.1,hk.2,hb⟩
theorem akT:(fG Go.Proofs.YtndgjggokjickaaGreatDoor.R.Zd).Ok:=by refine⟨?_,?_,?_,?_,?_,by decide,by decide,by decide,by decide,by decide⟩<;>simp[Go.Proofs.YtndgjggokjickaaGreatDoor.R.Zd,fG,ij,rD,Tr.cO,Tr.ok,Val.Ok,Hw,Go.Proofs.YtndgjggokjickaaGreatDoor.R.sY,Go.Proofs.YtndgjggokjickaaGreatDoor.R.kV,Go.Proofs.YtndgjggokjickaaGreatDoor.R.kT,Go.Proofs.YtndgjggokjickaaGreatDoor.R.BQ,Go.Proofs.YtndgjggokjickaaGreatDoor.R.vk,Go.Proofs.YtndgjggokjickaaGreatDoor.R.ur,Go.Proofs.YtndgjggokjickaaGreatDoor.R.kr]
theorem afJ:Few (fG Go.Proofs.YtndgjggokjickaaGreatDoor.R.Zd):=by refine⟨by decide,by decide,by decide,by decide,by decide,by decide,?_⟩;intro n hn;simp[Go.Proofs.YtndgjggokjickaaGreatDoor.R.Zd,fG]at hn
theorem akU:(fG Go.Proofs.YtndgjggokjickaaGreatDoor.R.Ze).Ok:=by refine⟨?_,?_,?_,?_,?_,by decide,by decide,by decide,by decide,by decide⟩<;>simp[Go.Proofs.YtndgjggokjickaaGreatDoor.R.Ze,fG,ij,rD,Tr.cO,Tr.ok,Val.Ok,Hw,Go.Proofs.YtndgjggokjickaaGreatDoor.R.sY,Go.Proofs.YtndgjggokjickaaGreatDoor.R.kV,Go.Proofs.YtndgjggokjickaaGreatDoor.R.kT,Go.Proofs.YtndgjggokjickaaGreatDoor.R.BQ,Go.Proofs.YtndgjggokjickaaGreatDoor.R.vk,Go.Proofs.YtndgjggokjickaaGreatDoor.R.ur,Go.Proofs.YtndgjggokjickaaGreatDoor.R.kr]
theorem afK:Few (fG Go.Proofs.YtndgjggokjickaaGreatDoor.R.Ze):=by refine⟨by decide,by decide,by decide,by decide,by decide,by decide,?_⟩;intro n hn;simp[Go.Proofs.YtndgjggokjickaaGreatDoor.R.Ze,fG]at hn;omega
theorem akV:(fG Go.Proofs.YtndgjggokjickaaGreatDoor.R.Y4).Ok:=by refine⟨?_,?_,?_,?_,?_,by decide,by decide,by decide,by decide,by decide⟩<;>simp[Go.Proofs.YtndgjggokjickaaGreatDoor.R.Y4,fG,ij,rD,Tr.cO,Tr.ok,Val.Ok,Hw,Go.Proofs.YtndgjggokjickaaGreatDoor.R.sY,Go.Proofs.YtndgjggokjickaaGreatDoor.R.kV,Go.Proofs.YtndgjggokjickaaGreatDoor.R.kT,Go.Proofs.YtndgjggokjickaaGreatDoor.R.BQ,Go.Proofs.YtndgjggokjickaaGreatDoor.R.vk,Go.Proofs.YtndgjggokjickaaGreatDoor.R.ur,Go.Proofs.YtndgjggokjickaaGreatDoor.R.kr]
theorem afL:Few (fG Go.Proofs.YtndgjggokjickaaGreatDoor.R.Y4):=by refine⟨by decide,by decide,by decide,by decide,by decide,by decide,?_⟩;intro n hn;simp[Go.Proofs.YtndgjggokjickaaGreatDoor.R.Y4,fG]at hn
theorem akW:(fG Go.Proofs.YtndgjggokjickaaGreatDoor.R.Zf).Ok:=by refine⟨?_,?_,?_,?_,?_,by decide,by decide,by decide,by decide,by decide⟩<;>simp[Go.Proofs.YtndgjggokjickaaGreatDoor.R.Zf,fG,ij,rD,Tr.cO,Tr.ok,Val.Ok,Hw,Go.Proofs.YtndgjggokjickaaGreatDoor.R.sY,Go.Proofs.YtndgjggokjickaaGreatDoor.R.kV,Go.Proofs.YtndgjggokjickaaGreatDoor.R.kT,Go.Proofs.YtndgjggokjickaaGreatDoor.R.BQ,Go.Proofs.YtndgjggokjickaaGreatDoor.R.vk,Go.Proofs.YtndgjggokjickaaGreatDoor.R.ur,Go.Proofs.YtndgjggokjickaaGreatDoor.R.kr]
theorem afM:Few (fG Go.Proofs.YtndgjggokjickaaGreatDoor.R.Zf):=by refine⟨by decide,by decide,by decide,by decide,by decide,by decide,?_⟩;intro n hn;simp[Go.Proofs.YtndgjggokjickaaGreatDoor.R.Zf,fG]at hn
theorem aaO{w:t_}(hE:Bc w)(h1:RC w w.heap.size CA mY)(h2:RR w w.heap.size RA rs)(h3:rs.map (·.l)=xW):CR w CA mY RA rs:=by
 have hl:rs.length=3:=by have:=congrArg List.length h3;simpa [xW] using this
 refine⟨hE,h1,by decide,h2,by omega,λ r hr=>?_⟩;have hm:r.l∈xW:=by rw[<-h3];exact List.mem_map.2 ⟨r,hr,rfl⟩
 simp only[xW,mem_cons,not_mem_nil,or_false]at hm;rcases hm with h|h|h<;>rw[h]<;>refine⟨by decide,λ v hv=>?_⟩<;>simp only[mem_cons,not_mem_nil,or_false]at hv<;>rcases hv with rfl|rfl<;>exact⟨by decide,by decide⟩
variable{out:List aK}
theorem vX(h:out.map (·.l)=la)(h1:la.length<=1000)(h2:∀r∈la,r.length<=1000):out.length<=1000/\∀r∈out,r.l.length<=1000:=by subst h;exact⟨by simpa using h1,λ r hr=>h2 _ (List.mem_map.2 ⟨r,hr,rfl⟩)⟩
theorem akX{w:t_}{g:Nat}{a:Int}(h:aB w g 44 #[ag 2,af a,au]):RV w w.heap.size (some ⟨g,0,none⟩) [num a]:=by
 refine .inr ⟨_,0,rfl,h.lt,λ i x hx=>?_⟩
 match i,hx with
 |0,hx=>exact Zie
 |n+1,hx=>cases hx
variable{z:Int}
theorem aaP(OA:xP)(oc:Nat)(out:List aK)(g a b:Nat){y u:Int}(w:t_)(ho:RR w w.heap.size OA out)(hm:out.map (·.l)=[[num x,num y],[num z,num u]])(hs:out.length<=1000/\∀r∈out,r.l.length<=1000)(k0:aB w g 38 #[aL a 2 2,aL b 2 2])(k1:aB w a 44 #[ag 2,af x,au,ag 2,af y,au])(k2:aB w b 44 #[ag 2,af z,au,ag 2,af u,au]):
  ar 26 #[.slice OA out.length oc,aL g 2 2] w λ e w'=>e=.returned (.bool true)/\ai w w':=by
 refine OU OA oc out (some ⟨g,0,none⟩) 2 [⟨some ⟨a,0,none⟩,[num x,num y],2⟩,⟨some ⟨b,0,none⟩,[num z,num u],2⟩] w ho ?_ hm hs.1 hs.2;refine .inr ⟨_,0,rfl,k0.lt,λ i r hx=>?_⟩
 match i,hx with
 |0,hx=>injection hx with hx;subst hx;exact⟨k0.cell 0,EF k1⟩
 |1,hx=>injection hx with hx;subst hx;exact⟨k0.cell 1,EF k2⟩
 |n+2,hx=>cases hx
theorem OW(OA:xP)(oc:Nat)(out:List aK)(g a:Nat)(w:t_)(ho:RR w w.heap.size OA out)(hm:out.map (·.l)=[[num x]])(hs:out.length<=1000/\∀r∈out,r.l.length<=1000)(k0:aB w g 38 #[aL a 1 1])(k1:aB w a 44 #[ag 2,af x,au]):
  ar 26 #[.slice OA out.length oc,aL g 1 1] w λ e w'=>e=.returned (.bool true)/\ai w w':=by
 refine OU OA oc out (some ⟨g,0,none⟩) 1 [⟨some ⟨a,0,none⟩,[num x],1⟩] w ho ?_ hm hs.1 hs.2;refine .inr ⟨_,0,rfl,k0.lt,λ i r hx=>?_⟩
 match i,hx with
 |0,hx=>injection hx with hx;subst hx;exact⟨k0.cell 0,akX k1⟩
 |n+1,hx=>cases hx
def wkV(qa qb qd:Nat)(OA0:xP)(n0 oc0:Nat)(OA1:xP)(n1 oc1:Nat)(OA3:xP)(n3 oc3:Nat):Nat->t_->Value->Prop
 |0,_,v=>v=af 0
 |1,_,v=>v=.bool true
 |2,_,v=>v=.bool true
 |3,_,v=>v=aY qa 1
 |4,_,v=>v=.slice OA0 n0 oc0
 |5,_,v=>v=.agg #[ag 2,af 0,au]
 |6,_,v=>v=.agg #[ag 2,af 12,au]
 |7,w,v=>∃g:Nat,v=aL g 2 2/\aB w g 44 #[ag 2,af 0,au,ag 2,af 12,au]
 |8,_,v=>v=.agg #[ag 2,af 5,au]
 |9,_,v=>v=.agg #[ag 2,af 1,au]
 |10,w,v=>∃g:Nat,v=aL g 2 2/\aB w g 44 #[ag 2,af 5,au,ag 2,af 1,au]
 |11,w,v=>∃g a b:Nat,v=aL g 2 2/\aB w g 38 #[aL a 2 2,aL b 2 2]/\aB w a 44 #[ag 2,af 0,au,ag 2,af 12,au]/\aB w b 44 #[ag 2,af 5,au,ag 2,af 1,au]
 |12,_,v=>v=.bool true
 |13,_,v=>v=.bool true
 |14,_,v=>v=.bool true
 |15,_,v=>v=af 0
 |16,_,v=>v=.bool true
 |17,_,v=>v=.bool true
 |18,_,v=>v=.bool true
 |19,_,v=>v=aY qb 2
 |20,_,v=>v=af 1
 |21,_,v=>v=.bool true
 |22,_,v=>v=.bool true
 |23,_,v=>v=.bool true
 |24,_,v=>v=aY qb 1
 |25,_,v=>v=.slice OA1 n1 oc1
 |26,_,v=>v=.agg #[ag 2,af 7,au]
 |27,w,v=>∃g:Nat,v=aL g 1 1/\aB w g 44 #[ag 2,af 7,au]
 |28,w,v=>∃g a:Nat,v=aL g 1 1/\aB w g 38 #[aL a 1 1]/\aB w a 44 #[ag 2,af 7,au]
 |29,_,v=>v=.bool true
 |30,_,v=>v=.bool true
 |31,_,v=>v=.bool true
 |32,_,v=>v=af 42
 |33,_,v=>v=.bool true
 |34,_,v=>v=.bool true
 |35,_,v=>v=.bool true
 |36,_,v=>v=af 0
 |37,_,v=>v=.bool true
 |38,_,v=>v=.bool true
 |39,_,v=>v=.bool true
 |40,_,v=>v=aY qd 1
 |41,_,v=>v=.slice OA3 n3 oc3
 |42,_,v=>v=.agg #[ag 2,af 0,au]
 |43,w,v=>∃g:Nat,v=aL g 1 1/\aB w g 44 #[ag 2,af 0,au]
 |44,w,v=>∃g a:Nat,v=aL g 1 1/\aB w g 38 #[aL a 1 1]/\aB w a 44 #[ag 2,af 0,au]
 |45,_,v=>v=.bool true
 |46,_,v=>v=.bool true
 |_,_,_=>False
theorem Yq(qa qb qd:Nat)(OA0:xP)(n0 oc0:Nat)(OA1:xP)(n1 oc1:Nat)(OA3:xP)(n3 oc3:Nat):∀i w w' v,wkV qa qb qd OA0 n0 oc0 OA1 n1 oc1 OA3 n3 oc3 i w v->aj w w'->wkV qa qb qd OA0 n0 oc0 OA1 n1 oc1 OA3 n3 oc3 i w' v:=by
 intro i w w' v h hl
 match i with
 |0|1|2|3|4|5|6|8|9|12|13|14|15|16|17|18|19|20|21|22|23|24|25|26|29|30|31|32|33|34|35|36|37|38|39|40|41|42|45|46=>exact h
 |7=>exact Zfy
 |10=>exact Zfy
 |11=>obtain⟨g,a,b,h1,f0,f1,f2⟩:=h;exact⟨g,a,b,h1,f0.later hl,f1.later hl,f2.later hl⟩
 |27=>exact Zfy
 |28=>exact Zh5
 |43=>exact Zfy
 |44=>exact Zh5
 |n+47=>exact h
def zdM.KaK(h:p:=by have h0:_=_:=hr.1;have c0:=(K1.ae.later hL).cell 1;exact ZaW):=h
def zdN.KaK(h:p:=by exact Ze1):=h
def zdO.KaK(h:p:=by have e1:=hc.func 27;have e2:=hc.const (af 12);refine bu (f:=27) (args:= #[af 12]) (w':=W4) Tax ?_;refine(fP 12 W4).mono ?_;exact Zbl):=h
def zdP.KaK(h:p:=by have h0:_=_:=hr.1;have h1:_=_:=hr.2.1;exact aq (v:=aL W4.heap.size 2 2) (w':=W4.alloc (.cells #[ag 2,af 0,au,ag 2,af 12,au] 44)) TaD ⟨ah W4 _,⟨_,rfl,aB.new W4 _ _⟩⟩):=h
def zdQ.KaK(h:p:=by have e1:=hc.func 27;have e2:=hc.const (af 5);refine bu (f:=27) (args:= #[af 5]) (w':=W4) Tax ?_;refine(fP 5 W4).mono ?_;exact Zbl):=h
def zdR.KaK(h:p:=by have e1:=hc.func 27;have e2:=hc.const (af 1);refine bu (f:=27) (args:= #[af 1]) (w':=W4) Tax ?_;refine(fP 1 W4).mono ?_;exact Zbl):=h
def zdS.KaK(h:p:=by have h0:_=_:=hr.1;have h1:_=_:=hr.2.1;exact aq (v:=aL W4.heap.size 2 2) (w':=W4.alloc (.cells #[ag 2,af 5,au,ag 2,af 1,au] 44)) TaD ⟨ah W4 _,⟨_,rfl,aB.new W4 _ _⟩⟩):=h
def zdT.KaK(h:p:=by obtain⟨g0,h0,gC⟩:∃g:Nat,ρ (.tmp 50)=aL g 2 2/\aB W4 g 44 #[ag 2,af 0,au,ag 2,af 12,au]:=hr.1;obtain⟨g1,h1,vH⟩:∃g:Nat,ρ (.tmp 53)=aL g 2 2/\aB W4 g 44 #[ag 2,af 5,au,ag 2,af 1,au]:=hr.2.1;exact aq (v:=aL W4.heap.size 2 2) (w':=W4.alloc (.cells #[aL g0 2 2,aL g1 2 2] 38)) TaD ⟨ah W4 _,⟨W4.heap.size,g0,g1,rfl,aB.new W4 _ _,gC.later (ah _ _),vH.later (ah _ _)⟩⟩):=h
def zdU.KaK(h:p:=by have h0:_=_:=hr.1;obtain⟨g1,a1,b1,h1,vH,KF,axT⟩:∃g a b:Nat,ρ (.tmp 54)=aL g 2 2/\aB W4 g 38 #[aL a 2 2,aL b 2 2]/\aB W4 a 44 #[ag 2,af 0,au,ag 2,af 12,au]/\aB W4 b 44 #[ag 2,af 5,au,ag 2,af 1,au]:=hr.2.1;have e1:=hc.func 26;refine bu (f:=26) (args:= #[.slice OA0 aaR.length oc0,aL g1 2 2]) (w':=W4) Tat ?_;refine(aaP OA0 oc0 aaR g1 a1 b1 W4 (HK.ae.later hL) HM0.ae HS0.ae vH KF axT).mono ?_;exact Zbl):=h
def zfO.Kbr(h:p:=by have h0:_=_:=hr.1;have c0:=(K3.ae.later hL).cell 1;exact ZaW):=h
def zfP.Kbr(h:p:=by have e1:=hc.func 27;have e2:=hc.const (af 7);refine bu (f:=27) (args:= #[af 7]) (w':=W4) Tax ?_;refine(fP 7 W4).mono ?_;exact Zbl):=h
def zfQ.Kbr(h:p:=by have h0:_=_:=hr.1;exact aq (v:=aL W4.heap.size 1 1) (w':=W4.alloc (.cells #[ag 2,af 7,au] 44)) Tas ⟨ah W4 _,⟨_,rfl,aB.new W4 _ _⟩⟩):=h
def zfR.Kbr(h:p:=by obtain⟨g0,h0,gC⟩:∃g:Nat,ρ (.tmp 70)=aL g 1 1/\aB W4 g 44 #[ag 2,af 7,au]:=hr.1;exact ZeT):=h
def zfS.Kbr(h:p:=by have h0:_=_:=hr.1;obtain⟨g1,a1,h1,vH,KF⟩:∃g a:Nat,ρ (.tmp 71)=aL g 1 1/\aB W4 g 38 #[aL a 1 1]/\aB W4 a 44 #[ag 2,af 7,au]:=hr.2.1;have e1:=hc.func 26;refine bu (f:=26) (args:= #[.slice OA1 aaS.length oc1,aL g1 1 1]) (w':=W4) Tat ?_;refine(OW OA1 oc1 aaS g1 a1 W4 (K2.ae.later hL) HM1.ae HS1.ae vH KF).mono ?_;exact Zbl):=h
def zfT.Kbs(h:p:=by have h0:_=_:=hr.1;have c0:=(R3.ae.later hL).cell 1;exact ZaW):=h
def zfU.Kbs(h:p:=by exact Ze1):=h
def zfV.Kbs(h:p:=by have h0:_=_:=hr.1;exact aq (v:=aL W4.heap.size 1 1) (w':=W4.alloc (.cells #[ag 2,af 0,au] 44)) Tas ⟨ah W4 _,⟨_,rfl,aB.new W4 _ _⟩⟩):=h
def zfW.Kbs(h:p:=by obtain⟨g0,h0,gC⟩:∃g:Nat,ρ (.tmp 86)=aL g 1 1/\aB W4 g 44 #[ag 2,af 0,au]:=hr.1;exact ZeT):=h
def zfX.Kbs(h:p:=by have h0:_=_:=hr.1;obtain⟨g1,a1,h1,vH,KF⟩:∃g a:Nat,ρ (.tmp 87)=aL g 1 1/\aB W4 g 38 #[aL a 1 1]/\aB W4 a 44 #[ag 2,af 0,au]:=hr.2.1;have e1:=hc.func 26;refine bu (f:=26) (args:= #[.slice OA3 aaT.length oc3,aL g1 1 1]) (w':=W4) Tat ?_;refine(OW OA3 oc3 aaT g1 a1 W4 (VG.ae.later hL) HM3.ae HS3.ae vH KF).mono ?_;exact Zbl):=h
def ziU.KcD(h:p:=by
 have HRQ:=aa (qP cc hq akV afL HO.ae);clear hq b1;go_wp2_with fail;refine(afI rc HRQ.ae (by rw[Kx.ae];exact aeE)).mono ?_;rintro e4 w4 ⟨_,rfl,hB⟩;replace HO:=aa (HO.ae.later hB);replace HK:=aa (HK.ae.later hB);replace K1:=aa (K1.ae.later hB);replace K2:=aa (K2.ae.later hB);replace K3:=aa (K3.ae.later hB);replace HB:=aa (aj.then HB.ae hB);clear hB HRQ;go_wp2_with fail;have b3:=ah w4 (.cells #[az,az,af 0] 33);have R2:=aa (aB.new w4 33 #[az,az,af 0]);replace HB:=aa (aj.then HB.ae b3);replace HO:=aa (HO.ae.later b3);replace HK:=aa (HK.ae.later b3);replace K1:=aa (K1.ae.later b3);replace K2:=aa (K2.ae.later b3);replace K3:=aa (K3.ae.later b3);clear b3;generalize w4.alloc _=wz3 at*;generalize w4.heap.size=qc at*;refine(uh t3B R.Zf Tab aqT _).mono ?_;rintro e4 wa ⟨L,rfl,hq,b1⟩;replace HO:=aa (HO.ae.later b1);replace HK:=aa (HK.ae.later b1);replace K1:=aa (K1.ae.later b1);replace K2:=aa (K2.ae.later b1);replace K3:=aa (K3.ae.later b1);replace R2:=aa (R2.ae.later b1);replace HB:=aa (aj.then HB.ae b1);have HRQ:=aa (qP cc hq akW afM HO.ae);clear hq b1;go_wp2_with fail;refine(Tg rc HRQ.ae (by rw[Kx.ae];exact aeG)).mono ?_;rintro e4 w5 ⟨Kl,hc3,OA3,oc3,aaT,rfl,_,ho,he,hB⟩;replace HO:=aa (HO.ae.later hB);replace HK:=aa (HK.ae.later hB);replace K1:=aa (K1.ae.later hB);replace K2:=aa (K2.ae.later hB);replace K3:=aa (K3.ae.later hB);replace R2:=aa (R2.ae.later hB);replace HB:=aa (aj.then HB.ae hB);have VG:=aa ho;have HM3:=aa he;have HS3:=aa (vX he Tab Tab);clear ho he hB HRQ
 go_upto_region 6 with fail;have b3:=ah w5 (.cells #[.slice Kl SE.length hc3,.slice OA3 aaT.length oc3,af 1] 33);have R3:=aa (aB.new w5 33 #[.slice Kl SE.length hc3,.slice OA3 aaT.length oc3,af 1]);replace HB:=aa (aj.then HB.ae b3);replace HO:=aa (HO.ae.later b3);replace HK:=aa (HK.ae.later b3);replace K1:=aa (K1.ae.later b3);replace K2:=aa (K2.ae.later b3);replace K3:=aa (K3.ae.later b3);replace R2:=aa (R2.ae.later b3);replace VG:=aa (VG.ae.later b3);clear b3;generalize w5.alloc _=W9 at*;generalize w5.heap.size=qd at*;refine bD 47 (wkV qa qb qd OA0 aaR.length oc0 OA1 aaS.length oc1 OA3 aaT.length oc3) (Yq _ _ _ _ _ _ _ _ _ _ _ _) Taa Taa Taa ?_ ?_
 ·simp only[take_succ_cons,take_zero];refine⟨Zaa,Zaa,Zaa,?_,?_,?_,?_,?_,?_,?_,?_,?_,?_,Zev,Zaa,ZhO,ZhO,Zev,Zaa,ZhP,?_,ZhP,Zev,Zaa,?_,?_,?_,?_,?_,?_,Zev,Zaa,ZhQ,ZhQ,Zev,Zaa,ZhR,ZhR,Zev,Zaa,?_,?_,?_,?_,?_,?_,Zev,trivial⟩
  ·intro ρ W4 hc hL hr;intro hg;have hg:ρ (.tmp 45)=.bool true:=hg;exact Zal
  ·open zdM in exact Zb8
  ·open zdN in exact Zb8
  ·open zdO in exact Zb8
  ·open zdP in exact Zb8
  ·open zdQ in exact Zb8
  ·open zdR in exact Zb8
  ·open zdS in exact Zb8
  ·open zdT in exact Zb8
  ·open zdU in exact Zb8
  intro ρ W4 hc hL hr;intro hg;have hg:ρ (.tmp 61)=.bool true:=hg;refine⟨λ _=>?_,λ hn=>absurd hg hn⟩;have h0:_=_:=hr.1;have c0:=(K3.ae.later hL).cell 2;exact ZaW;intro ρ W4 hc hL hr;intro hg;have hg:ρ (.tmp 66)=.bool true:=hg;exact Zal
  ·open zfO in exact Zd7
  ·open zfP in exact Zd7
  ·open zfQ in exact Zd7
  ·open zfR in exact Zd7
  ·open zfS in exact Zd7
  intro ρ W4 hc hL hr;intro hg;have hg:ρ (.tmp 82)=.bool true:=hg;exact Zal
  ·open zfT in exact Zd8
  ·open zfU in exact Zd8
  ·open zfV in exact Zd8
  ·open zfW in exact Zd8
  open zfX in exact Zd8
 intro W3 hL;simp only[Uab];rintro a0-a1-a2-a3-a4-a5-a6-a7-a8-a9-Hc-S1-a12-a13-a14-a15-a16-a17-a18-a19-a20-a21-a22-a23-a24-a25-a26-a27-a28-a29-a30-a31-a32-a33-a34-a35-a36-a37-a38-a39-a40-a41-a42-a43-a44-a45-_ rfl;simp only[bw,Act.put,Uac];have hb3:=aj.then HB.ae hL;clear hL;go_wp2_with fail;go_ret;exact⟨rfl,hb3⟩):=h
theorem gX(w:t_)(hE:Bc w):ar 10 #[] w λ e4 w'=>e4=.returned (.bool true)/\ai w w':=by have HE:=aa hE;clear hE;go_enter func10,ntmps10;go_wp2_with fail;refine(XJ w).mono ?_;rintro e4 w1 ⟨CA,cc,RA,rc,rs,rfl,h1,h2,h3,b1⟩;have HO:=aa (aaO (HE.ae.later b1) h1 h2 h3);have Kx:=aa h3;have HB:=aa b1;clear h1 h2 h3 b1;go_wp2_with fail;refine(uh t0B Go.Proofs.YtndgjggokjickaaGreatDoor.R.Zd Tab aqQ _).mono ?_;rintro e4 wa ⟨L,rfl,hq,b1⟩;replace HO:=aa (HO.ae.later b1);replace HB:=aa (aj.then HB.ae b1);have HRQ:=aa (qP cc hq akT afJ HO.ae);clear hq b1;go_wp2_with fail;refine(Tg rc HRQ.ae (by rw[Kx.ae];exact aeA)).mono ?_;rintro e4 w2 ⟨HA0,hc0,OA0,oc0,aaR,rfl,_,ho,he,hB⟩;replace HO:=aa (HO.ae.later hB);replace HB:=aa (aj.then HB.ae hB);have HK:=aa ho;have HM0:=aa he;have HS0:=aa (vX he Tab Tab);clear ho he hB HRQ;go_wp2_with fail;have b3:=ah w2 (.cells #[.slice HA0 SC.length hc0,.slice OA0 aaR.length oc0,af 2] 33);have K1:=aa (aB.new w2 33 #[.slice HA0 SC.length hc0,.slice OA0 aaR.length oc0,af 2]);replace HB:=aa (aj.then HB.ae b3);replace HO:=aa (HO.ae.later b3);replace HK:=aa (HK.ae.later b3);clear b3;generalize w2.alloc _=wz1 at*;generalize w2.heap.size=qa at*;refine(uh t1B Go.Proofs.YtndgjggokjickaaGreatDoor.R.Ze Tab aqR _).mono ?_;rintro e4 wa ⟨L,rfl,hq,b1⟩;replace HO:=aa (HO.ae.later b1);replace HK:=aa (HK.ae.later b1);replace K1:=aa (K1.ae.later b1);replace HB:=aa (aj.then HB.ae b1);have HRQ:=aa (qP cc hq akU afK HO.ae);clear hq b1;go_wp2_with fail;refine(Tg rc HRQ.ae (by rw[Kx.ae];exact aeC)).mono ?_;rintro e4 W4 ⟨ID,hc1,OA1,oc1,aaS,rfl,_,ho,he,hB⟩;replace HO:=aa (HO.ae.later hB);replace HK:=aa (HK.ae.later hB);replace K1:=aa (K1.ae.later hB);replace HB:=aa (aj.then HB.ae hB);have K2:=aa ho;have HM1:=aa he;have HS1:=aa (vX he Tab Tab);clear ho he hB HRQ;go_wp2_with fail;have b3:=ah W4 (.cells #[.slice ID SD.length hc1,.slice OA1 aaS.length oc1,af 1] 33);have K3:=aa (aB.new W4 33 #[.slice ID SD.length hc1,.slice OA1 aaS.length oc1,af 1]);replace HB:=aa (aj.then HB.ae b3);replace HO:=aa (HO.ae.later b3);replace HK:=aa (HK.ae.later b3);replace K1:=aa (K1.ae.later b3);replace K2:=aa (K2.ae.later b3);clear b3;generalize W4.alloc _=wz2 at*;generalize W4.heap.size=qb at*;refine(uh t2B Go.Proofs.YtndgjggokjickaaGreatDoor.R.Y4 Tab aqS _).mono ?_;rintro e4 wa ⟨L,rfl,hq,b1⟩;replace HO:=aa (HO.ae.later b1);open ziU in exact ZiM
def jt(r:uC (List aZ×z_))(B:Nat)(w:t_)(v:Value):Prop:=match r with
 |.error er=>er≠0/\v=.tuple #[.agg #[az,az,af 0],af er]
 |.ok (hd,la)=>∃HA hc OA oc out,v=.tuple #[.agg #[.slice HA hd.length hc,.slice OA (List.length out) oc,af la.length],af 0]/\aH aU 113 2 w B (.slice HA hd.length hc) hd/\aH bh 38 1 w B (.slice OA out.length oc) out/\(∀r∈out,js w r)/\out.map (·.l)=la
variable{r:uC (List aZ×z_)}
theorem jt.later{w:t_}(h:jt r B w v)(hb:ai w w'):jt r B w' v:=by unfold jt at*;split at h;exact h;obtain⟨HA,hc,OA,oc,out,h1,h2,h3,h4,h5⟩:=h;exact⟨HA,hc,OA,oc,out,h1,h2.later hb,h3.later hb,λ r hr=>(h4 r hr).later hb,h5⟩
theorem jt.akY{g:Nat}{w:t_}(h:jt r B w v)(hk:aB w g t cs)(Lw:t≠113)(Kx:t≠38)(KK:t≠44)(hg:w.grownBy w' (some g)):jt r B w' v:=by unfold jt at*;split at h;exact h;obtain⟨HA,hc,OA,oc,out,h1,h2,h3,h4,h5⟩:=h;refine⟨HA,hc,OA,oc,out,h1,h2.grown hg (h2.other hk Lw),h3.grown hg (h3.other hk Kx),λ r hr=>(h4 r hr).map λ k9=>k9.keep hg.size λ b cur k1=>hg.block b k1.lt λ e=>?_,h5⟩;injection e with e;subst e;have:=k1.symm.trans hk;injection this with this;injection this with _ this _;exact absurd this.symm KK
theorem jt.grown{g:Nat}{w:t_}(h:jt r B w v)(hk:aB w g 33 cs)(hg:w.grownBy w' (some g)):jt r B w' v:=h.akY hk Tab Tab Tab hg
variable{ev:Value}
theorem jt.ok2{w:t_}(h:jt (.ok (hd,la)) B w (.tuple #[.agg cs,ev])):∃HA hc OA oc out,cs= #[.slice HA hd.length hc,.slice OA (List.length out) oc,af out.length]/\ev=af 0/\RC w w.heap.size HA hd/\RR w w.heap.size OA out/\out.map (·.l)=la/\∀r∈out,r.l.length<=r.c:=by obtain⟨HA,hc,OA,oc,out,h1,h2,h3,h4,h5⟩:=h;injection h1 with h1;have e1:=congrArg (λ a:x_=>a[0]?) h1;have e2:=congrArg (λ a:x_=>a[1]?) h1;simp at e1 e2;obtain⟨A,c,e3,h6⟩:=Cg h2;injection e3 with e3 _ _;obtain⟨A',c',e4,h7⟩:=uP h3 λ r hr=>(h4 r hr).rv;injection e4 with e4 _ _;subst e3 e4;refine⟨HA,hc,OA,oc,out,?_,e2,h6,h7,h5,λ r hr=>(h4 r hr).cap⟩;rw[e1,<-h5,length_map]
theorem jt.ok_{w:t_}(h:jt (.ok (hd,la)) B w (.tuple #[.agg cs,ev])):∃HA hc OA oc out,cs= #[.slice HA hd.length hc,.slice OA (List.length out) oc,af out.length]/\ev=af 0/\RC w w.heap.size HA hd/\RR w w.heap.size OA out/\out.map (·.l)=la:=by obtain⟨HA,hc,OA,oc,out,h1,h2,h3,h4,h5,_⟩:=h.ok2;exact⟨HA,hc,OA,oc,out,h1,h2,h3,h4,h5⟩
theorem jt.axU{w:t_}(h:jt (.error er) B w (.tuple #[.agg cs,ev])):er≠0/\cs= #[az,az,af 0]/\ev=af er:=by obtain⟨h0,h1⟩:=h;injection h1 with h1;have e1:=congrArg (λ a:x_=>a[0]?) h1;have e2:=congrArg (λ a:x_=>a[1]?) h1;simp at e1 e2;exact⟨h0,e1,e2⟩
variable{B':Nat}
theorem jt.down{w:t_}(h:jt r B w v)(hB:B'<=B):jt r B' w v:=by unfold jt at*;split at h;exact h;obtain⟨HA,hc,OA,oc,out,h1,h2,h3,h4,h5⟩:=h;exact⟨HA,hc,OA,oc,out,h1,h2.down hB,h3.down hB,h4,h5⟩
theorem jt.tri{w:t_}(h:jt r B w v):∃(A1:xP) (n1 c1:Nat) (A2:xP) (n2 c2:Nat) (k:Int) (e:Value),v=.tuple #[.agg #[.slice A1 n1 c1,.slice A2 n2 c2,af k],e]:=by unfold jt at h;split at h;exact⟨_,_,_,_,_,_,_,_,h.2⟩;obtain⟨HA,hc,OA,oc,out,h1,_⟩:=h;exact⟨_,_,_,_,_,_,_,_,h1⟩
theorem Fc{w:t_}(rc:Nat)(h:Lr w q L CA cc cols RA rows):
  ar 11 #[oF q L,.slice CA cols.length cc,.slice RA rows.length rc] w λ e w'=>∃v,e=.returned v/\jt (iZ q cols (rows.map (·.l))) w.heap.size w' v/\ai w w':=by
 refine(Lt q L CA cc cols RA rc rows w h).mono ?_;rintro e w1 ⟨hb,hk⟩;cases hr:iZ q cols (rows.map (·.l))with
 |error er=>rw[hr]at hk;exact⟨_,hk.2,⟨hk.1,rfl⟩,hb⟩
 |ok x=>
   obtain⟨hd,la⟩:=x;rw[hr]at hk;obtain⟨HA,hc,ov,out,rfl,h1,h2,h3,h4⟩:=hk;obtain⟨OA,oc,rfl,_⟩:=uP h2 λ r hr=>(h3 r hr).rv;exact⟨_,rfl,⟨HA,hc,OA,oc,out,rfl,h1,h2,h3,h4⟩,hb⟩
def z33:x_:= #[az,az,af 0]
structure tB (W:t_) (rows:z_) (r:uC (List aZ×z_)) (s3 s4 s5 s6 s7 s8 s9:Option Value) (w:t_):Prop where
 low:ai W w
 own:s4=none->∀x,s3=some x->∃A c rs,x=.slice A (List.length rs) c/\RR w w.heap.size A rs/\rs.map (·.l)=rows
 run:∀x,s4=some x->jt r W.heap.size w x
 e4:s4.isSome=true->s3.isSome=true
 e5:∀x,s5=some x->s4=some x
 e6:∀x,s6=some x->∃y,s4=some (.tuple #[x,y])
 e7:∀x,s7=some x->∃y,s4=some (.tuple #[y,x])
 e9:s9.isSome=true->s8.isSome=true/\s4.isSome=true
 al:∀x,s8=some x->∃g,x=aw g/\W.heap.size<=g/\(s9=none->aB w g 33 z33)/\(s9.isSome=true->∃cs y,s4=some (.tuple #[.agg cs,y])/\aB w g 33 cs)
section
variable{W w w':t_}{rows:z_}{r:uC (List aZ×z_)}{s3 s4 s5 s6 s7 s8 s9:Option Value}
theorem tB.start(W:t_)(rows:z_)(r:uC (List aZ×z_)):tB W rows r none none none none none none none W:=
 ⟨cX,λ _ x h=>Tae,λ x h=>Tae,λ h=>Tae,λ x h=>Tae,λ x h=>Tae,λ x h=>Tae,λ h=>Tae,λ x h=>Tae⟩
theorem tB.later(h:tB W rows r s3 s4 s5 s6 s7 s8 s9 w)(hb:ai w w'):tB W rows r s3 s4 s5 s6 s7 s8 s9 w':=
 ⟨Below.trans h.low (hb.mono h.low.size),λ h4 x hx=>by obtain⟨A,c,rs,k1,k2,k3⟩:=h.own h4 x hx;exact⟨A,c,rs,k1,k2.later hb,k3⟩,λ x hx=>(h.run x hx).later hb,h.e4,h.e5,h.e6,h.e7,h.e9,λ x hx=>by obtain⟨g,k1,k2,k3,k4⟩:=h.al x hx;exact⟨g,k1,k2,λ h9=>(k3 h9).later hb,λ h9=>by obtain⟨cs,y,j1,j2⟩:=k4 h9;exact⟨cs,y,j1,j2.later hb⟩⟩⟩
theorem tB.axW(h:tB W rows r none s4 s5 s6 s7 s8 s9 w){v:Value}(hb:ai w w')(ho:∃A c rs,v=.slice A (List.length rs) c/\RR w' w'.heap.size A rs/\rs.map (·.l)=rows):tB W rows r (some v) s4 s5 s6 s7 s8 s9 w':=by have k:=h.later hb;exact⟨k.low,λ _ x hx=>by injection hx with hx;rw[<-hx];exact ho,k.run,λ _=>rfl,k.e5,k.e6,k.e7,k.e9,k.al⟩
theorem tB.no9(h:tB W rows r s3 none s5 s6 s7 s8 s9 w):s5=none/\s6=none/\s7=none/\s9=none:=by
 refine⟨?_,?_,?_,?_⟩
 ·cases h5:s5 with
  |none=>rfl
  |some x=>have:=h.e5 x h5;cases this
 ·cases h5:s6 with
  |none=>rfl
  |some x=>obtain⟨y,hy⟩:=h.e6 x h5;cases hy
 ·cases h5:s7 with
  |none=>rfl
  |some x=>obtain⟨y,hy⟩:=h.e7 x h5;cases hy
 cases h5:s9 with
 |none=>rfl
 |some x=>have:=(h.e9 (by rw[h5];rfl)).2;cases this
theorem tB.axX(h:tB W rows r s3 none s5 s6 s7 s8 s9 w){v:Value}(hb:ai w w')(h3:s3.isSome=true)(hr:jt r W.heap.size w' v):tB W rows r s3 (some v) s5 s6 s7 s8 s9 w':=by obtain⟨rfl,rfl,rfl,rfl⟩:=h.no9;have k:=h.later hb;refine⟨k.low,λ e=>TaT,λ x hx=>(by injection hx with hx;rw[<-hx];exact hr),λ _=>h3,λ x hx=>(by cases hx),λ x hx=>(by cases hx),λ x hx=>(by cases hx),λ e=>TaT,λ x hx=>?_⟩;obtain⟨g,k1,k2,k3,_⟩:=k.al x hx;exact⟨g,k1,k2,k3,λ e=>TaT⟩
theorem tB.akZ(h:tB W rows r s3 s4 none s6 s7 s8 s9 w){v:Value}(h4:s4=some v):tB W rows r s3 s4 (some v) s6 s7 s8 s9 w:=
 ⟨h.low,h.own,h.run,h.e4,λ x hx=>by injection hx with hx;rw[<-hx];exact h4,h.e6,h.e7,h.e9,h.al⟩
theorem tB.ala(h:tB W rows r s3 s4 s5 none s7 s8 s9 w){v y:Value}(h4:s4=some (.tuple #[v,y])):tB W rows r s3 s4 s5 (some v) s7 s8 s9 w:=
 ⟨h.low,h.own,h.run,h.e4,h.e5,λ x hx=>by injection hx with hx;rw[<-hx];exact⟨y,h4⟩,h.e7,h.e9,h.al⟩
theorem tB.axY(h:tB W rows r s3 s4 s5 s6 none s8 s9 w){v y:Value}(h4:s4=some (.tuple #[y,v])):tB W rows r s3 s4 s5 s6 (some v) s8 s9 w:=
 ⟨h.low,h.own,h.run,h.e4,h.e5,h.e6,λ x hx=>by injection hx with hx;rw[<-hx];exact⟨y,h4⟩,h.e9,h.al⟩
theorem tB.xH(h:tB W rows r s3 s4 s5 s6 s7 none s9 w):tB W rows r s3 s4 s5 s6 s7 (some (aw w.heap.size)) s9 (w.alloc (.cells z33 33)):=by
 have h9:s9=none:=by
  cases h5:s9 with
  |none=>rfl
  |some x=>have:=(h.e9 (by rw[h5];rfl)).1;cases this
 subst h9;have k:=h.later (ah w (.cells z33 33));exact⟨k.low,k.own,k.run,k.e4,k.e5,k.e6,k.e7,λ e=>TaT,λ x hx=>by injection hx with hx;exact⟨w.heap.size,hx.symm,h.low.size,λ _=>aB.new w _ _,λ e=>TaT⟩⟩
theorem tB.axZ(h:tB W rows r s3 s4 s5 s6 s7 s8 none w){g:Nat}{x y c e:Value}(h8:s8=some (aw g))(h4:s4=some (.tuple #[.agg #[x,y,c],e]))(u:Value):
  tB W rows r s3 s4 s5 s6 s7 s8 (some u) (((w.setCell ⟨g,0,none⟩ x).setCell ⟨g,1,none⟩ y).setCell ⟨g,2,none⟩ c):=by obtain⟨g',k1,k2,k3,_⟩:=h.al _ h8;injection k1 with k1;injection k1 with k1;injection k1 with k1 _ _;subst k1;have hk:=k3 rfl;have hg:w.grownBy (((w.setCell ⟨g,0,none⟩ x).setCell ⟨g,1,none⟩ y).setCell ⟨g,2,none⟩ c) (some g):=eH (eH (eH (xU cX) 0 x) 1 y) 2 c;have hn:((w.setCell ⟨g,0,none⟩ x).setCell ⟨g,1,none⟩ y).setCell ⟨g,2,none⟩ c=((w.setCell ⟨g,0,none⟩ x).setCell ⟨g,1,none⟩ y).setCell ⟨g,2,none⟩ c:=rfl;refine⟨((h.low.setCell (p:=⟨g,0,none⟩) k2 x).setCell (p:=⟨g,1,none⟩) k2 y).setCell (p:=⟨g,2,none⟩) k2 c,λ e4=>(by rw[h4]at e4;cases e4),λ z hz=>(h.run z hz).grown hk hg,h.e4,h.e5,h.e6,h.e7,λ _=>⟨by rw[h8];rfl,by rw[h4];rfl⟩,λ z hz=>?_⟩;rw[h8]at hz;injection hz with hz;exact⟨g,hz.symm,k2,λ e=>TaT,λ _=>⟨#[x,y,c],e,h4,((hk.aW 0 x).aW 1 y).aW 2 c⟩⟩
theorem tB.cell(h:tB W rows r s3 s4 s5 s6 s7 s8 none w){v:Value}(h8:s8=some v):∃g,v=aw g/\aB w g 33 z33:=by obtain⟨g,k1,k2,k3,_⟩:=h.al _ h8;exact⟨g,k1,k3 rfl⟩
theorem tB.fin{v4 v5 v6 v7 v8 v9:Value}(h:tB W rows r s3 (some v4) (some v5) (some v6) (some v7) (some v8) (some v9) w):∃g cs ev,v4=.tuple #[.agg cs,ev]/\v5=v4/\v6=.agg cs/\v7=ev/\v8=aw g/\W.heap.size<=g/\aB w g 33 cs/\jt r W.heap.size w (.tuple #[.agg cs,ev])/\ai W w:=by obtain⟨g,k1,k2,_,k4⟩:=h.al _ rfl;obtain⟨cs,y,j1,j2⟩:=k4 rfl;injection j1 with j1;have e5:=h.e5 _ rfl;injection e5 with e5;obtain⟨y6,e6⟩:=h.e6 _ rfl;injection e6 with e6;obtain⟨y7,e7⟩:=h.e7 _ rfl;injection e7 with e7;have h6:=j1.symm.trans e6;have h7:=j1.symm.trans e7;injection h6 with h6;injection h7 with h7;have h6:=congrArg (λ a:x_=>a[0]?) h6;have h7:=congrArg (λ a:x_=>a[1]?) h7;simp at h6 h7;exact⟨g,cs,y,j1,e5.symm,h6.symm,h7.symm,k1,k2,j2,by rw[<-j1];exact h.run _ rfl,h.low⟩
end
def AH(W:t_)(rows:z_)(r:uC (List aZ×z_))(σ:Nat->Option Value)(w:t_):Prop:=tB W rows r (σ 3) (σ 4) (σ 5) (σ 6) (σ 7) (σ 8) (σ 9) w
def rgU(q:Qy)(L:QL)(CA:xP)(cc:Nat)(cols:List aZ)(RA:xP)(rc:Nat)(rows:List aK):Nat->Value:=λ i=>if i=0 then oF q L else if i=1 then .slice CA cols.length cc else if i=2 then .slice RA rows.length rc else undef
variable{P:Program}{ρ:Operand->Value}
theorem Yr{o:Oper}{w:t_}{T:Value->t_->Prop}(h:(execOp ρ o).run P w=.ok .skip w')(ht:T undef w'):uj P o ρ w T:=by unfold uj;rw[h];exact ht
theorem alb{w:t_}(rc:Nat)(h:CR w CA cols RA rows):
  ar 12 #[.slice RA rows.length rc] w λ e w'=>∃v,e=.returned v/\(∃A c rs,v=.slice A (List.length rs) c/\RR w' w'.heap.size A rs/\rs.map (·.l)=rows.map (·.l))/\ai w w':=by refine(adR rows RA rc w (by have:=h.rn;omega) (λ r hr=>by have:=(h.each r hr).1;omega) h.rr).mono ?_;rintro e w1 ⟨v,cl,rfl,h1,h2,h3,h4⟩;obtain⟨A,c,rfl,h5⟩:=UH h1 h2;exact⟨_,rfl,⟨A,c,cl,rfl,h5,h3⟩,h4⟩
variable{RB:xP}
theorem CR.same{w:t_}(h:CR w CA cols RA rows)(hr:RR w w.heap.size RB rs)(he:rs.map (·.l)=rows.map (·.l)):CR w CA cols RB rs:=by
 refine⟨h.env,h.cr,h.cl,hr,?_,λ r hm=>?_⟩;have:=congrArg List.length he;simp only[length_map]at this;rw[this];exact h.rn;have hx:r.l∈rows.map (·.l):=by rw[<-he];exact List.mem_map.2 ⟨r,hm,rfl⟩
 obtain⟨r0,hr0,e0⟩:=List.mem_map.1 hx;rw[<-e0];exact h.each r0 hr0
def zaA.KN(h:p:=by rw[<-rq]at Kx x2 x7 Th Ti⊢;clear rq;have t1:decide ((200:Int)<(L.i.n:Int))=true:=decide_eq_true WC;clear h0;exact ZbQ):=h
def zbu.Kaf(h:p:=by have x2:=k1.cell 2;have x7:=k1.cell 7;have Th:=k1.cell 19;have Ti:=k1.cell 20;simp only[Uaa]at x2 x7 Th Ti;open zaA in exact Zah):=h
theorem Ys(q:Qy)(L:QL)(w:t_)(hf:q.bU.size<=4611686018427387904)(hn:L.i.n<=4611686018427387904/\L.o.n<=4611686018427387904/\L.l.n<=4611686018427387904)(h0:200<L.i.n):ar 21 #[.agg (Pr q L)] w (sf w):=by open zbu in exact Zaz
def zaB.KN(h:p:=by rw[<-rq]at Kx x2 x7 Zi Th Ti⊢;clear rq;have t1:decide ((200:Int)<(L.i.n:Int))=false:=decide_eq_false WC;have t2:decide ((200:Int)<(L.o.n:Int))=true:=decide_eq_true WC;clear h0 h1;exact ZbQ):=h
def zbv.Kaf(h:p:=by have x2:=k1.cell 2;have x7:=k1.cell 7;have Zi:=k1.cell 13;have Th:=k1.cell 19;have Ti:=k1.cell 20;simp only[Uaa]at x2 x7 Zi Th Ti;open zaB in exact Zah):=h
theorem Yt(q:Qy)(L:QL)(w:t_)(hf:q.bU.size<=4611686018427387904)(hn:L.i.n<=4611686018427387904/\L.o.n<=4611686018427387904/\L.l.n<=4611686018427387904)(h0:¬200<L.i.n)(h1:200<L.o.n):ar 21 #[.agg (Pr q L)] w (sf w):=by open zbv in exact Zaz
def zg5.KbT(h:p:=by have t3:decide ((200:Int)<(L.l.n:Int))=true:=decide_eq_true WC;clear h0 h1 h2;exact ZbQ):=h
def zaC.KN(h:p:=by rw[<-rq]at Kx x2 x7 Zi c14 Th Ti⊢;clear rq;open zg5 in exact Zfb):=h
def zbw.Kaf(h:p:=by have x2:=k1.cell 2;have x7:=k1.cell 7;have Zi:=k1.cell 13;have c14:=k1.cell 14;have Th:=k1.cell 19;have Ti:=k1.cell 20;simp only[Uaa]at x2 x7 Zi c14 Th Ti;open zaC in exact Zah):=h
theorem Yu(q:Qy)(L:QL)(w:t_)(hf:q.bU.size<=4611686018427387904)(hn:L.i.n<=4611686018427387904/\L.o.n<=4611686018427387904/\L.l.n<=4611686018427387904)(h0:¬200<L.i.n)(h1:¬200<L.o.n)(h2:200<L.l.n):ar 21 #[.agg (Pr q L)] w (sf w):=by open zbw in exact Zaz
def zg6.KbT(h:p:=by have t3:decide ((200:Int)<(L.l.n:Int))=false:=decide_eq_false WC;have t4:decide ((5000:Int)<(q.bU.size:Int))=true:=decide_eq_true WC;clear h0 h1 h2 h3;exact ZbQ):=h
def zaD.KN(h:p:=by rw[<-rq]at Kx z1 x2 x3 x5 x7 x8 x9 Zi x14 x16 Th Ti x24 x27⊢;clear rq;open zg6 in exact Zfb):=h
def zfY.Kbt(h:p:=by simp only[Uaa]at z1 x2 x3 x5 x7 x8 x9 Zi x14 x16 Th Ti x24 x27;open zaD in exact Zah):=h
def zbx.Kaf(h:p:=by open zfY in exact Zd9):=h
theorem Yv(q:Qy)(L:QL)(w:t_)(hf:q.bU.size<=4611686018427387904)(hn:L.i.n<=4611686018427387904/\L.o.n<=4611686018427387904/\L.l.n<=4611686018427387904)(h0:¬200<L.i.n)(h1:¬200<L.o.n)(h2:¬200<L.l.n)(h3:5000<q.bU.size):ar 21 #[.agg (Pr q L)] w (sf w):=by open zbx in exact Zaz
variable{ys:v_}
theorem afO{w:t_}{base:Nat}(h:aH bH 46 7 w base v ys):∃A c,v=.slice A ys.length c/\RE w w.heap.size A ys:=by obtain⟨A,c,hv,hc⟩:=ey (f:=bH) (size:=7) (λ _=>rfl) h;refine⟨A,c,hv,?_⟩;rcases hc with hc|⟨g,hA,hg,hc⟩;exact .inl hc;refine .inr ⟨g,0,hA,hg,λ i x hx=>?_⟩;have c0:=hc i x 0 _ hx WC rfl;have c1:=hc i x 1 _ hx WC rfl;have c2:=hc i x 2 _ hx WC rfl;have c3:=hc i x 3 _ hx WC rfl;have c4:=hc i x 4 _ hx WC rfl;have c5:=hc i x 5 _ hx WC rfl;have c6:=hc i x 6 _ hx WC rfl;unfold cC;rw[Nat.zero_add];exact⟨by simpa using c0,c1,c2,c3,c4,c5,c6⟩
theorem IX(q:Qy)(w:t_)(v:Value)(ys:v_)(base:Nat)(ho:aH bH 46 7 w base v ys)(ht:Tr.aO w (Old w) q.all ys)(bc:Tr.cO q.all)(hl:q.all.length<=1599289640356):ar 22 #[v] w λ e w'=>e=.returned (af (Tr.dH 0 q.all))/\ai w w':=by obtain⟨A,c,rfl,Er⟩:=afO ho;rw[Tr.aO.length ht];exact TJ A c q.all ys w hl ht Er (Tr.CH q.all ys w bc ht)
def ziv.Kcs(h:p:=by exact⟨_,rfl,hb4⟩):=h
def zg7.KbT(h:p:=by
 have t3:decide ((200:Int)<(L.l.n:Int))=false:=decide_eq_false WC;have t4:decide ((5000:Int)<(q.bU.size:Int))=false:=decide_eq_false WC;clear h0 h1 h2 h3;go_upto_region 3 with fail;clear t1 t2 t3 t4 z1 x3 x5 x8 x9 Zi x14 x16 Th x24 x27;go_wp2_with fail;go_loopw [3] (λ iv wr=>iv=af 0/\wr=W1) (λ _ _=>0);case atStart=>exact⟨rfl,rfl⟩
 case round=>
  obtain⟨rfl,rfl⟩:=hrel;go_wp2_with fail;go_loopw [4] (λ iv wr2=>iv=af 0/\wr2=wr) (λ _ _=>0);case atStart=>exact⟨rfl,rfl⟩
  case round=>
   obtain⟨rfl,rfl⟩:=hrel;clear x2;go_wp2_with fail;clear Ti;generalize wr=wz at*;go_loopw [5] (λ iv wr2=>∃i:Nat,i<=L.i.n/\iv=af i/\wr2=wz) (λ iv _=>L.i.n-(intOf iv).toNat);case atStart=>exact⟨0,gE,rfl,rfl⟩
   case round=>
    obtain⟨i,hk,rfl,rfl⟩:=hrel;by_cases hlt:i<L.i.n
    ·have hx:i<zi.length:=by rw[pE.ae];exact hlt
     obtain⟨b,off,hA,ly,cj⟩:∃b off,L.i.A=some ⟨b,off,none⟩/\b<w.heap.size/\w.cell? ⟨b,off+i*8+7,none⟩=some zi[i].2:=by rcases ox.ae with h|⟨b,off,h1,h2,h3⟩;rw[h]at hx;simp at hx;exact⟨b,off,h1,h2,(h3 i _ (getElem?_eq_getElem hx)).2⟩
     obtain⟨sv2,Ep⟩:=S0.ae i zi[i] (getElem?_eq_getElem hx);rw[Ep]at cj;have hc2:=(eZ.ae.cell (p:=⟨b,off+i*8+7,none⟩) ly).trans cj;rw[hA]at x7;clear hA Ep cj hx;by_cases h5:100<sv2.size;have t5:decide ((100:Int)<(sv2.size:Int))=true:=decide_eq_true WC;exact ZbQ;have t5:decide ((100:Int)<(sv2.size:Int))=false:=decide_eq_false WC;go_wp2_with fail;go_roundw;case rel=>first|exact⟨i+1,hlt,by go_num,trivial⟩|exact⟨i+1,hlt,by go_num,rfl⟩
     case measure=>exact Za2
    have hsz:(prog.info? 64).map (·.size)=some (Pr q L).size:=by show _=some 28;kernel_rfl
    go_wp2_with (first
     |(refine wpList_load_row rfl 64 (.tmp 1) rfl gs rfl 64 (Pr q L) (0,0) _ kL.ae underlying64 rfl hsz ?_))
    refine(HEX.ae _ eZ.ae).mono ?_;rintro e w3 ⟨v3,ys,rfl,o3,tt,b3⟩;have O3:=aa o3;have TT:=aa (Tr.aO.later tt b3);have ux:=aa (Below.trans eZ.ae (b3.mono eZ.ae.size));clear o3 tt b3 x7;open ziv in exact Zho):=h
def zaE.KN(h:p:=by rw[<-rq]at Kx z1 x2 x3 x5 x7 x8 x9 Zi x14 x16 Th Ti x24 x27⊢;clear rq;have kL:=aa (show aB W1 gs 64 (Pr q L)from Kx.ae);clear Kx;open zg7 in exact Zfb):=h
def zfZ.Kbt(h:p:=by simp only[Uaa]at z1 x2 x3 x5 x7 x8 x9 Zi x14 x16 Th Ti x24 x27;open zaE in exact Zah):=h
def zby.Kaf(h:p:=by open zfZ in exact Zd9):=h
theorem Yw(q:Qy)(L:QL)(w:t_)(hq:su w q L)(hlen:q.items.length+q.bQ.length+q.aG.length+q.fE.length+q.ord.length<=1100000)(bc:Tr.cO q.all)(hf:q.bU.size<=4611686018427387904)(hn:L.i.n<=4611686018427387904/\L.o.n<=4611686018427387904/\L.l.n<=4611686018427387904)(h0:¬200<L.i.n)(h1:¬200<L.o.n)(h2:¬200<L.l.n)(h3:¬5000<q.bU.size):
  ar 21 #[.agg (Pr q L)] w (sf w):=by
 have HEX:=aa (λ W (hW:ai w W)=>vE (k:=0) q L W (hq.later hW) hlen);obtain⟨E4,zi,hri,hzb,_⟩:=hq.i;have ox:=aa hri;have hzl:zi.length=L.i.n:=by have:=congrArg List.length hzb;simp at this;rw[E4];simpa using this
 have pE:=aa hzl;have S0:=aa (show∀(KK:Nat) (x:Ex×Value),zi[KK]?=some x->∃s:u_,x.2=Value.string s from λ KK x Lw=>by
  have h1:=congrArg (λ l=>l[KK]?) hzb;simp only[getElem?_map,Lw,Option.map_some]at h1;cases hy:q.items[KK]? with
  |none=>rw[hy]at h1;cases h1
  |some y=>
    rw[hy]at h1;injection h1 with h1;exact⟨_,h1⟩)
 have iT:=aa bc;have Dg:=aa (show q.all.length<=1599289640356 by unfold Qy.all;simp only[length_append,length_map];omega);clear hq hlen bc hzb hri E4;open zby in exact Zaz
theorem OX(q:Qy)(L:QL)(w:t_)(hq:su w q L)(hlen:q.items.length+q.bQ.length+q.aG.length+q.fE.length+q.ord.length<=1100000)(bc:Tr.cO q.all)(hf:q.bU.size<=4611686018427387904)(hn:L.i.n<=4611686018427387904/\L.o.n<=4611686018427387904/\L.l.n<=4611686018427387904):
  ar 21 #[.agg (Pr q L)] w (sf w):=by
 by_cases h0:200<L.i.n;exact Ys q L w hf hn h0;by_cases h1:200<L.o.n;exact Yt q L w hf hn h0 h1;by_cases h2:200<L.l.n;exact Yu q L w hf hn h0 h1 h2;by_cases h3:5000<q.bU.size;exact Yv q L w hf hn h0 h1 h2 h3;exact Yw q L w hq hlen bc hf hn h0 h1 h2 h3
structure GOK (q:Qy) (cols:List aZ) (rows:List aK):Prop where
 cl:cols.length<=20
 rn:rows.length<=100
 g:q.aG.length<=20
 w:q.bQ.length<=20
 h:q.fE.length<=20
 i:q.items.length<=20
 o:q.ord.length<=20
 each:∀r∈rows,r.l.length<=30
 size:Tr.dH 0 q.all<=300
def Lu(q:Qy)(cols:List aZ)(rows:List aK)(w:t_)(e:Ending)(w':t_):Prop:=∃b:Bool,e=.returned (.bool b)/\ai w w'/\(b=false->GOK q cols rows)
def ziu.Kcs(h:p:=by refine⟨_,rfl,hb4,λ h=>?_⟩;obtain⟨g1,g2,g3,g4,g5,g6,g7⟩:=YM.ae;exact⟨g1,g2,by rw[<-YY.ae];exact g3,by rw[<-HNW.ae];exact g4,by rw[<-HNH.ae];exact g5,by rw[<-HNI.ae];exact g6,by rw[<-HNO.ae];exact g7,HEA.ae,by have:=of_decide_eq_false h;omega⟩):=h
def ze1.Ka5(h:p:=by
 have x7:=cL.cell 7;unfold ft at y0 y1 c2 y3 y4 y5 y6 x7;simp only[Uaa]at y0 y1 c2 y3 y4 y5 y6 x7;have yes:∀w2,ai w w2->Lu q cols rows w (.returned (.bool true)) w2:=λ w2 h=>⟨true,rfl,h,λ h=>by cases h⟩;have YES:=aa yes;obtain⟨wV,YI,hn3⟩:=hn;unfold ft at zM V7;clear hq hlen bc b1 cL hr lQ yes;go_enter func9,ntmps9;go_upto_region 1 with fail;generalize w.alloc _=W1 at*;obtain⟨g,hg⟩:∃g,g=w.heap.size:=⟨_,rfl⟩;rw[<-hg]at V7 y0 y1 c2 y3 y4 y5 y6 x7⊢;have HGQ:=aa hg;clear hg;go_wp2_with fail;have hgr:=zA.ae _ zM.ae;unfold Pr at hgr;refine hgr.mono ?_;rintro e W2 ⟨b,rfl,hL⟩;have eZ:=aa (Below.trans zM.ae (hL.mono zM.ae.size));have HX:=aa (V7.ae.later hL);have y0:=(HX.ae.cell 0);have y1:=HX.ae.cell 1;have c2:=HX.ae.cell 2;have y3:=HX.ae.cell 3;have y4:=HX.ae.cell 4;have y5:=HX.ae.cell 5;have y6:=HX.ae.cell 6;have x7:=HX.ae.cell 7;simp only[Uaa]at y0 y1 c2 y3 y4 y5 y6 x7;clear hgr hL;have UG:=aa (HR.ae.later eZ.ae);cases b;case true=>exact ZbQ
 by_cases h0:20<cols.length;have t0:decide ((20:Int)<(cols.length:Int))=true:=decide_eq_true WC;exact ZbQ;by_cases h1:100<rows.length;have t0:decide ((20:Int)<(cols.length:Int))=false:=decide_eq_false WC;have t1:decide ((100:Int)<(rows.length:Int))=true:=decide_eq_true WC;exact ZbQ;by_cases h2:20<L.g.n;have t0:decide ((20:Int)<(cols.length:Int))=false:=decide_eq_false WC;have t1:decide ((100:Int)<(rows.length:Int))=false:=decide_eq_false WC;have t2:decide ((20:Int)<(L.g.n:Int))=true:=decide_eq_true WC;exact ZbQ;by_cases h3:20<L.w.n;have t0:decide ((20:Int)<(cols.length:Int))=false:=decide_eq_false WC;have t1:decide ((100:Int)<(rows.length:Int))=false:=decide_eq_false WC;have t2:decide ((20:Int)<(L.g.n:Int))=false:=decide_eq_false WC;have t3:decide ((20:Int)<(L.w.n:Int))=true:=decide_eq_true WC;exact ZbQ;by_cases h4:20<L.h.n;have t0:decide ((20:Int)<(cols.length:Int))=false:=decide_eq_false WC;have t1:decide ((100:Int)<(rows.length:Int))=false:=decide_eq_false WC;have t2:decide ((20:Int)<(L.g.n:Int))=false:=decide_eq_false WC;have t3:decide ((20:Int)<(L.w.n:Int))=false:=decide_eq_false WC;have t4:decide ((20:Int)<(L.h.n:Int))=true:=decide_eq_true WC;exact ZbQ;by_cases h5:20<L.i.n;have t0:decide ((20:Int)<(cols.length:Int))=false:=decide_eq_false WC;have t1:decide ((100:Int)<(rows.length:Int))=false:=decide_eq_false WC;have t2:decide ((20:Int)<(L.g.n:Int))=false:=decide_eq_false WC;have t3:decide ((20:Int)<(L.w.n:Int))=false:=decide_eq_false WC;have t4:decide ((20:Int)<(L.h.n:Int))=false:=decide_eq_false WC;have t5:decide ((20:Int)<(L.i.n:Int))=true:=decide_eq_true WC;exact ZbQ;by_cases h6:20<L.o.n;have t0:decide ((20:Int)<(cols.length:Int))=false:=decide_eq_false WC;have t1:decide ((100:Int)<(rows.length:Int))=false:=decide_eq_false WC;have t2:decide ((20:Int)<(L.g.n:Int))=false:=decide_eq_false WC;have t3:decide ((20:Int)<(L.w.n:Int))=false:=decide_eq_false WC;have t4:decide ((20:Int)<(L.h.n:Int))=false:=decide_eq_false WC;have t5:decide ((20:Int)<(L.i.n:Int))=false:=decide_eq_false WC;have t6:decide ((20:Int)<(L.o.n:Int))=true:=decide_eq_true WC;exact ZbQ;have t0:decide ((20:Int)<(cols.length:Int))=false:=decide_eq_false WC;have t1:decide ((100:Int)<(rows.length:Int))=false:=decide_eq_false WC;have t2:decide ((20:Int)<(L.g.n:Int))=false:=decide_eq_false WC;have t3:decide ((20:Int)<(L.w.n:Int))=false:=decide_eq_false WC;have t4:decide ((20:Int)<(L.h.n:Int))=false:=decide_eq_false WC;have t5:decide ((20:Int)<(L.i.n:Int))=false:=decide_eq_false WC;have t6:decide ((20:Int)<(L.o.n:Int))=false:=decide_eq_false WC;have YM:=aa (show cols.length<=20/\rows.length<=100/\L.g.n<=20/\L.w.n<=20/\L.h.n<=20/\L.i.n<=20/\L.o.n<=20 from⟨by omega,by omega,by omega,by omega,by omega,by omega,by omega⟩);go_upto_region 3 with fail;clear t0 t1 t2 t3 t4 t5 t6;go_wp2_with fail;go_loopw [7,8] (λ iv _ wr=>∃k:Nat,k<=rows.length/\iv=af k/\W2=wr/\∀j,j<k->∀r,rows[j]?=some r->r.l.length<=30) (λ iv _ _=>rows.length-(intOf iv).toNat);case atStart=>exact⟨0,gE,rfl,rfl,λ j hj=>absurd hj WC⟩
 case round=>
  obtain⟨k,KK,rfl,rfl,hp⟩:=hrel;have HP:=aa hp;clear hp;have hk9:k<=100:=by have:=YM.ae.2.1;omega
  by_cases hlt:k<rows.length
  ·obtain⟨b,off,rfl,ly,cj,uw⟩:=UG.ae.at_ hlt;have hrw:=Si.ae _ (getElem_mem hlt);have Cv:=aa uw;have HIK:=aa (getElem?_eq_getElem hlt);clear uw;obtain⟨r,Er⟩:∃r,r=rows[k]:=⟨_,rfl⟩;rw[<-Er]at Cv cj HIK hrw;clear Er;by_cases h5:30<r.l.length
   ·have t5:decide ((30:Int)<(r.l.length:Int))=true:=decide_eq_true WC;exact ZbQ
   have t5:decide ((30:Int)<(r.l.length:Int))=false:=decide_eq_false WC;go_wp2_with fail;go_loopw [8] (λ jv wr2=>∃i:Nat,i<=r.l.length/\jv=af i/\W2=wr2) (λ jv _=>r.l.length-(intOf jv).toNat);case atStart=>exact⟨0,gE,rfl,rfl⟩
   case round=>
    obtain⟨i,hk,rfl,rfl⟩:=hrel;by_cases hlm:i<r.l.length
    ·obtain⟨b3,aFx,hA,hb3,hva⟩:=Cv.ae.at_ hlm;unfold ej at hva;obtain⟨_,_,Ep⟩:=hva;rw[hA]at cj;clear hA;obtain⟨sv,asm⟩:∃sv,sv=r.l[i].s:=⟨_,rfl⟩;rw[<-asm]at Ep;clear asm;by_cases h6:300<sv.size
     ·have t6:decide ((300:Int)<(sv.size:Int))=true:=decide_eq_true WC;exact ZbQ
     have t6:decide ((300:Int)<(sv.size:Int))=false:=decide_eq_false WC;go_wp2_with fail;go_roundw;case rel=>exact⟨i+1,hlm,by go_num,trivial⟩
     case measure=>exact Za2
    go_wp2_with fail;go_roundw
    case rel=>
     refine⟨k+1,hlt,by go_num,?_⟩;have mO:∀j,j<k+1->∀r2,rows[j]?=some r2->r2.l.length<=30:=by
      intro j hj r2 hr2;rcases gR j k with h|h;exact HP.ae j h r2 hr2;have:j=k:=by omega
      subst this;rw[HIK.ae]at hr2;injection hr2 with hr2;subst hr2;omega
     first
     |exact mO
     |exact⟨rfl,mO⟩
     |exact⟨trivial,mO⟩
    case measure=>exact Za2
  have fX:k=rows.length:=by omega
  have HEA:=aa (show∀r∈rows,r.l.length<=30 from λ r hr=>by obtain⟨Kx,hi,he⟩:=getElem_of_mem hr;exact HP.ae Kx WC r TaB)
  clear fX;go_wp2_with fail;have hex:=HEX.ae _ eZ.ae;unfold Pr at hex;refine hex.mono ?_;rintro e w3 ⟨v3,ys,rfl,o3,tt,b3⟩;have O3:=aa o3;have TT:=aa (Tr.aO.later tt b3);have ux:=aa (Below.trans eZ.ae (b3.mono eZ.ae.size));clear o3 tt b3 y0 y1 c2 y3 y4 y5 y6 x7 hex;open ziu in exact Zho):=h
theorem Yx(q:Qy)(L:QL)(CA:xP)(cc:Nat)(cols:List aZ)(RA:xP)(rc:Nat)(rows:List aK)(w:t_)(hq:su w q L)(hlen:q.items.length+q.bQ.length+q.aG.length+q.fE.length+q.ord.length<=1100000)(bc:Tr.cO q.all)(hf:q.bU.size<=4611686018427387904)(hn:L.i.n<=4611686018427387904/\L.o.n<=4611686018427387904/\L.l.n<=4611686018427387904)(hr:RR w w.heap.size RA rows)(Pz:rows.length<=4611686018427387904)(cj:cols.length<=4611686018427387904)(lQ:∀r∈rows,r.l.length<=4611686018427387904):
  ar 9 #[oF q L,.slice CA cols.length cc,.slice RA rows.length rc] w (Lu q cols rows w):=by have HEX:=aa (λ W (hW:ai w W)=>vE (k:=0) q L W (hq.later hW) hlen);have zA:=aa (λ W (hW:ai w W)=>OX q L W (hq.later hW) hlen bc hf hn);have iT:=aa bc;have Dg:=aa (show q.all.length<=1599289640356 by unfold Qy.all;simp only[length_append,length_map];omega);have YY:=aa hq.g.n;have HNW:=aa hq.w.n;have HNH:=aa hq.h.n;have HNI:=aa (show L.i.n=q.items.length by have:=hq.i.n;simpa using this);have HNO:=aa (show L.o.n=q.ord.length by have:=hq.o.n;simpa using this);have HR:=aa hr;have Si:=aa lQ;have b1:=ah w (.cells (ft q L) 27);have cL:=aB.new w 27 (ft q L);have zM:=aa b1;have V7:=aa cL;unfold oF;open ze1 in exact ZcW
theorem Yy:prog.cellsOf 38=1:=by exact Zhr
theorem Yz:prog.bytesOf 38=24:=by exact Zhr
theorem Fe:prog.cellsOf 48=8:=by exact Zhr
theorem IY:prog.cellsOf 117=8:=by exact Zhr
theorem Tj:prog.bytesOf 48=104:=by exact Zhr
theorem YA:prog.bytesOf 117=96:=by exact Zhr
theorem OY:prog.cellsOf 22=1:=by exact Zhr
theorem Tk:prog.cellsOf 24=1:=by exact Zhr
theorem Tl:prog.cellsOf 25=1:=by exact Zhr
theorem Ff:prog.cellsOf 4=1:=by exact Zhr
theorem OZ:prog.cellsOf 27=8:=by exact Zhr
section
variable{H:Type}{enc:TypeId×Value->H}{w:t_}{base:Nat}{spare:Nat->Bool}{held:Bool}
theorem yy(d:DataW H):1<=Rows.uptoBulk d:=by
 cases d with
 |lit l=>cases l<;>simp[Rows.uptoBulk]
 |nil=>exact Zhy
 |ptr d=>exact Zhy
 |slice elems spare=>exact Zhy
 |agg parts=>exact Zhy
 |iface t d=>exact Zhy
 |map entries=>exact Zhy
 |held h=>exact Zhy
theorem Pa:∀l:List (DataW H),l.length<=Rows.uptoBulkAll l
 |[]=>by simp[Rows.uptoBulkAll]
 |d::l=>by have:=yy d;have:=Pa l;simp only[Rows.uptoBulkAll,length_cons];omega
def zfa.Ka8(h:p:=by
 obtain⟨l,FB,hp⟩:=pick len (P:=λ i a=>(∀d,(elems.map (·.1))[i]?=some d->P a d)/\∀j,j<K->w.cell? ⟨b,off+i*K+j,none⟩=(f a)[j]?) λ i hi=>by obtain⟨a,ha,hca⟩:=oh i hi;refine⟨a,ha,λ j hj=>?_⟩;have:=hca j hj;simp only[dX]at this;exact this
 subst FB;refine⟨some ⟨b,off,none⟩,l,cap,elems.map (·.1),rfl,by rw[length_map,hlen],kJ,λ i a d ha hd=>(hp i a ha).1 d hd,hb2,.inr ⟨b,off,rfl,hbl,λ i x j u hx hu=>?_⟩⟩;exact ZeV):=h
def zh3.Kch(h:p:=by
 have kJ:Rows.uptoBulkAll (elems.map (·.1))+1<=Rows.uptoBulk (DataW.slice (elems.map (·.1)) (rest.map (·.1))):=by simp only[Rows.uptoBulk];omega
 rcases Nat.eq_zero_or_pos len with h0|h0;subst h0;exact⟨some ad,[],cap,[],rfl,rfl,yy _,by simp,by simp,.inl rfl⟩;have oh:∀i,i<len->∃a:α,(∀d,(elems.map (·.1))[i]?=some d->P a d)/\∀j,j<K->w.cell? ((ad.add (i*K)).add j)=(f a)[j]?:=by intro i hi;have h1:=he i hi;rw[getElem?_eq_getElem WC,hc]at h1;obtain⟨cs,h2,h3⟩:=Option.bind_eq_some_iff.1 h1;obtain⟨a,rfl,ha⟩:=hel n WC cs _ h3 (Qc _ (List.mem_map.2 ⟨_,getElem_mem _,rfl⟩));refine⟨a,λ d hd=>?_,(ZN h2).2⟩;rw[getElem?_map,getElem?_eq_getElem WC]at hd;injection hd with hd;rw[<-hd];exact ha
 open zfa in exact Zc7):=h
theorem jf{α:Type}(f:α->xr)(P:α->DataW H->Prop)(K:Nat){T e:TypeId}(hT:prog.underlying T=some (.slice e))(hc:prog.cellsOf e=K)(hK:0<K)(hf:∀x,(f x).length=K){fuel:Nat}{cs:xr}{x:DataW H×List MemPlace}
  (hel:∀m,m<fuel->∀cs x,DataW.trod enc prog w base spare held m e cs=some x->Light e x.1->∃a,cs=f a/\P a x.1) (h:DataW.trod enc prog w base spare held fuel T cs=some x) (hw:Light T x.1):
  ∃(A:xP) (l:List α) (c:Nat) (es:List (DataW H)),cs=[.slice A l.length c]/\es.length=l.length/\Rows.uptoBulkAll es+1<=Rows.uptoBulk x.1/\(∀(i:Nat) (a:α) (d:DataW H),l[i]?=some a->es[i]?=some d->P a d)/\l.length*prog.bytesOf e<=reachBytes/\(l=[]\/∃b off,A=some ⟨b,off,none⟩/\b<w.heap.size/\∀i x j u,l[i]?=some x->(f x)[j]?=some u->w.cell? ⟨b,off+i*K+j,none⟩=some u):=by
 rcases DataW.trod_slice hT h with⟨hcs,_⟩|⟨ad,len,cap,elems,rest,n,hn,hcs,hx,_,hl,hm,hlen,he,_,_⟩
 exact⟨none,[],0,[],hcs,rfl,yy _,by simp,by simp,.inl rfl⟩
 open zh3 in exact ZgG
theorem Fg(s:u_):Rows.uptoBulk (DataW.lit (H:=H) (.string s.data.toList))=s.size+1:=Zhy
theorem aaU{fuel:Nat}{cs:xr}{x:DataW H×List MemPlace}(h:DataW.trod enc prog w base spare held fuel 44 cs=some x):∃a:Val,cs=[ag a.k,af a.n,.string a.s]/\(a.Ok/\0<=a.k/\a.k<=255)/\a.s.size<=Rows.uptoBulk x.1:=by
 obtain⟨y0,y1,y2,n,hx,hl,t0,t1,t2⟩:=Deep.trod_struct3 underlying44 h;rw[nM]at hl
 match cs,hl with
 |[c0,c1,c2],_=>simp only[gS,wT,tI,drop_succ_cons,drop_zero,take_succ_cons,take_zero]at t0 t1 t2;obtain⟨n0,q0,_,f0⟩:=DataW.trod_int underlying5 t0;obtain⟨n1,q1,_,f1⟩:=DataW.trod_int underlying2 t1;obtain⟨s,q2,z2,f2⟩:=DataW.trod_string underlying9 t2;simp at q0 q1 q2;subst q0 q1 q2;refine⟨⟨n0,n1,s⟩,rfl,⟨Jr f1,TI f0⟩,?_⟩;subst hx;have e:=congrArg (λ y=>Rows.uptoBulk y.1) z2;simp only[Fg]at e;simp only[Rows.uptoBulk,Rows.uptoBulkAll];show s.size<=_;omega
structure pz (w:t_) (p:Ex×Tr) (d:DataW H):Prop where
 at_:p.2.at_ w (Old w) p.1
 ok:p.2.ok
 nodes:2*p.2.nodes<=Rows.uptoBulk d
 small:Rows.uptoBulk d<=1048576->p.2.small
structure aaV (w:t_) (l:List (Ex×Tr)) (n:Nat):Prop where
 at_:Tr.aO w (Old w) (l.map (·.2)) (l.map (·.1))
 ok:Tr.cO (l.map (·.2))
 nodes:2*Tr.aP (l.map (·.2))<=n
 small:n<=1048576->Tr.smalls (l.map (·.2))
theorem jg:∀(l:List (Ex×Tr)) (es:List (DataW H)),es.length=l.length->(∀(i:Nat) (a:Ex×Tr) (d:DataW H),l[i]?=some a->es[i]?=some d->pz w a d)->aaV w l (Rows.uptoBulkAll es)
 |[],es,_,_=>by refine⟨?_,?_,?_,λ _=>?_⟩;simp[Tr.aO];simp[Tr.cO];simp[Tr.aP];simp[Tr.smalls]
 |p::l,[],h,_=>by simp at h
 |p::l,d::es,h,hp=>by have h0:=hp 0 p d rfl rfl;have hr:=jg l es Taj λ i a d h1 h2=>hp (i+1) a d Ta9 Ta8;simp only[Rows.uptoBulkAll];refine⟨?_,?_,?_,λ hn=>?_⟩;simp only[map_cons];unfold Tr.aO;exact⟨_,_,rfl,h0.at_,hr.at_⟩;simp only[map_cons];unfold Tr.cO;exact⟨h0.ok,hr.ok⟩;simp only[map_cons];unfold Tr.aP;have:=h0.nodes;have:=hr.nodes;omega;simp only[map_cons];unfold Tr.smalls;exact⟨h0.small WC,hr.small WC⟩
theorem mm{A:xP}{l:List (Ex×Tr)}(cj:l=[]\/∃b off,A=some ⟨b,off,none⟩/\b<w.heap.size/\∀i x j u,l[i]?=some x->(fB x.1)[j]?=some u->w.cell? ⟨b,off+i*7+j,none⟩=some u):ZA w (Old w) A (l.map (·.1)):=by
 rcases cj with cj|⟨b,off,rfl,hb,cj⟩;exact .inl (by simp[cj]);refine .inr ⟨b,off,rfl,hb,λ i y hy=>?_⟩;obtain⟨p,hp,rfl⟩:∃p,l[i]?=some p/\p.1=y:=by simpa [getElem?_map] using hy
 have k:=λ j u hu=>cj i p j u hp hu;exact⟨k 0 _ rfl,k 1 _ rfl,k 2 _ rfl,k 3 _ rfl,k 4 _ rfl,k 5 _ rfl,k 6 _ rfl⟩
theorem pA:∀(fuel:Nat) (cs:xr) (x:DataW H×List MemPlace),DataW.trod enc prog w base spare held fuel 46 cs=some x->Light 46 x.1->∃p:Ex×Tr,cs=fB p.1/\pz w p x.1:=by
 intro fuel
 induction fuel using Nat.strongRecOn with
 |_ fuel ih=>
   intro cs x h hw;obtain⟨xs,n,hn,hx,hl,hlen,hf⟩:=DataW.trod_struct underlying46 h;rw[iQ]at hl;subst hx
   match xs,hlen with
   |[y0,y1,y2,y3,y4],_=>
   match cs,hl with
   |[c0,c1,c2,c3,c4,c5,c6],_=>
     have t0:DataW.trod enc prog w base spare held n 5 (([c0,c1,c2,c3,c4,c5,c6].drop 0).take (prog.cellsOf 5))=some y0:=(hf 0 _ rfl);have t1:DataW.trod enc prog w base spare held n 44 (([c0,c1,c2,c3,c4,c5,c6].drop 1).take (prog.cellsOf 44))=some y1:=(hf 1 _ rfl);have t2:DataW.trod enc prog w base spare held n 9 (([c0,c1,c2,c3,c4,c5,c6].drop 4).take (prog.cellsOf 9))=some y2:=(hf 2 _ rfl);have t3:DataW.trod enc prog w base spare held n 2 (([c0,c1,c2,c3,c4,c5,c6].drop 5).take (prog.cellsOf 2))=some y3:=(hf 3 _ rfl);have t4:DataW.trod enc prog w base spare held n 23 (([c0,c1,c2,c3,c4,c5,c6].drop 6).take (prog.cellsOf 23))=some y4:=(hf 4 _ rfl);rw[wT]at t0;rw[nM]at t1;rw[gS]at t2;rw[tI]at t3;rw[zV]at t4;simp only[drop_succ_cons,drop_zero,take_succ_cons,take_zero]at t0 t1 t2 t3 t4;obtain⟨n0,q0,_,f0⟩:=DataW.trod_int underlying5 t0;obtain⟨a,qa,⟨ha,Bi,hk2⟩,has⟩:=aaU t1;obtain⟨s,q2,z2,f2⟩:=DataW.trod_string underlying9 t2;obtain⟨n3,q3,_,f3⟩:=DataW.trod_int underlying2 t3;have hl4:Light 23 y4.1:=pP (j:=4) (d:=y4.1) underlying46 hw rfl rfl;obtain⟨A,l,c,es,q4,hel,kJ,hP,hby,cj⟩:=jf (λ p:Ex×Tr=>fB p.1) (λ p d=>pz w p d) 7 underlying23 iQ WC (λ _=>rfl) (λ m hm cs x h1 h2=>ih m WC cs x h1 h2) t4 hl4;have hT:=jg l es hel hP;simp at q0 qa q2 q3 q4;obtain⟨rfl,rfl,rfl⟩:=qa;subst q0 q2 q3 q4;rw[CE]at hby;have FB:l.length<=1599289640356:=by unfold reachBytes at hby;omega
     have e2:Rows.uptoBulk y2.1=s.size+1:=by rw[z2];exact Fg s
     have eb:Rows.uptoBulk (DataW.agg (List.map (λ x=>x.1) [y0,y1,y2,y3,y4]))=Rows.uptoBulk y0.1+(Rows.uptoBulk y1.1+(Rows.uptoBulk y2.1+(Rows.uptoBulk y3.1+(Rows.uptoBulk y4.1+0))))+1:=by simp only[map_cons,map_nil,Rows.uptoBulk,Rows.uptoBulkAll]
     have hb0:=yy y0.1;refine⟨(⟨n0,a,s,n3,A,l.length,c⟩,.mk n0 a s n3 (l.map (·.2))),rfl,?_,?_,?_,?_⟩
     ·dsimp only;unfold Tr.at_;exact⟨rfl,rfl,rfl,rfl,by simp,l.map (·.1),mm cj,hT.at_⟩
     ·dsimp only;unfold Tr.ok;exact⟨ha,by simpa using FB,TI f0,Jr f3,⟨Bi,hk2⟩,hT.ok⟩
     show 2*Tr.nodes _<=Rows.uptoBulk (DataW.agg (List.map (λ x=>x.1) [y0,y1,y2,y3,y4]));rw[eb];unfold Tr.nodes;have:=hT.nodes;omega;intro hsm;have hsm:Rows.uptoBulk (DataW.agg (List.map (λ x=>x.1) [y0,y1,y2,y3,y4]))<=1048576:=hsm;rw[eb]at hsm;unfold Tr.small;exact⟨by omega,by omega,hT.small WC⟩
end
section
variable{H:Type}{enc:TypeId×Value->H}{w:t_}{base:Nat}{spare:Nat->Bool}{held:Bool}
theorem pz.more{p:Ex×Tr}{d d':DataW H}(h:pz w p d)(hd:Rows.uptoBulk d<=Rows.uptoBulk d'):pz w p d':=⟨h.at_,h.ok,fK h.nodes hd,λ hs=>h.small WC⟩
theorem YB{fuel:Nat}{cs:xr}{x:DataW H×List MemPlace}(h:DataW.trod enc prog w base spare held fuel 48 cs=some x)(hw:Light 48 x.1):∃a:(Ex×Tr)×u_,cs=fB a.1.1++[.string a.2]/\pz w a.1 x.1:=by
 obtain⟨y0,y1,n,hx,hl,t0,t1⟩:=trod_struct2 underlying48 h;rw[Fe]at hl
 match cs,hl with
 |[c0,c1,c2,c3,c4,c5,c6,c7],_=>rw[iQ]at t0;rw[gS]at t1;simp only[drop_succ_cons,drop_zero,take_succ_cons,take_zero]at t0 t1;subst hx;obtain⟨p,q0,hp⟩:=pA n _ _ t0 (pP (j:=0) underlying48 hw rfl rfl);obtain⟨s,q1,_,_⟩:=DataW.trod_string underlying9 t1;exact Zeo
theorem Tm{fuel:Nat}{cs:xr}{x:DataW H×List MemPlace}(h:DataW.trod enc prog w base spare held fuel 117 cs=some x)(hw:Light 117 x.1):∃a:(Ex×Tr)×Bool,cs=fB a.1.1++[.bool a.2]/\pz w a.1 x.1:=by
 obtain⟨y0,y1,n,hx,hl,t0,t1⟩:=trod_struct2 underlying117 h;rw[IY]at hl
 match cs,hl with
 |[c0,c1,c2,c3,c4,c5,c6,c7],_=>rw[iQ]at t0;rw[Ff]at t1;simp only[drop_succ_cons,drop_zero,take_succ_cons,take_zero]at t0 t1;subst hx;obtain⟨p,q0,hp⟩:=pA n _ _ t0 (pP (j:=0) underlying117 hw rfl rfl);obtain⟨s,q1,_⟩:=DataW.trod_bool underlying4 t1;exact Zeo
theorem aaW{γ:Type}(g:γ->Value){A:xP}{l:List ((Ex×Tr)×γ)}{n:Nat}(hT:aaV w (l.map (·.1)) n)
  (cj:l=[]\/∃b off,A=some ⟨b,off,none⟩/\b<w.heap.size/\∀i x j u,l[i]?=some x->(fB x.1.1++[g x.2])[j]?=some u->w.cell? ⟨b,off+i*8+j,none⟩=some u):fh w (l.map λ x=>(x.1.2,g x.2)) A l.length:=by
 refine⟨by simp,l.map λ x=>(x.1.1,g x.2),?_,by simp,?_⟩
 ·rcases cj with rfl|⟨b,off,rfl,hb,hc⟩
  ·exact .inl rfl
  refine .inr ⟨b,off,rfl,hb,λ i y hy=>?_⟩;obtain⟨p,hp,rfl⟩:∃p,l[i]?=some p/\(p.1.1,g p.2)=y:=by simpa [getElem?_map] using hy
  have k:=λ j u hu=>hc i p j u hp hu;exact⟨⟨k 0 _ rfl,k 1 _ rfl,k 2 _ rfl,k 3 _ rfl,k 4 _ rfl,k 5 _ rfl,k 6 _ rfl⟩,k 7 _ rfl⟩
 have:=hT.at_;simp only[map_map]at this⊢;exact this
theorem kz:∀ts:vI,ts.length<=Tr.aP ts
 |[]=>Nat.zero_le _
 |t::ts=>by have:=kz ts;unfold Tr.aP;cases t;unfold Tr.nodes;rw[length_cons];omega
theorem aaX{fuel:Nat}{cs:xr}{x:DataW H×List MemPlace}(h:DataW.trod enc prog w base spare held fuel 2 cs=some x):∃a:Int,cs=[af a]/\a<=9223372036854775807:=by obtain⟨n,q,_,f⟩:=DataW.trod_int underlying2 h;exact⟨n,q,(Jr f).2⟩
structure QyD (w:t_) (q:Qy) (L:QL) (n:Nat):Prop where
 at_:su w q L
 ok:q.Ok
 nodes:2*Tr.aP q.all<=n
 small:n<=1048576->Tr.smalls q.all/\q.bU.size<=1048576/\L.l.n<=1048576
 lim:∀x∈q.lim,x<=9223372036854775807
theorem Tn{fuel:Nat}{cs:xr}{x:DataW H×List MemPlace}(h:DataW.trod enc prog w base spare held fuel 27 cs=some x)(hw:Light 27 x.1):∃q L,cs=(ft q L).toList/\QyD w q L (Rows.uptoBulk x.1):=by
 obtain⟨xs,n,hn,hx,hl,hlen,hf⟩:=DataW.trod_struct underlying27 h;rw[OZ]at hl;subst hx
 match xs,hlen with
 |[y0,y1,y2,y3,y4,y5,y6,y7],_=>
 match cs,hl with
 |[c0,c1,c2,c3,c4,c5,c6,c7],_=>
   have t0:DataW.trod enc prog w base spare held n 22 (([c0,c1,c2,c3,c4,c5,c6,c7].drop 0).take (prog.cellsOf 22))=some y0:=(hf 0 _ rfl);have t1:DataW.trod enc prog w base spare held n 9 (([c0,c1,c2,c3,c4,c5,c6,c7].drop 1).take (prog.cellsOf 9))=some y1:=(hf 1 _ rfl);have t2:DataW.trod enc prog w base spare held n 4 (([c0,c1,c2,c3,c4,c5,c6,c7].drop 2).take (prog.cellsOf 4))=some y2:=(hf 2 _ rfl);have t3:DataW.trod enc prog w base spare held n 23 (([c0,c1,c2,c3,c4,c5,c6,c7].drop 3).take (prog.cellsOf 23))=some y3:=(hf 3 _ rfl);have t4:DataW.trod enc prog w base spare held n 23 (([c0,c1,c2,c3,c4,c5,c6,c7].drop 4).take (prog.cellsOf 23))=some y4:=(hf 4 _ rfl);have t5:DataW.trod enc prog w base spare held n 23 (([c0,c1,c2,c3,c4,c5,c6,c7].drop 5).take (prog.cellsOf 23))=some y5:=(hf 5 _ rfl);have t6:DataW.trod enc prog w base spare held n 24 (([c0,c1,c2,c3,c4,c5,c6,c7].drop 6).take (prog.cellsOf 24))=some y6:=(hf 6 _ rfl);have t7:DataW.trod enc prog w base spare held n 25 (([c0,c1,c2,c3,c4,c5,c6,c7].drop 7).take (prog.cellsOf 25))=some y7:=(hf 7 _ rfl);rw[OY]at t0;rw[gS]at t1;rw[Ff]at t2;rw[zV]at t3 t4 t5;rw[Tk]at t6;rw[Tl]at t7;simp only[drop_succ_cons,drop_zero,take_succ_cons,take_zero]at t0 t1 t2 t3 t4 t5 t6 t7;have lp:=λ(j:Nat) (f:Field) (d:DataW H)=>pP (j:=j) (f:=f) (d:=d) underlying27 hw;obtain⟨A0,l0,k0,e0,q0,z0,b0,p0,u0,r0⟩:=jf (λ p:(Ex×Tr)×u_=>fB p.1.1++[.string p.2]) (λ p d=>pz w p.1 d) 8 underlying22 Fe WC (λ _=>rfl) (λ m hm cs x h1 h2=>YB h1 h2) t0 (lp 0 _ y0.1 rfl rfl);obtain⟨s1,q1,v1,_⟩:=DataW.trod_string underlying9 t1;obtain⟨s2,q2,_⟩:=DataW.trod_bool underlying4 t2;obtain⟨A3,l3,k3,e3,q3,z3,b3,p3,u3,r3⟩:=jf (λ p:Ex×Tr=>fB p.1) (λ p d=>pz w p d) 7 underlying23 iQ WC (λ _=>rfl) (λ m hm cs x h1 h2=>pA m cs x h1 h2) t3 (lp 3 _ y3.1 rfl rfl);obtain⟨A4,l4,k4,e4,q4,z4,b4,p4,u4,r4⟩:=jf (λ p:Ex×Tr=>fB p.1) (λ p d=>pz w p d) 7 underlying23 iQ WC (λ _=>rfl) (λ m hm cs x h1 h2=>pA m cs x h1 h2) t4 (lp 4 _ y4.1 rfl rfl);obtain⟨A5,l5,k5,e5,q5,z5,b5,p5,u5,r5⟩:=jf (λ p:Ex×Tr=>fB p.1) (λ p d=>pz w p d) 7 underlying23 iQ WC (λ _=>rfl) (λ m hm cs x h1 h2=>pA m cs x h1 h2) t5 (lp 5 _ y5.1 rfl rfl);obtain⟨A6,l6,k6,e6,q6,z6,b6,p6,u6,r6⟩:=jf (λ p:(Ex×Tr)×Bool=>fB p.1.1++[.bool p.2]) (λ p d=>pz w p.1 d) 8 underlying24 IY WC (λ _=>rfl) (λ m hm cs x h1 h2=>Tm h1 h2) t6 (lp 6 _ y6.1 rfl rfl);obtain⟨A7,l7,k7,e7,q7,z7,b7,p7,u7,r7⟩:=jf (λ n:Int=>[Value.int .i64 n]) (λ n d=>n<=9223372036854775807) 1 underlying25 tI WC (λ _=>rfl) (λ m hm cs x h1 h2=>aaX h1) t7 (lp 7 _ y7.1 rfl rfl);have T0:=jg (l0.map (·.1)) e0 (by rw[z0,length_map]) λ i a d h1 h2=>by
    obtain⟨p,hp,rfl⟩:∃p,l0[i]?=some p/\p.1=a:=by simpa [getElem?_map] using h1
    exact p0 i p d hp h2
   have T3:=jg l3 e3 z3 p3;have T4:=jg l4 e4 z4 p4;have T5:=jg l5 e5 z5 p5;have T6:=jg (l6.map (·.1)) e6 (by rw[z6,length_map]) λ i a d h1 h2=>by
    obtain⟨p,hp,rfl⟩:∃p,l6[i]?=some p/\p.1=a:=by simpa [getElem?_map] using h1
    exact p6 i p d hp h2
   have v1':Rows.uptoBulk y1.1=s1.size+1:=by rw[v1];exact Fg s1
   have v7:l7.length<=Rows.uptoBulkAll e7:=by rw[<-z7];exact Pa e7
   have eb:Rows.uptoBulk (DataW.agg (List.map (λ x=>x.1) [y0,y1,y2,y3,y4,y5,y6,y7]))=Rows.uptoBulk y0.1+(Rows.uptoBulk y1.1+(Rows.uptoBulk y2.1+(Rows.uptoBulk y3.1+(Rows.uptoBulk y4.1+(Rows.uptoBulk y5.1+(Rows.uptoBulk y6.1+(Rows.uptoBulk y7.1+0)))))))+1:=by simp only[map_cons,map_nil,Rows.uptoBulk,Rows.uptoBulkAll]
   simp at q0 q1 q2 q3 q4 q5 q6 q7;subst q0 q1 q2 q3 q4 q5 q6 q7;rw[Tj]at u0;rw[CE]at u3 u4 u5;rw[YA]at u6;unfold reachBytes at u0 u3 u4 u5 u6;have hi:(l0.map λ x=>(x.1.2,x.2)).map (·.1)=(l0.map (·.1)).map (·.2):=Tad;have ho:(l6.map λ x=>(x.1.2,x.2)).map (·.1)=(l6.map (·.1)).map (·.2):=Tad;refine⟨⟨l0.map λ x=>(x.1.2,x.2),s1,s2,l3.map (·.2),l4.map (·.2),l5.map (·.2),l6.map λ x=>(x.1.2,x.2),l7⟩,⟨⟨A0,l0.length,k0⟩,⟨A3,l3.length,k3⟩,⟨A4,l4.length,k4⟩,⟨A5,l5.length,k5⟩,⟨A6,l6.length,k6⟩,⟨A7,l7.length,k7⟩⟩,rfl,?_,?_,?_,?_,?_⟩
   ·refine⟨?_,⟨by simp,_,mm r3,T3.at_⟩,⟨by simp,_,mm r4,T4.at_⟩,⟨by simp,_,mm r5,T5.at_⟩,?_,rfl,?_⟩
    ·have:=aaW (λ s:u_=>Value.string s) T0 r0;rw[map_map];exact this
    have:=aaW (λ s:Bool=>Value.bool s) T6 r6;rw[map_map];exact this;rcases r7 with r7|⟨b,off,h1,h2,h3⟩;exact .inl r7;refine .inr ⟨b,off,h1,h2,λ i x hx=>?_⟩;have:=h3 i x 0 _ hx rfl;rw[Nat.mul_one]at this;exact this
   ·refine⟨?_,T3.ok,T4.ok,T5.ok,?_,?_,?_,?_,?_,?_⟩
    ·show Tr.cO ((l0.map λ x=>(x.1.2,x.2)).map (·.1));rw[hi];exact T0.ok
    show Tr.cO ((l6.map λ x=>(x.1.2,x.2)).map (·.1));rw[ho];exact T6.ok;show(l0.map λ x=>(x.1.2,x.2)).length<=_;exact ZhW;show(l3.map (·.2)).length<=_;exact ZhW;show(l4.map (·.2)).length<=_;exact ZhW;show(l5.map (·.2)).length<=_;exact ZhW;show(l6.map λ x=>(x.1.2,x.2)).length<=_;exact ZhW
   rw[vV];show _<=Rows.uptoBulk (DataW.agg (List.map (λ x=>x.1) [y0,y1,y2,y3,y4,y5,y6,y7]));rw[eb];have n0:=T0.nodes;have n3:=T3.nodes;have n4:=T4.nodes;have n5:=T5.nodes;have n6:=T6.nodes;show 2*(Tr.aP ((l0.map λ x=>(x.1.2,x.2)).map (·.1))+(Tr.aP (l3.map (·.2))+Tr.aP (l4.map (·.2))+Tr.aP (l5.map (·.2)))+Tr.aP ((l6.map λ x=>(x.1.2,x.2)).map (·.1)))<=_;rw[hi,ho];omega;intro hs;replace hs:Rows.uptoBulk (DataW.agg (List.map (λ x=>x.1) [y0,y1,y2,y3,y4,y5,y6,y7]))<=1048576:=hs;rw[eb]at hs;refine⟨?_,by show s1.size<=_;omega,by show l7.length<=_;omega⟩;unfold Qy.all;show Tr.smalls ((l0.map λ x=>(x.1.2,x.2)).map (·.1)++(l3.map (·.2)++l4.map (·.2)++l5.map (·.2))++(l6.map λ x=>(x.1.2,x.2)).map (·.1));rw[hi,ho];exact iL (iL (T0.small WC) (iL (iL (T3.small WC) (T4.small WC)) (T5.small WC))) (T6.small WC);intro x hx;obtain⟨i,hi,he⟩:=getElem_of_mem hx;have Ib:i<l7.length:=hi;exact p7 i x (e7[i]' WC) (by rw[getElem?_eq_getElem Ib];exact congrArg some he) (getElem?_eq_getElem _)
theorem YC{fuel:Nat}{cs:xr}{x:DataW H×List MemPlace}(h:DataW.trod enc prog w base spare held fuel 29 cs=some x)(hw:Light 29 x.1):
  ∃A rs c,cs=[.slice A rs.length c]/\RR w w.heap.size A rs/\rs.length<=140737488355328/\∀r∈rs,r.l.length<=140737488355328/\∀a∈r.l,a.Ok/\0<=a.k/\a.k<=255:=by
 obtain⟨A,rs,c,hcs,hP,hb,hR⟩:=uX (λ r:aK=>[.slice r.A r.l.length r.c]) (λ r=>RV w w.heap.size r.A r.l/\r.l.length<=140737488355328/\∀a∈r.l,a.Ok/\0<=a.k/\a.k<=255) 1 underlying29 Yy WC (λ _=>rfl)
  (λ m _ cs y hy hl=>by obtain⟨A,l,c,h1,h2⟩:=VQ hy hl;exact⟨⟨A,l,c⟩,h1,h2⟩) h hw
 rw[Yz]at hb;refine⟨A,rs,c,hcs,?_,by unfold reachBytes at hb;omega,λ r hr=>(hP r hr).2⟩;rcases hR with h0|⟨b,off,h1,h2,h3⟩;exact .inl h0;refine .inr ⟨b,off,h1,h2,λ i r hr=>⟨?_,(hP r (mem_of_getElem? hr)).1⟩⟩;have:=h3 i r 0 _ hr rfl;exact ZfH
end
section
variable{H:Type}{enc:TypeId×Value->H}{W:t_}{base:Nat}{v:Value}{d:DataW H}{p:List MemPlace}
theorem YD(ok:Value.okWide prog W .any base 29 v)(k:DataW.Trod enc prog W 0 (λ _=>true) true 29 v d p)(hw:Light 29 d):
  ∃A rs c,v=.slice A rs.length c/\RR W W.heap.size A rs/\rs.length<=140737488355328/\∀r∈rs,r.l.length<=140737488355328/\∀a∈r.l,a.Ok/\0<=a.k/\a.k<=255:=by obtain⟨a,len,cap,rfl⟩:=okWide_slice underlying29 ok;obtain⟨fuel,hf⟩:=k;obtain⟨A,l,c,q,h⟩:=YC hf hw;exact ZhJ
theorem Tp(ok:Value.okWide prog W .any base 27 v)(k:DataW.Trod enc prog W 0 (λ _=>true) true 27 v d p)(hw:Light 27 d):∃q L,v=oF q L/\QyD W q L (Rows.uptoBulk d):=by obtain⟨cs,rfl,_⟩:=okWide_struct underlying27 ok;obtain⟨fuel,hf⟩:=k;obtain⟨q,L,h,h1⟩:=Tn hf hw;refine⟨q,L,?_,h1⟩;cases cs;simp[Value.cells,ft]at h;rw[h];rfl
end
theorem Pb{l:List (uC α)}{m:List α}(h:Be l=.ok m):m.length<=l.length/\∀x∈m,Except.ok x∈l:=by
 unfold Be at h;split at h;cases h;injection h with h;subst h;refine⟨length_filterMap_le _ _,λ x hx=>?_⟩;obtain⟨e,he,hx⟩:=List.mem_filterMap.1 hx;cases e with
 |error e=>cases hx
 |ok y=>injection hx with hx;subst hx;exact he
theorem Pc(c:α->α->Int)(k:α):∀l:List α,(iU c k l).length<=l.length+1
 |[]=>by simp[iU]
 |x::l=>by have:=Pc c k l;unfold iU;split;rw[length_cons,length_cons];omega;split<;>simp
theorem IZ(c:α->α->Int):∀(l s:List α),(l.foldl (λ ks k=>iU c k ks) s).length<=l.length+s.length
 |[],s=>by simp
 |x::l,s=>by have h1:=IZ c l (iU c x s);have h2:=Pc c x s;rw[foldl_cons,length_cons];omega
theorem aaY(c:α->α->Int)(l:List α):(zZ c l).length<=l.length:=by have:=IZ c l [];unfold zZ;exact ZfH
theorem Fh{g:Bool}:∀{l:List (Tr×u_)}{s:dE}{ys:vI}{hd:List aZ}{s':dE},dr g aG cols l s=.ok (ys,hd,s')->hd.length=l.length
 |[],s,ys,hd,s',h=>by unfold dr at h;injection h with h;injection h with _ h1;injection h1 with h1 _;rw[<-h1];rfl
 |(t,nm)::l,s,ys,hd,s',h=>by unfold dr at h;split at h;cases h;split at h;cases h;rename_i hi;injection h with h;injection h with _ h1;injection h1 with h1 _;rw[<-h1,length_cons,Fh hi,length_cons]
theorem Tq{ng:Nat}{aD:vI}(h:jE ng aD l=.ok gs):gs.length<=l.length+1:=by unfold jE at h;by_cases he:bX ((if ng=0 then [[]] else fZ ((l.map λ r=>(r.take ng,fU aD (r.drop ng))).map (·.1))).map λ k=>cf (cg (aD.map Tr.op) (l.map λ r=>(r.take ng,fU aD (r.drop ng))) k))≠0;rw[if_pos he]at h;cases h;rw[if_neg he]at h;injection h with h;rw[<-h,length_map];split;simp;have:=aaY bT ((l.map λ r=>(r.take ng,fU aD (r.drop ng))).map (·.1));rw[length_map,length_map]at this;unfold fZ;exact Nat.le_succ_of_le this
variable{left:z_}
theorem YE{p:iY}{rows:z_}(h:xp q p cols rows=.ok left):left.length<=rows.length+1/\(p.aJ=false->∀r∈left,r∈rows):=by unfold xp at h;have hk:(cP cols q.bQ rows).1.length<=rows.length:=length_filter_le _ _;have hkm:∀r∈(cP cols q.bQ rows).1,r∈rows:=λ r hr=>(List.mem_filter.1 hr).1;split at h;cases h;split at h;injection h with h;subst h;exact⟨by omega,λ _=>hkm⟩;rename_i hg;split at h;cases h;rename_i l hl;have FB:=(Pb hl).1;rw[length_map]at FB;split at h;cases h;rename_i gs rq;split at h;cases h;injection h with h;subst h;refine⟨?_,λ e=>absurd e hg⟩;have h1:(cP p.st.aG p.having gs).1.length<=gs.length:=length_filter_le _ _;have h2:=Tq rq;omega
theorem aaZ{rows:z_}(h:iZ q cols rows=.ok (hd,la))(hi:q.items.length<=40)(hc:cols.length<=40)(hr:∀r∈rows,r.length<=40):hd.length<=40/\la.length<=rows.length+1/\∀r∈la,r.length<=40:=by
 unfold iZ at h;split at h;cases h;rename_i p hp;obtain⟨pg,pi,gc,wC,s1,s2,_,_,hit,_,_,phd⟩:=qM hp;have qQ:=zL hit;split at h;cases h;split at h;cases h;rename_i left asn;obtain⟨k1,k2⟩:=YE asn;split at h;cases h;rename_i ls hls;obtain⟨m1,m2⟩:=Pb hls;rw[length_map]at m1;have hrow:∀x∈ls,x.row.length<=40:=λ x hx=>by
  obtain⟨r,hr2,he⟩:=List.mem_map.1 (m2 x hx);unfold bA at he;split at he;cases he;rename_i l hl;injection he with he;subst he;unfold Ag;dsimp only;split
  ·rename_i hnil;have hq:q.items=[]:=by rw[hnil]at qQ;exact List.length_eq_zero_iff.1 (by rw[<-qQ];rfl)
   exact hr r (k2 (pg.trans (pi hq)) r hr2)
  rw[length_take];omega
 injection h with h;injection h with h1 h2;subst h1 h2;refine⟨?_,?_,?_⟩
 ·rw[phd];split
  ·exact hc
  have:=Fh hit;omega
 ·rw[length_map];have hs:∀ds,(iF ds ls).length=ls.length:=λ ds=>(iV _ ls).length_eq
  split;rw[hs];omega;rw[length_take,hs];omega
 intro r hr2;obtain⟨x,hx,rfl⟩:=List.mem_map.1 hr2;refine hrow x ?_;have hs:∀ds (y:eu),y∈iF ds ls->y∈ls:=λ ds y hy=>(iV _ ls).mem_iff.1 hy;split at hx;exact hs _ _ hx;exact hs _ _ (mem_of_mem_take hx)
structure tC (w:t_) (q:Qy) (L:QL) (CA:xP) (cols:List aZ) (RA:xP) (rows:List aK):Prop where
 qy:su w q L
 ok:q.Ok
 smalls:Tr.smalls q.all
 nodes:Tr.aP q.all<=1100000
 bU:q.bU.size<=1048576
 ln:L.l.n<=1048576
 lim:∀n∈q.lim,n<=9223372036854775807
 env:Bc w
 cr:RC w w.heap.size CA cols
 cl:cols.length<=140737488355328
 rr:RR w w.heap.size RA rows
 rn:rows.length<=140737488355328
 each:∀r∈rows,r.l.length<=140737488355328/\∀v∈r.l,v.Ok
section
variable{w w':t_}{q:Qy}{L:QL}{CA:xP}{cols:List aZ}{RA:xP}{rows:List aK}
theorem tC.later(h:tC w q L CA cols RA rows)(hb:ai w w'):tC w' q L CA cols RA rows:=
 ⟨h.qy.later hb,h.ok,h.smalls,h.nodes,h.bU,h.ln,h.lim,h.env.later hb,h.cr.later hb,h.cl,h.rr.later hb,h.rn,h.each⟩
theorem Qy.Ok.all(h:q.Ok):Tr.cO q.all:=by unfold Qy.all;exact mV.2 ⟨mV.2 ⟨h.i,mV.2 ⟨mV.2 ⟨h.w,h.g⟩,h.h⟩⟩,h.o⟩
theorem tC.great(cc rc:Nat)(h:tC w q L CA cols RA rows):ar 9 #[oF q L,.slice CA cols.length cc,.slice RA rows.length rc] w (Lu q cols rows w):=by
 have hn:=h.nodes;rw[vV]at hn;have l1:=kz (q.items.map (·.1));have l2:=kz q.bQ;have l3:=kz q.aG;have l4:=kz q.fE;have l5:=kz (q.ord.map (·.1));rw[length_map]at l1 l5;have hf:=h.bU;have hl:=h.ln;have i1:L.i.n=q.items.length:=by have:=h.qy.i.n;simpa using this
 have i2:L.o.n=q.ord.length:=by have:=h.qy.o.n;simpa using this
 have hc:=h.cl;have hr:=h.rn;exact Yx q L CA cc cols RA rc rows w h.qy WC h.ok.all WC ⟨by omega,by omega,by omega⟩ h.rr WC WC λ r hr=>by have:=(h.each r hr).1;omega
theorem tC.cr_(h:tC w q L CA cols RA rows)(g:GOK q cols rows):CR w CA cols RA rows:=
 ⟨h.env,h.cr,g.cl,h.rr,g.rn,λ r hr=>⟨g.each r hr,(h.each r hr).2⟩⟩
theorem tC.few(h:tC w q L CA cols RA rows)(g:GOK q cols rows):Few q:=by have hn:=OV h.smalls (by have:=h.nodes;omega) g.size;have:=g.g;have:=g.w;have:=g.h;have:=g.i;have:=g.o;exact⟨by omega,by omega,by omega,by omega,by omega,by omega,h.lim⟩
end
end Go.Proofs.YtndgjggokjickaaGreatDoor
