/- Parts of the proof. -/
import Derived.Test.YtehhdlgjfdnafaaGreatDoorXB31
import Derived.Test.YtehhdlgjfdnafaaGreatDoorXB32
namespace Go.Proofs.YtehhdlgjfdnafaaGreatDoor
variable{p:Prop}
set_option maxHeartbeats 90000000
set_option maxRecDepth 100000
open Go.Lib (hid)
open Go.ChangeShapes Go.WideShapes Go.ChangeAt Go.RowKit List
set_option linter.unusedVariables false
set_option linter.unusedSimpArgs false
def quZ:Obj:=.cells #[.slice none 0 0,.string ⟨#[]⟩,.bool false,.slice none 0 0,.slice none 0 0,.slice none 0 0,.slice none 0 0,.slice none 0 0] 28
def IA (w:World)(q:Nat)(m:lB):World:=(((((((w.setCell ⟨q,0,none⟩ (fF m.items)).setCell ⟨q,1,none⟩ (.string m.aK)).setCell ⟨q,2,none⟩ (.bool m.only)).setCell ⟨q,3,none⟩ (fF m.aR)).setCell ⟨q,4,none⟩ (fF m.group)).setCell ⟨q,5,none⟩ (fF m.having)).setCell ⟨q,6,none⟩ (fF m.order)).setCell ⟨q,7,none⟩ (fF m.aG)
variable{w:World}{q:Nat}{T:TypeId}{a b c e f g i:Value}
theorem Yx{d:Value}(h:av w q T #[a,b,c,d,e,f,g,i])(m:lB):av (IA w q m) q T (jX m).toArray:=by have:=(((((((h.cC 0 (fF m.items)).cC 1 (.string m.aK)).cC 2 (.bool m.only)).cC 3 (fF m.aR)).cC 4 (fF m.group)).cC 5 (fF m.having)).cC 6 (fF m.order)).cC 7 (fF m.aG);exact Zdt
variable{ρ:bp}{W:World}{σ:dX}{big:Bool}
theorem iq.IA(h:iq ρ W w σ big)(hW:ρ.g < W.heap.size)(hq:W.heap.size<=q)(m:lB):iq ρ W (IA w q m) σ big:=
 (((((((h.far hW hq 0 _).far hW hq 1 _).far hW hq 2 _).far hW hq 3 _).far hW hq 4 _).far hW hq 5 _).far hW hq 6 _).far hW hq 7 _
variable{B:Nat}{d:Qu}{m:lB}
theorem Qu.at_.IA(h:d.at_ w (eC B w) m)(hq:q < B)(m':lB):d.at_ (IA w q m') (eC B (Go.Proofs.YtehhdlgjfdnafaaGreatDoor.IA w q m')) m:=by
 have s:=λ(w:World) (h:d.at_ w (eC B w) m) (i:Nat) (u:Value)=>Qu.at_.keep (pc (w:=w) hq i u) h
 exact s _ (s _ (s _ (s _ (s _ (s _ (s _ (s _ h 0 _) 1 _) 2 _) 3 _) 4 _) 5 _) 6 _) 7 _
section
variable {ρ:bp} {w wr w2:World} {big:Bool} {σ FE:dX} {m:lB} {d:Qu}
end
structure O7 (ρ:bp) (w wr:World) (l:aI) (m:lB) (d:Qu):Prop where
 did:iq ρ w wr (.good l) false
 blk:av wr (w.heap.size+1) 28 (jX m).toArray
 res:av wr w.heap.size 28 #[.slice none 0 0,.string ⟨#[]⟩,.bool false,.slice none 0 0,.slice none 0 0,.slice none 0 0,.slice none 0 0,.slice none 0 0]
 at_:d.at_ wr (eC (w.heap.size+2) wr) m
section
variable {ρ:bp} {w wr w2:World} {l r:aI} {m:lB} {d:Qu}
theorem O7.later (A:O7 ρ w wr l m d)(hb:Below wr.heap.size wr w2):O7 ρ w w2 l m d:=
 ⟨A.did.later hb,A.blk.later hb,A.res.later hb,Qu.at_.keep (gh hb) A.at_⟩
theorem O7.Yy (A:O7 ρ w wr l m d)(hg:ρ.g < w.heap.size)(dd:iq ρ wr w2 (.good r) false):O7 ρ w w2 r m d:=
 ⟨A.did.trans dd,dd.blk A.blk Taa,dd.blk A.res Taa,Qu.at_.keep (eU dd.grown Taa) A.at_⟩
theorem O7.set {m':lB} {d':Qu}(A:O7 ρ w wr l m d)(hg:ρ.g < w.heap.size)(i:Nat)(u:Value)(hb:(jX m').toArray=(jX m).toArray.setIfInBounds i u)(hat:Qu.at_ wr (eC (w.heap.size+2) wr) d' m'):O7 ρ w (wr.setCell ⟨w.heap.size+1,i,none⟩ u) l m' d':=by refine⟨A.did.far hg Taa i u,?_,A.res.far (p:=⟨w.heap.size+1,i,none⟩) Tae u,Qu.at_.keep (pc Taa i u) hat⟩;rw[hb];exact A.blk.cC i u
end
variable{α:Type}
def akm(x:α)(r:aI):Ps α:=λ _=> .ok (x,r)
structure Y1 {α:Type} (E:El α) (T:TypeId) (ρ:bp) (w wr:World) (l:aI) (k:Nat) (v:Value) (acc:List α) (cs:List Value) (m:lB) (d:Qu):Prop where
 row:jw E T wr (w.heap.size+2) v acc
 did:iq ρ w wr (.good l) false
 blk:av wr (w.heap.size+1) 28 cs.toArray
 res:av wr w.heap.size 28 #[.slice none 0 0,.string ⟨#[]⟩,.bool false,.slice none 0 0,.slice none 0 0,.slice none 0 0,.slice none 0 0,.slice none 0 0]
 at_:d.at_ wr (nG (w.heap.size+2) v wr) m
 cel:cs[k]?=some v
variable{E:El α}{wr w2:World}{l r:aI}{k:Nat}{v:Value}{acc:List α}{cs:List Value}
theorem Y1.Yy(A:Y1 E T ρ w wr l k v acc cs m d)(hg:ρ.g < w.heap.size)(dd:iq ρ wr w2 (.good r) false):Y1 E T ρ w w2 r k v acc cs m d:=
 ⟨A.row.grown dd.grown Taa,A.did.trans dd,dd.blk A.blk Taa,dd.blk A.res Taa,Qu.at_.keep (oz dd.grown Taa) A.at_,A.cel⟩
variable{m':lB}{d':Qu}
theorem Y1.done(A:Y1 E T ρ w wr l k v acc cs m d)(hm:(jX m').toArray=cs.toArray)(hat:Qu.at_ wr (eC (w.heap.size+2) wr) d' m'):O7 ρ w wr l m' d':=
 ⟨A.did,hm▸A.blk,A.res,hat⟩
variable{val:E.β->Value}{z:Value}{bytes:Nat}{x:α}{lv:Value}{Q:Exit->Act->World->Prop}{a0:Act}{rid:Nat}{o0 o1 o2 o3 o4 o5 o6 o7:Oper}{d0 d1 d2 d3 d4 d5 d6:Tmp}{F:FuncId}
theorem aeU{q:Tmp} (t ty:TypeId)
  (A:Y1 E T ρ w wr l k lv acc cs m d) (bj:ρ.g < w.heap.size) (hn:acc.length<=64) (hby:bytes<=1000)
  (hc:∀w',ρ.at w' (.good l) false->Calls Tryz.prog F #[ρ.ptr] w' (ElW E val ρ w' x r))
  (az:cT [o0,o1,o2,o3,o4,o5,o6] a0.tmps.size [o0,o1,o2,o3,o4,o5,o6] 0=true) (hz:dD [o0,o1,o2,o3,o4,o5,o6,o7] [o7] 7=true) (hch:lI [o0,o1,o2,o3,o4,o5,o6] [3,4,5]=true) (sr:CH o0 o1 o2 o3 o4 o5 o6 q d0 d1 d2 d3 d4 d5 d6=true)
  (hq:a0.eval (.tmp q)=.pointer (some ⟨w.heap.size+1,0,none⟩)) (h0:a0.eval (.tmp 0)=ρ.ptr)
  (U6:∀ρ' w',ρ' (.tmp q)=.pointer (some ⟨w.heap.size+1,0,none⟩)->(execOp ρ' o0).run Tryz.prog w'=.ok (.value (.pointer (some ⟨w.heap.size+1,k,none⟩))) w')
  (XO:∀ρ' w',ρ' (.tmp q)=.pointer (some ⟨w.heap.size+1,0,none⟩)->(execOp ρ' o6).run Tryz.prog w'=.ok (.value (.pointer (some ⟨w.heap.size+1,k,none⟩))) w')
  (Tz:∀ρ' w',ρ' (.tmp d0)=.pointer (some ⟨w.heap.size+1,k,none⟩)->w'.cell? ⟨w.heap.size+1,k,none⟩=some lv->(execOp ρ' o1).run Tryz.prog w'=.ok (.value lv) w')
  (hmv:∀ρ' w',ρ' (.tmp 0)=ρ.ptr->(execOp ρ' o2).run Tryz.prog w'=.ok (.value ρ.ptr) w')
  (fW:∀ρ' w',cd ρ'->ρ' (.tmp d2)=ρ.ptr->(execOp ρ' o3).run Tryz.prog w'=.ok (.enter F #[ρ.ptr]) w')
  (hbs:∀ρ' w' y,ρ' (.tmp d3)=val y->(execOp ρ' o4).run Tryz.prog w'=.ok (.value (.slice (some ⟨w'.heap.size,0,none⟩) 1 1)) (w'.alloc (.cells (E.f y).toArray T)))
  (hap:∀ρ' w' s v' O4,ρ' (.tmp d1)=lv->ρ' (.tmp d4)=s->(Builtin.append_ #[t,t] ty #[lv,s]).run Tryz.prog w'=.ok v' O4->(execOp ρ' o5).run Tryz.prog w'=.ok (.value v') O4)
  (ht:Tryz.prog.underlying t=some (.slice T)) (mH:(Tryz.prog.info? T).map (λ i=>(i.zero,i.size,i.bytes))=some (some z,E.size,bytes)) (hzs:z.cells.size=E.size) (hsz:0 < E.size) (hf:∀x,(E.f x).length=E.size) (h1:∀y,∀u∈E.f y,u.oneCell'=true)
  (tE:∀y s v' W,Y1 E T ρ w (W.setCell ⟨w.heap.size+1,k,none⟩ v') r k v' (acc++ [x]) (cs.set k v') m d->W.cell? ⟨w.heap.size+1,k,none⟩=some lv->W.frozen? ⟨w.heap.size+1,k,none⟩=false->
    wpList Tryz.prog [o0,o1,o2,o3,o4,o5,o6,o7].toArray Q [o7] (((((((a0.put (some d0) (.pointer (some ⟨w.heap.size+1,k,none⟩))).put (some d1) lv).put (some d2) ρ.ptr).put (some d3) (val y)).put (some d4) s).put (some d5) v').put (some d6) (.pointer (some ⟨w.heap.size+1,k,none⟩))) W):
  (Code.region rid [o0,o1,o2,o3,o4,o5,o6,o7].toArray true).wp Tryz.prog Q a0 wr:=by
 obtain⟨ys,ho,ha⟩:=A.row.has;have hyl:ys.length=acc.length:=ha.len;have how:=λ G hG=>A.row.Iz (G:=G) hG
 have hwr:=A.blk.lt;refine Iy (P:=Tryz.prog) (f:=E.f) (val:=val) (e:=T) (size:=E.size) (base:=w.heap.size+2) (l:=ys) (lv:=lv) (Post:=acx E (λ _=>false) ρ (akm x r) (.good l) false) (w0:=wr) (qb:=w.heap.size+1) (k:=k) (g:=ρ.g) (ptr:=ρ.ptr) (F:=F) (args:= #[ρ.ptr]) t ty z bytes Tac az hz hch sr hq h0 U6 XO Tz hmv fW hbs hap ht mH hzs hsz hf h1 ho ((A.blk.cell k).trans (by simpa using A.cel)) Taa (λ e'=>by have:=(how _ e').1;omega) (λ e'=>by have:=(how _ e').1;omega) (Nat.le_trans (Nat.mul_le_mul (show _<=65 by omega) hby) Tab) Taa Taa ?_ ?_ ?_
 ·intro w' hw';refine(hc w' (A.did.at_.later hw')).mono ?_;rintro e w'' ⟨y,rfl,hx,hd⟩;exact⟨y,rfl,x,hx,by rw[Bool.or_false];exact hd,rfl⟩
 ·rintro y w' w'' ⟨x,hx,hd,hv⟩;exact hd.grown
 ·intro y s v' w4 w4' w5 W vt hp hl2 zj lJ oQ Wu XP;obtain⟨_,_,dd,_⟩:=id hp;have hs1:=vt.size;have hs2:=dd.size;have hs3:=hl2.size;obtain⟨x',hgr,hdd,hgv⟩:=OJ (E:=E) (T:=T) (lng:=λ _=>false) (B:=w.heap.size+2) (acc:=acc) Taa bj A.row Taa A.did vt hp hl2 lJ ys oQ ha Wu;obtain rfl:x'=x:=hgv;have O8:∀(q:Nat),q < w.heap.size+2->some q≠lv.ownBlock:=λ q hq e'=>by have:=(how q e'.symm).1;omega
  have HX:=(((A.blk.later vt).grown dd.grown Tad).later hl2).grown lJ (O8 _ Taa);have HR:=(((A.res.later vt).grown dd.grown Tad).later hl2).grown lJ (O8 _ Taa);have qW:=HX.cC k v';simp only[setIfInBounds_toArray] at qW;refine tE y s v' W ⟨hgr.far Taa k v',by have:=hdd.far bj (show w.heap.size<=w.heap.size+1 by omega) k v';rwa [Bool.or_false] at this,qW,HR.far (p:=⟨w.heap.size+1,k,none⟩) Tae v',Qu.at_.keep (tH (show w.heap.size+1 < w.heap.size+2 by omega) k v') (Qu.at_.keep (tG lJ Wu) (Qu.at_.keep (fJ hl2) (Qu.at_.keep (oz dd.grown Taa) (Qu.at_.keep (fJ vt) A.at_)))),?_⟩ XP (HX.frozen k);have:=A.cel;rw[getElem?_set_self (by rcases Nat.lt_or_ge k cs.length with h | h;exact h;rw[getElem?_eq_none h] at this;cases this)]
variable{k0 kf nm kw:Wd}{l1:aI}{aR:Tr}
theorem zgU.Kb4(h:p:=by
 clear hxf fW;generalize IB:W.setCell ⟨w.heap.size+1,0,none⟩ (.slice A n c)=W4 at*;clear IB;go_loopg [] 0 (λ k wr=>wr=W4);case atStart=>rfl
 case round=>
  subst hrel;have x0:=HI.out.blk.cell 0;simp only[Uaa] at x0;have hql:=HI.out.blk.lt;go_wp2_with fail;refine(Calls.mono (P:=Tryz.prog) (by rw[HN.out];exact aeR HCF.out 1 Taa ρ wr HI.out.did.at_) ?_);rintro e w8 ⟨rfl,d8⟩;have hA:=HI.out.Yy bj d8;obtain⟨O9,akp,hn8,acB⟩:=hA.row.sl (B':=w.heap.size+2) (Nat.le_refl _);clear hn8;have pF:=hid (hA.done (m':= { items:=O9 }) (d':= { items:=[x] }) (by rw[akp];rfl) { Qu.kv w8 _ with items:=acB });clear acB akp hA d8 HI x0 hql;have Ei:=pF.out.blk.lt;have bf:=aa w8 (.cells (aP [cu]) 9);have HQF:=hid (pF.out.later bf);clear pF;go_wp2_with fail;refine(OG HFR.out ρ _ HQF.out.did.at_ w8.heap.size (av.new _ _ _) Taa).mono ?_;rintro e w4 ⟨rfl,d4⟩;have jS:=hid (HQF.out.Yy bj d4);clear HQF d4 bf;go_wp2_with fail;refine(iF ρ _ _ _ jS.out.did.at_ ⟨#[111,110,108,121]⟩ jM.out).mono ?_;rintro e w5 ⟨rfl,d5⟩;have hQ3:=jS.out.Yy bj d5;have EH:=hid (hQ3.set (m':= { items:=O9 }) (d':= { items:=[x] }) bj 2 (.bool false) rfl hQ3.at_);have hf2:=hQ3.blk.frozen 2;have hc2:=hQ3.blk.cell 2;clear hQ3 d5 jS;go_wp2_with fail;clear hf2 hc2;generalize w5.setCell ⟨w.heap.size+1,2,none⟩ (.bool false)=W6 at*;refine(OH HNK.out HNR.out ρ _ EH.out.did.at_).mono ?_;rintro e w6 ⟨aK,YA,rfl,d6⟩;have HF:=hid YA;clear YA;have hQ5:=EH.out.Yy bj d6;have EG:=hid (hQ5.set (m':= { items:=O9,aK:=aK }) (d':= { items:=[x],aK:=aK }) bj 1 (.string aK) rfl { hQ5.at_ with aK:=rfl });have hf1:=hQ5.blk.frozen 1;have hc1:=hQ5.blk.cell 1
  clear hQ5 d6 EH;go_wp2_with fail;clear hf1 hc1;generalize w6.setCell ⟨w.heap.size+1,1,none⟩ (.string aK)=W7 at*;refine(KW (s:=⟨#[119,104,101,114,101]⟩) HWK.out HWH.out ρ _ EG.out.did.at_).mono ?_;rintro e w7 ⟨⟨Y2,Y3,Y4⟩,rfl,hsw,d7⟩;have hs7:=EG.out.did.size;have hq7:=EG.out.blk.lt;have hQ7:=EG.out.Yy bj d7;have Y5:=hid (hQ7.set (m':= { items:=O9,aK:=aK,aR:=⟨Y2,Y3,Y4⟩}) (d':= { items:=[x],aK:=aK,aR:=[aR] }) bj 3 (.slice Y2 Y3 Y4) rfl { hQ7.at_ with aR:=El.lies.more hsw Taa});have hf3:=hQ7.blk.frozen 3;have hc3:=hQ7.blk.cell 3;clear hQ7 d7 hsw EG;unfold fF at*;go_wp2_with fail;clear hf3 hc3;generalize w7.setCell ⟨w.heap.size+1,3,none⟩ (.slice Y2 Y3 Y4)=W8 at*;refine(iF ρ _ _ _ Y5.out.did.at_ ⟨#[103,114,111,117,112]⟩ HGR.out).mono ?_;rintro e w8' ⟨rfl,d8⟩;have QJ:=hid (Y5.out.Yy bj d8);clear d8 Y5;go_wp2_with fail;refine(OI (s:=⟨#[104,97,118,105,110,103]⟩) HHA.out ρ _ QJ.out.did.at_).mono ?_;rintro e w9 ⟨⟨shA,shn,shc⟩,apz,Su,d9⟩;have YB:=QJ.out.Yy bj d9;have hs9:=QJ.out.did.size;have kJ:=QJ.out.blk.lt;subst apz;have HQA:=hid (YB.set (m':= { items:=O9,aK:=aK,aR:=⟨Y2,Y3,Y4⟩,having:=⟨shA,shn,shc⟩}) (d':= { items:=[x],aK:=aK,aR:=[aR] }) bj 5 (.slice shA shn shc) rfl { YB.at_ with having:=El.lies.more Su Taa});have hf5:=YB.blk.frozen 5;have hc5:=YB.blk.cell 5;clear YB d9 Su QJ;unfold fF;go_wp2_with fail;clear hf5 hc5;generalize w9.setCell ⟨w.heap.size+1,5,none⟩ (.slice shA shn shc)=W10 at*;refine(iF ρ _ _ _ HQA.out.did.at_ ⟨#[111,114,100,101,114]⟩ HOR.out).mono ?_;rintro e wa ⟨rfl,d10⟩
  have HQB:=hid (HQA.out.Yy bj d10);clear d10 HQA;go_wp2_with fail;refine(iF ρ _ _ _ HQB.out.did.at_ ⟨#[108,105,109,105,116]⟩ HLI.out).mono ?_;rintro e FL ⟨rfl,d11⟩;have HS:=hid (HQB.out.Yy bj d11);clear d11 HQB;obtain⟨x0,x1,x2,x3,x4,x5,x6,x7⟩:=jt HS.out.blk;obtain⟨z0,z1,z2,z3,z4,z5,z6,z7⟩:=rB HS.out.res;obtain⟨y0,y1,y2,y3,y4,y5,y6,y7⟩:=jt HS.out.res;unfold fF at x0 x3 x4 x5 x6 x7;go_wp2_with fail;have HP:=Yx HS.out.res { items:=O9,aK:=aK,aR:=⟨Y2,Y3,Y4⟩,having:=⟨shA,shn,shc⟩};have HR:=jt HP;unfold IA fF at HR;obtain⟨r0,r1,r2,r3,r4,r5,r6,r7⟩:=HR;refine bodyPost_ret (v:=Hv { items:=O9,aK:=aK,aR:=⟨Y2,Y3,Y4⟩,having:=⟨shA,shn,shc⟩}) ?_ rfl ?_
  ·simp[results,Tryz.results127,go_sem,r0,r1,r2,r3,r4,r5,r6,r7];rfl
  ·refine⟨{ items:=O9,aK:=aK,aR:=⟨Y2,Y3,Y4⟩,having:=⟨shA,shn,shc⟩},rfl,?_,HS.out.did.IA bj (Nat.le_refl _) { items:=O9,aK:=aK,aR:=⟨Y2,Y3,Y4⟩,having:=⟨shA,shn,shc⟩}⟩;rw[<- HF.out];exact Qu.at_.keep (gW Taa) (HS.out.at_.IA Taa { items:=O9,aK:=aK,aR:=⟨Y2,Y3,Y4⟩,having:=⟨shA,shn,shc⟩})):p:=h
theorem Yz{x:Tr×ByteArray} (hse:gJ cX k0=true)(hst:ar fe l=false)(hit:∀(ρ:bp) (w:World),ρ.at w (.good l) false->Calls Tryz.prog 158 #[ρ.ptr] w (ElW iX itV ρ w x (kf::nm::kw::l1)))(Qx:gJ cu kf=true)(hcf:gJ bk kf=false)(hon:gJ jo nm=false)(hnk:nm.k=1)(hnr:kO nm.s=false)(hwk:gJ dh kw=true)(hwh:fI 0 l1 aR r)(hgr:ar iz r=false)(hha:ar mP r=false)(hor:ar iB r=false)(Eo:ar jd r=false)(ρ:bp)(w:World)(h:ρ.at w (.good (k0::l)) false):
  Calls Tryz.prog 127 #[ρ.ptr] w λ e w'=>∃y:lB,e=.returned (Hv y)/\Qu.at_ w' (eC w.heap.size w') { items:=[x],aK:=⟨nm.s.toArray⟩,aR:=[aR] } y/\iq ρ w w' (.good r) false:=by
 have bj:=h.nt;have HSE:=hid hse;have HST:=hid hst;have HFR:=hid Qx;have HCF:=hid hcf;have jM:=hid hon;have HNK:=hid hnk;have HNR:=hid hnr;have HWK:=hid hwk;have HWH:=hid hwh;have HGR:=hid hgr;have HHA:=hid hha;have HOR:=hid hor;have HLI:=hid Eo;have HI0:=hid hit;clear hse hst hit Qx hcf hon hnk hnr hwk hwh hgr hha hor Eo;have hb2:=af.then (af.then (aa w quZ) (aa _ quZ)) (aa _ (.cells (aP [cX]) 9));have h0:=h.later hb2;have HQ:=hid (((av.new w 28 #[.slice none 0 0,.string ⟨#[]⟩,.bool false,.slice none 0 0,.slice none 0 0,.slice none 0 0,.slice none 0 0,.slice none 0 0]).alloc quZ).alloc (.cells (aP [cX]) 9));have hL0:=av.new (w.alloc quZ) 28 #[.slice none 0 0,.string ⟨#[]⟩,.bool false,.slice none 0 0,.slice none 0 0,.slice none 0 0,.slice none 0 0,.slice none 0 0];rw[World.size_alloc] at hL0;have HL:=hid (hL0.alloc (.cells (aP [cX]) 9));have hS0:=av.new ((w.alloc quZ).alloc quZ) 9 (aP [cX]);rw[World.size_alloc,World.size_alloc] at hS0;clear hL0;unfold quZ at*;go_enter Tryz.func127,Tryz.ntmps127;go_wp2_with fail;refine(OG HSE.out ρ _ h0 (w.heap.size+2) hS0 Taa).mono ?_;rintro e w1 ⟨rfl,d1⟩;have HA:=hid (show Y1 iX 51 ρ w w1 l 0 (.slice none 0 0) [] [.slice none 0 0,.string ⟨#[]⟩,.bool false,.slice none 0 0,.slice none 0 0,.slice none 0 0,.slice none 0 0,.slice none 0 0] {} {} from⟨jw.nil iX _ w1 _,(iq.aC h hb2).trans d1,HL.out.grown d1.grown Tad,HQ.out.grown d1.grown Tad,Qu.kv _ _,rfl⟩);clear HL HQ hS0 h0 d1 hb2;go_wp2_with fail;refine(iF ρ w1 _ _ HA.out.did.at_ ⟨#[42]⟩ HST.out).mono ?_
 rintro e w3 ⟨rfl,d3⟩;have mU:=hid (HA.out.Yy bj d3);clear d3 HA;go_wp2_with fail;refine aeU (E:=iX) (val:=itV) (T:=51) (q:=3) (d0:=10) (d1:=11) (d2:=12) (d3:=13) (d4:=14) (d5:=15) (d6:=16) (F:=158) 23 23 mU.out bj Tae Taa (λ w' hw=>HI0.out ρ w' hw) Tac Tac Tac Tac rfl rfl ?_ ?_ ?_ ?_ ?_ ?_ ?_ Tryz.underlying23 zu rfl Tab (λ _=>rfl) (by intro y u hu;replace hu:u∈MJ y:=hu;simp[MJ,aT] at hu;rcases hu with rfl | rfl | rfl | rfl | rfl | rfl | rfl | rfl <;> rfl) ?_
 ·exact ZcS
 ·exact ZcS
 ·exact ZcY
 ·exact ZcS
 ·exact Zdm
 ·intro ρ' w' y' h';show _=Result.ok _ (w'.alloc (.cells (MJ y').toArray _));simp[go_sem,h',itV,MJ,aT]
 ·intro ρ' w' s' v' O4 qZ nK sF;exact Zbc
 intro y s v' W A4 fW hxf;obtain⟨⟨A,n,c⟩,jk,hsn,_⟩:=A4.row.sl (B':=w.heap.size) Taa;replace jk:v'=.slice A n c:=jk;replace hsn:n=1:=hsn;subst jk;have HI:=hid (show Y1 iX 51 ρ w (W.setCell ⟨w.heap.size+1,0,none⟩ (.slice A n c)) (kf::nm::kw::l1) 0 (.slice A n c) [x] [.slice A n c,.string ⟨#[]⟩,.bool false,.slice none 0 0,.slice none 0 0,.slice none 0 0,.slice none 0 0,.slice none 0 0] {} {} from A4);have HN:=hid hsn;clear A4 hsn HI0 mU;open zgU in exact Zep
def Wc:Obj:=.cells #[.int .u8 0,.string ⟨#[]⟩,.slice none 0 0,.string ⟨#[]⟩,.int .i64 0,.string ⟨#[]⟩,.int .i64 0,.slice none 0 0,.string ⟨#[]⟩,.bool false,.slice none 0 0,.slice none 0 0,.slice none 0 0,.slice none 0 0,.slice none 0 0,.int .u8 0,.string ⟨#[]⟩,.int .i64 0,.int .i64 0,.slice none 0 0,.slice none 0 0,.slice none 0 0,.int .u8 0,.int .i64 0,.string ⟨#[]⟩,.int .u8 0,.int .i64 0,.string ⟨#[]⟩] 34
def P0:Array Value:=(bD {}).toArray
section
variable {ρ:bp} {w wr w2:World} {big:Bool} {P:Ps St} {σ FE:dX} {q b:Nat} {m:fl} {d:St}
end
theorem Ug (qy:lB):Tryz.prog.built 34 [(0,.int .u8 8),(7,Hv qy)]=some (bD { kind:=8,query:=qy }).toArray:=by exact Zhj
def OS (l:aI)(d:Qu)(r:aI):Prop:=∀(ρ:bp) (w:World),ρ.at w (.good l) false->Calls Tryz.prog 127 #[ρ.ptr] w λ e w'=>∃y:lB,e=.returned (Hv y)/\d.at_ w' (eC w.heap.size w') y/\iq ρ w w' (.good r) false
def II (d:Qu):St:= { kind:=8,query:=d }
variable{t:Wd}
theorem YP(hse:gJ cX t=true)(H:OS (t::l) d r)(ρ:bp)(w:World)(h:ρ.at w (.good (t::l)) false):
  Calls Tryz.prog 76 #[ρ.ptr] w λ e w'=>∃y:lB,e=.returned (ji { kind:=8,query:=y })/\d.at_ w' (eC w.heap.size w') y/\iq ρ w w' (.good r) false:=by
 have bj:=h.nt;obtain⟨tk,pl,bd,hpl,hlt,hsm,AP,fA,hg,Ai,vv,hp⟩:=h.mh;obtain⟨r',sF⟩:=hg (t::l) rfl;injection sF with zU htr;have hb:=af.then (aa w Wc) (aa _ Wc);have h0:=h.later hb;have HQ0:=(av.new w 34 P0).alloc Wc;have HQ:=hid HQ0;have HH:=hid h;have HR:=hid H;have apN:=hid (show(dX.good (t::l)).head (⟨#[115,101,108,101,99,116]⟩:ByteArray).data.toList=true from hse);clear HQ0 h hg fA AP hse hpl H;rw[show Obj.cells P0 34=Wc from rfl] at HQ;unfold Wc at*;clear htr;go_enter Tryz.func76,Tryz.ntmps76;go_wp2_with fail;refine(zh ρ _ _ false h0 ⟨#[115,101,108,101,99,116]⟩).mono ?_;rintro e w1 ⟨rfl,b1⟩;rw[apN.out];have hb1:=af.then hb b1
 have pF:=hid (HQ.out.later b1);clear HQ h0 b1 hb zU hp;go_wp2_with fail;refine(HR.out ρ _ (HH.out.later hb1)).mono ?_;rintro e w3 ⟨qy,rfl,hqd,d3⟩;have HQ:=hid (d3.blk pF.out Taa);have HD:=hid ((iq.aC HH.out hb1).trans d3);have HS:=hid hqd;have hs9:w.heap.size+1<=w1.heap.size:=pF.out.lt;clear d3 hqd pF HH;go_wp2_with (first
  |(refine zr rfl 34 _ rfl (cs:=(bD { kind:=8,query:=qy }).toArray) ?hv ?_;rotate_left)
  |(refine wpList_store_row rfl 34 (.tmp 2) (.tmp 8) rfl w.heap.size (bD { kind:=8,query:=qy }).toArray rfl rfl 34 P0 HQ.out TaF rfl (OL _) ?_
    have HR:=hid (HQ.out.row (bD { kind:=8,query:=qy }).toArray)
    have HF:=hid (HD.out.row bj (Nat.le_refl _) (bD { kind:=8,query:=qy }).toArray)
    have uD:=hid (Qu.at_.keep (gW (show w.heap.size<=w.heap.size+1 by omega)) (Qu.at_.keep (iI w3 (show w.heap.size < w.heap.size+1 by omega) (bD { kind:=8,query:=qy }).toArray) (Qu.at_.keep (gW hs9) HS.out)))))
 case hv=>exact Ug qy
 exact bodyPost_ret (v:=ji { kind:=8,query:=qy }) (results_cell_row Tryz.results76 _ _ w.heap.size 34 (bD { kind:=8,query:=qy }).toArray (0,0) _ rfl HR.out Tryz.underlying34 rfl TaF) rfl ⟨qy,rfl,uD.out,HF.out⟩
variable{S:Nat->Prop}{y:lB}
theorem QL(h:d.at_ w S y):(II d).at_ w S { kind:=8,query:=y }:=
 { St.kv w S with kind:=rfl,query:=h }
def akA (d:Qu)(w:World)(e:Ending)(w':World):Prop:=∃y:lB,e=.returned (.tuple #[ji { kind:=8,query:=y },.int .i64 0,.int .i64 0])/\d.at_ w' (eC w.heap.size w') y/\Below w.heap.size w w'
variable{t0:Wd}{r0:aI}
theorem Z2(s:ByteArray)(w:World)(hs:s.size<=4294967280) {l:List np}(hl:lY s.data.toList=.ok l)   (hw:l.map (·.w)=t0::r0)(hse:gJ cX t0=true)(H:OS (t0::r0) d (t::r))(hk:t.k=0)(zZ:(II d).exprs.length<=1000)(hdx:∀x∈(II d).exprs,x.thin/\x.depth<=32):Calls Tryz.prog 33 #[.string s] w (akA d w):=by
 obtain⟨_,hlen,hwd⟩:=Bv hl;have hne:l≠ []:=by intro h;rw[h] at hw;cases hw
 have HSE:=hid (λ ρ w h=>YP hse H ρ w h);have HEN:=hid (FU hl);have Xh:=hid hwd;have HWS:=hid hw;have Sx:=hid hdx;have HNX:=hid zZ;have HK:=hid hk;clear hwd hw hdx zZ hse H hk;have HQ0:=av.new w 34 P0;rw[show Obj.cells P0 34=Wc from rfl] at HQ0;have HQ:=hid HQ0;clear HQ0;unfold Wc at*;go_enter Tryz.func33,Tryz.ntmps33;go_wp2_with fail;refine(Z1 hl hs).mono ?_;rintro e w1 ⟨A,c,rfl,ht,b1⟩;obtain⟨gl,rfl,hgb,wy,hc⟩:=ht.cells hne;have pF:=hid (HQ.out.later b1);have HB:=hid (af.then (aa w _) b1);have hR:=bp.start (c:=c) wy hc HEN.out hlen Xh.out;rw[HWS.out] at hR;have HR:=hid hR;have BX:w.heap.size < w1.heap.size:=pF.out.lt;clear ht hc b1 HQ hR hgb hne;go_wp2_with fail;refine(HSE.out ⟨w1.heap.size,gl,c,l⟩ _ HR.out).mono ?_;rintro e w2 ⟨qy,rfl,hat,dd⟩;obtain⟨y,hy⟩:∃y:fl,y= { kind:=8,query:=qy }:=⟨_,rfl⟩;rw[<- hy];have HY:=hid hy;clear hy;rw[show(w1.alloc _).heap.size=w1.heap.size+1 by simp] at hat;have lJ:w1.heap.size <(w1.alloc (.cells #[.slice (some ⟨gl,0,none⟩) l.length c,.int .i64 0,.int .i64 (-1),.bool false] 125)).heap.size:=by simp
 have hq2:=dd.blk (pF.out.alloc _) Tbc;have hs2:w1.heap.size+1<=w2.heap.size:=by have:=dd.size;simpa using this
 have jR:=hid ((dd.later (aa w2 Wc)).row lJ (by rw[show(w1.alloc _).heap.size=w1.heap.size+1 by simp];exact hs2) (bD y).toArray);have HY3:=hid ((av.new w2 34 P0).row (bD y).toArray);have mD:=hid ((hq2.alloc Wc).gU (q:=w2.heap.size) Taa (bD y).toArray);have akC:=hid (Qu.at_.keep (Lh w2 Wc (bD y).toArray) hat);have qc:=hid (show Below w.heap.size w (w1.alloc (.cells #[.slice (some ⟨gl,0,none⟩) l.length c,.int .i64 0,.int .i64 (-1),.bool false] 125))from af.then HB.out (aa w1 _));clear dd hat hq2 pF HR HB;rw[show(Obj.cells P0 34)=Wc from rfl] at HY3;unfold Wc at*;go_wp2_with (first
  |(refine wpList_store_row rfl 34 (.tmp 9) (.tmp 27) rfl w2.heap.size (bD y).toArray rfl rfl 34 P0 (av.new w2 34 P0) TaF rfl (OL _) ?_))
 generalize ((w2.alloc _).setRow _ _)=W3 at*;refine(iF ⟨w1.heap.size,gl,c,l⟩ _ _ _ jR.out.at_ ⟨#[59]⟩ (by show((t.k==1 || t.k==4)&& t.s==yU)=false;rw[HK.out];rfl)).mono ?_;rintro e w4 ⟨rfl,d4⟩;have pj:=hid (jR.out.trans d4);have EH:=hid (d4.blk mD.out Tbc);have HY4:=hid (d4.blk HY3.out (by show w2.heap.size≠w1.heap.size;omega));have KF:=hid (Qu.at_.keep (eU d4.grown (show w1.heap.size < w1.heap.size+1 by omega)) akC.out);clear d4 jR mD HY3 akC;have VT:=hid (qc.out.trans (aO pj.out.grown qc.out.size (by show w.heap.size<=w1.heap.size;omega)));obtain⟨tk,pl,bd,hpl,akD,hsm,AP,fA,hg,Ai,vv,hp⟩:=pj.out.at_.mh;obtain⟨r',sF⟩:=hg _ rfl;injection sF with zU _;have hk:=HK.out;rw[zU] at hk;obtain rfl:bd= -1:=AP;obtain⟨c0,c1,c2,k0,k1,k2,k3⟩:=hp;simp only at c0 c1 c2 k0 k1 k2 k3;have akD:pl < l.length:=akD;have awC:(pl:Int)< l.length:=by omega
 clear hg fA hpl zU;rw[hk] at k0;have c3:=pj.out.at_.facts.2.2.2.1;simp only at c3;clear pj hl hk;go_wp2_with (first
  |(refine wpList_load_row rfl 34 (.tmp 9) rfl w2.heap.size rfl 34 (bD y).toArray (0,0) _ HY4.out Tryz.underlying34 rfl TaF ?_))
 clear c0 c1 c2 c3 k0 k1 k2 k3;have HAS:=hid (show(II d).at_ w4 (eC (w1.heap.size+1) w4) y by rw[HY.out];exact QL KF.out);refine(Lg w4 (II d) y (eC (w1.heap.size+1) w4) (λ b hb=>hb.2) HAS.out (by have:=HNX.out;omega) (by simp[II])).mono ?_;rintro e w5 ⟨⟨sA,sn,sc⟩,rfl,hn,jk,b5⟩;obtain⟨_,ys,vx,hall⟩:=jk;unfold fF;have Z3:=hid (EH.out.later b5);have HY5:=hid (HY4.out.later b5);have apR:=hid (Qu.at_.keep (gh b5) KF.out);have Z4:=hid (af.then VT.out b5);have Uh:=hid vx;have Hf:=hid hall;have HNL:=hid hn;have hml:sn<=1000:=by rw[show sn=_ from HNL.out];exact HNX.out
 simp only at Uh HNL;clear b5 vx hall hn EH HY4 KF VT HAS;go_wp2_with fail;go_loopw [11] (λ u wr=>∃i:Nat,i<=sn/\u=.int .i64 i/\Below w5.heap.size w5 wr) (λ u _=>sn - (intOf u).toNat);case atStart=>exact⟨0,Nat.zero_le _,rfl,Below.refl _ _⟩
 case round=>
  obtain⟨i,hi,rfl,iE⟩:=hrel;have mR:=hid iE;have HQr:=hid (Z3.out.later iE);have HYr:=hid (HY5.out.later iE);by_cases hlt:i < sn
  ·obtain⟨x,hx⟩:∃x,(II d).exprs[i]?=some x:=⟨_,getElem?_eq_getElem (by have:=HNL.out;omega)⟩;obtain⟨yx,hyx⟩:∃yx,ys[i]?=some yx:=⟨_,getElem?_eq_getElem (by have h1:=Hf.out.len;have h2:=HNL.out;omega)⟩;have akE:x.at_ w5 (eC 0 w5) yx:=tJ Hf.out hx hyx;have Z5:=Sx.out x (mem_of_getElem? hx);have Sx:=hid (Tr.ajS (w:=w5) (S:=eC 0 w5) (λ b hb=>hb.2) x yx akE Z5.1 (by have:=Z5.2;omega) wr iE);rcases Uh.out with h0 |⟨b,off,kR,jP,hcell⟩
   ·subst h0;simp at hyx
   have hcell:=λ j u hu=>(iE.cell (p:=⟨b,off+i*7+j,none⟩) jP.2).trans (hcell i yx j u hyx hu)
   have q0:=hcell 0 _ rfl;have q1:=hcell 1 _ rfl;have q2:=hcell 2 _ rfl;have q3:=hcell 3 _ rfl;have q4:=hcell 4 _ rfl;have q5:=hcell 5 _ rfl;have q6:=hcell 6 _ rfl;simp only[Nat.add_zero] at q0;have hdi:¬((x.depth:Int)> 32):=by have:=Z5.2;omega
   clear hcell hx hyx akE Z5;subst kR;go_wp2_with fail;clear q0 q1 q2 q3 q4 q5 q6;refine Sx.out.mono ?_;rintro e w6 ⟨rfl,b6⟩;go_wp2_with fail;go_roundw;case rel=>exact⟨i+1,by omega,by go_num,mR.out.trans (b6.mono mR.out.size)⟩
   case measure=>exact Zcu
  ·obtain rfl:i=sn:=by omega
   have apS:=hid (Qu.at_.keep (gh iE) apR.out);have HBr:=hid (af.then Z4.out iE);clear iE;go_wp2_with (first
    |(refine wpList_load_row rfl 34 (.tmp 9) rfl w2.heap.size rfl 34 (bD y).toArray (0,0) _ HYr.out Tryz.underlying34 rfl TaF ?_)
    |(refine wpList_store_row rfl 34 (.tmp 2) (.tmp 82) rfl w.heap.size (bD y).toArray rfl rfl 34 P0 HQr.out TaF rfl (OL _) ?_
      have HR9:=hid (HQr.out.row (bD y).toArray)
      have qC:=hid (show Qu.at_ (wr.setRow w.heap.size (bD y).toArray) (eC w.heap.size (wr.setRow w.heap.size (bD y).toArray)) d qy from Qu.at_.keep (gW (show w.heap.size<=w1.heap.size+1 by omega)) (Qu.at_.keep (iI wr (show w.heap.size < w1.heap.size+1 by omega) (bD y).toArray) apS.out))
      have HB9:=hid (HBr.out.trans (aO (cH wr w.heap.size (bD y).toArray) HBr.out.size (Nat.le_refl _)))))
   exact bodyPost_ret (v:=.tuple #[ji y,.int .i64 0,.int .i64 0]) (IC Tryz.results33 _ _ w.heap.size 34 (bD y).toArray (0,0) _ (.int .i64 0) (.int .i64 0) rfl HR9.out Tryz.underlying34 rfl (by rw[show Array.size (bD y).toArray=28 from rfl];exact rF) rfl rfl) rfl ⟨qy,by rw[HY.out],qC.out,HB9.out⟩
def knB (t:Wd):Bool:=t.k==1 && !kO t.s && !gJ eu t && !gJ dP t && !gJ bK t && !gJ bz t && !gJ ei t && !gJ dB t
theorem IJ(h:knB t=true):ace t/\t.k=1/\kO t.s=false/\gJ ei t=false/\gJ dB t=false:=by simp only[knB,Bool.and_eq_true,beq_iff_eq,Bool.not_eq_true'] at h;obtain⟨⟨⟨⟨⟨⟨⟨k,a⟩,b⟩,c⟩,d⟩,e⟩,f⟩,g⟩:=h;exact⟨⟨⟨by omega,by omega⟩,b,c,d,e⟩,k,a,f,g⟩
abbrev OT (s:List UInt8):Wd:=⟨1,s,0⟩
abbrev kcG (s:List UInt8):Wd:=⟨4,s,0⟩
abbrev kcI (n:Int):Wd:=⟨2,[],n⟩
abbrev YQ:Wd:=⟨0,[],0⟩
variable{u:Wd}
theorem akF(r:aI)(h:knB t=true)(ho:gJ bz u=false):fI 6 (t::u::r) (vN ⟨t.s.toArray⟩) (u::r):=
 acu (IJ h).2.2.2.2 (acv (Yv (IJ h).1 (IJ h).2.1 (IJ h).2.2.1 ho))
variable{n:Int}
theorem akG(r:aI):fI 6 (kcI n::r) (pG ⟨2,n,ByteArray.empty⟩) r:=
 acu rfl (acv (Yt rfl))
def YR (n:Int):Tr:=pG ⟨2,n,ByteArray.empty⟩
def OU:Tr:=nr 5 [vN ⟨#[97]⟩,nr 7 [YR 1,YR 2]]
def YS:Tr:=nr 4 [nr 18 [vN ⟨#[98]⟩]]
abbrev akH:aI:=[OT [98],OT lQ,OT bK,YQ]
abbrev akI:aI:=OT cu::OT [116]::OT dh::OT ei::akH
abbrev afa:aI:=OT [97]::kcG [43]::kcI 1::kcG [42]::kcI 2::OT lR::OT [120]::akI
theorem akJ:fI 0 afa OU (OT lR::OT [120]::akI):=
 ml 0 (.inl rfl) rfl (ml 1 (.inr (.inl rfl)) rfl (acs rfl (ake rfl rfl (Yw 4 (.inr (.inr (.inl rfl))) 5 Tab Tab rfl rfl (ml 5 (.inr (.inr (.inr rfl))) rfl (akF _ rfl rfl)) (Yw 5 (.inr (.inr (.inr rfl))) 7 Tab Tab rfl rfl (akG _) (akG _))))))
theorem apV:fI 0 (OT ei::akH) YS [YQ]:=
 ml 0 (.inl rfl) rfl (ml 1 (.inr (.inl rfl)) rfl (akl rfl (acs rfl (aki rfl rfl rfl (ml 4 (.inr (.inr (.inl rfl))) rfl (ml 5 (.inr (.inr (.inr rfl))) rfl (akF _ rfl rfl)))))))
def kcQ:Qu:= { items:=[(OU,⟨#[120]⟩)],aK:=⟨#[116]⟩,aR:=[YS] }
theorem afb:OS (OT cX::afa) kcQ [YQ]:=
 Yz rfl rfl (λ ρ w h=>aeS rfl rfl rfl akJ ρ w h) rfl rfl rfl rfl rfl rfl apV rfl rfl rfl rfl
theorem Z6 (w:World):Calls Tryz.prog 33 #[.string ⟨#[115,101,108,101,99,116,32,97,43,49,42,50,32,97,115,32,120,32,102,114,111,109,32,116,32,119,104,101,114,101,32,110,111,116,32,98,32,105,115,32,110,117,108,108]⟩] w (akA kcQ w):=by
 have hl:(match lY ([115,101,108,101,99,116,32,97,43,49,42,50,32,97,115,32,120,32,102,114,111,109,32,116,32,119,104,101,114,101,32,110,111,116,32,98,32,105,115,32,110,117,108,108]:List UInt8)with | .ok l=>l.map (·.w)| .error _=> [])=OT cX::afa:=by kernel_rfl
 cases e:lY ([115,101,108,101,99,116,32,97,43,49,42,50,32,97,115,32,120,32,102,114,111,109,32,116,32,119,104,101,114,101,32,110,111,116,32,98,32,105,115,32,110,117,108,108]:List UInt8)with
 | error x=>rw[e] at hl;cases hl
 | ok l=>rw[e] at hl;exact Z2 _ w Tab e hl rfl afb rfl Tab (by simp[II,kcQ,OU,YS,YR,St.exprs,Qu.exprs,nr,pG,vN,Tr.thin,Tr.ix,Tr.depth,Tr.ly])
end Go.Proofs.YtehhdlgjfdnafaaGreatDoor
