/- Parts of the proof. -/
import Derived.Test.YtehhdlgjfdnafaaGreatDoorXF32
namespace Go.Proofs.YtehhdlgjfdnafaaGreatDoor
variable{p:Prop}
set_option maxHeartbeats 90000000
set_option maxRecDepth 100000
open Go.Lib (hid)
open Go.ChangeShapes Go.WideShapes Go.ChangeAt Go.RowKit List
set_option linter.unusedVariables false
set_option linter.unusedSimpArgs false
variable{u:Wd}{r:aK}
theorem agn(hc:gV bt u=false)(n:Nat)(hn:n<=64)(ρ:bw)(w:World)(h:ρ.at w (.good (u::r)) false):
  Calls Tryz.prog 133 #[ρ.ptr,.int .i64 n] w λ e w'=>e=.returned (.bool false)/\iJ ρ w w' (.good (u::r)) false:=by have hh:(eu.good (u::r)).head bt=false:=hc;have:=Un ρ w _ false h n Taa;rw[hh,mj hh,show(false || decide (64 < n))=false by simp;omega] at this;exact this
def SlW (ρ:bw)(w:World)(l:List Tr)(r:aK)(e:Ending)(w':World):Prop:=∃y:Sl,e=.returned (fN y)/\fy.sl w' (eI w.heap.size w') y l/\iJ ρ w w' (.good r) false
variable{s:ByteArray}
theorem Pz(hs:ar s.data.toList r=false)(ρ:bw)(w:World)(h:ρ.at w (.good r) false):Calls Tryz.prog 135 #[ρ.ptr,.string s] w (SlW ρ w [] r):=by have hm:=iW ρ w _ false h s hs;clear hs;go_enter Tryz.func135,Tryz.ntmps135;go_wp2_with fail;refine hm.mono ?_;rintro e w1 ⟨rfl,d1⟩;go_wp2_with fail;go_ret;exact⟨Sl.nil,rfl,El.nT _ _ _,d1⟩
variable{l:aK}{x:Tr}
theorem LM{k:Wd}  (hs:gV s.data.toList k=true)(H:fO 0 l x r)(ρ:bw)(w:World)(h:ρ.at w (.good (k::l)) false):Calls Tryz.prog 135 #[ρ.ptr,.string s] w (SlW ρ w [x] r):=by have hm:=yt ρ w _ false h s hs;have br:=h.od;have HH:=hid H;clear hs H;go_enter Tryz.func135,Tryz.ntmps135;go_wp2_with fail;refine hm.mono ?_;rintro e w1 ⟨rfl,d1⟩;go_wp2_with fail;refine(HH.out ρ _ d1.at_).mono ?_;rintro e w2 ⟨y,rfl,ht,d2⟩;unfold eb aU;go_wp2_with fail;go_ret;have hs:=d1.size;exact⟨⟨some ⟨w2.heap.size,0,none⟩,1,1⟩,rfl,YL (av.new w2 _ _) ⟨by have:=d2.size;omega,by simp⟩ ((ht.later (aa w2 _)).more hs),(d1.trans d2).later (aa w2 (Gw y))⟩
variable{α:Type}
def ElW(E:El α)(val:E.β->Value)(ρ:bw)(W:World)(x:α)(r:aK)(e:Ending)(w':World):Prop:=∃y:E.β,e=.returned (val y)/\E.rel w' (eI W.heap.size w') x y/\iJ ρ W w' (.good r) false
theorem ago{k m:Wd} (hk:gV mA k=true)(hm1:m.k=1)(X6:kP m.s=false)(H:fO 0 l x (k::m::r))(ρ:bw)(w:World)(h:ρ.at w (.good l) false):Calls Tryz.prog 158 #[ρ.ptr] w (ElW kR itV ρ w (x,⟨m.s.toArray⟩) r):=by
 have HK:=hid hk;have HH:=hid H;have HNK:=hid hm1;have HNR:=hid X6;clear hk H hm1 X6;have br:=h.od;have hb:=aa w itZ;have h0:=h.later hb;have HQ:=hid (av.new w 51 #[.int .u8 0,.int .u8 0,.int .i64 0,.string ⟨#[]⟩,.string ⟨#[]⟩,.int .i64 0,.slice none 0 0,.string ⟨#[]⟩]);have hsz:(w.alloc itZ).heap.size=w.heap.size+1:=by simp
 unfold itZ at*;go_enter Tryz.func158,Tryz.ntmps158;go_wp2_with fail;refine(HH.out ρ _ h0).mono ?_;rintro e w2 ⟨y,rfl,ht,d2⟩;unfold eb aU;have hs2:=d2.size;go_wp2_with fail;have D3:=((iJ.aF h hb).trans d2).later (aa w2 (.cells (NA (y,⟨#[]⟩)).toArray 51));have HX:=av.new w2 51 (NA (y,⟨#[]⟩)).toArray;have nh:=(d2.blk HQ.out Taa).alloc (.cells (NA (y,⟨#[]⟩)).toArray 51);have ht3:=(ht.later (aa w2 (.cells (NA (y,⟨#[]⟩)).toArray 51))).more (B':=w.heap.size+1) Taa;have htx:=Tr.at_.keep (zC (.cells (NA (y,⟨#[]⟩)).toArray 51) (show w.heap.size+1<=_ by omega)) _ _ ht;have hs3:(w2.alloc (.cells (NA (y,⟨#[]⟩)).toArray 51)).heap.size=w2.heap.size+1:=by simp
 unfold NA aU at D3 HX nh ht3 htx hs3;simp only[cons_append,nil_append] at D3 HX nh ht3 htx hs3;generalize w2.alloc _=W3 at*;have hm:=yt ρ W3 _ false D3.at_ ⟨#[97,115]⟩ HK.out;clear h0 hb HQ ht d2;refine hm.mono ?_;rintro e w4 ⟨rfl,d4⟩;go_wp2_with fail;refine(Py HNK.out HNR.out ρ _ d4.at_).mono ?_;rintro e w5 ⟨n,hn,rfl,d5⟩;have HNN:=hid hn;clear hn;have hs4:=d4.size;have GG:=d5.blk (d4.blk HX Taa) Taa;have hx2:=HX.lt;have HX6:=GG.cJ 7 (.string n);simp only[setIfInBounds_toArray,set_cons_zero,set_cons_succ] at HX6;have hxf:=GG.frozen 7;have hxc:=GG.cell 7;have Fx:=(d5.blk (d4.blk nh Taa) Taa).far (p:=⟨w2.heap.size,7,none⟩) Tae (.string n);have D6:=((D3.trans d4).trans d5).far br (show w.heap.size<=w2.heap.size by omega) 7 (.string n);have HT6:=hid (Tr.at_.keep (kT (Nat.le_refl _)) _ _ (Tr.at_.keep (Ov 7 (.string n)) _ _ (Tr.at_.keep (je d5.grown Taa) _ _ (Tr.at_.keep (je d4.grown Taa) _ _ htx))));have Nz:=hid D6;have HQQ:=hid Fx;obtain⟨x0,x1,x2,x3,x4,x5,x6,x7⟩:=jH HX6;obtain⟨y0,y1,y2,y3,y4,y5,y6,y7⟩:=jH Fx;obtain⟨z0,z1,z2,z3,z4,z5,z6,z7⟩:=sj Fx;clear GG HX6 Fx HX nh ht3 D3 d4 hm d5 D6 hx2;go_wp2_with fail;have HP:=YM HQQ.out y (.string n);have HR:=jH HP;unfold Jo gX at HR;obtain⟨r0,r1,r2,r3,r4,r5,r6,r7⟩:=HR;refine bodyPost_ret (v:=itV (y,n)) ?_ rfl ?_
 ·simp[results,Tryz.results158,go_sem,r0,r1,r2,r3,r4,r5,r6,r7];rfl
 ·rw[<- HNN.out];exact⟨(y,n),rfl,⟨(HT6.out.Jo (Nat.lt_succ_self _) y (.string n)).more Taa,rfl⟩,Nz.out.Jo br (Nat.le_refl _) y (.string n)⟩
def quZ:Obj:=.cells #[.slice none 0 0,.string ⟨#[]⟩,.bool false,.slice none 0 0,.slice none 0 0,.slice none 0 0,.slice none 0 0,.slice none 0 0] 28
def Jv (w:World)(q:Nat)(m:mv):World:=(((((((w.setCell ⟨q,0,none⟩ (fN m.items)).setCell ⟨q,1,none⟩ (.string m.aP)).setCell ⟨q,2,none⟩ (.bool m.only)).setCell ⟨q,3,none⟩ (fN m.aS)).setCell ⟨q,4,none⟩ (fN m.group)).setCell ⟨q,5,none⟩ (fN m.having)).setCell ⟨q,6,none⟩ (fN m.order)).setCell ⟨q,7,none⟩ (fN m.aN)
variable{w:World}{q:Nat}{T:TypeId}{a b c e f g i:Value}
theorem Zt{d:Value}(h:av w q T #[a,b,c,d,e,f,g,i])(m:mv):av (Jv w q m) q T (kL m).toArray:=by have:=(((((((h.cJ 0 (fN m.items)).cJ 1 (.string m.aP)).cJ 2 (.bool m.only)).cJ 3 (fN m.aS)).cJ 4 (fN m.group)).cJ 5 (fN m.having)).cJ 6 (fN m.order)).cJ 7 (fN m.aN);exact Zdj
variable{ρ:bw}{W:World}{σ:eu}{big:Bool}
theorem iJ.Jv(h:iJ ρ W w σ big)(hW:ρ.g < W.heap.size)(hq:W.heap.size<=q)(m:mv):iJ ρ W (Jv w q m) σ big:=
 (((((((h.far hW hq 0 _).far hW hq 1 _).far hW hq 2 _).far hW hq 3 _).far hW hq 4 _).far hW hq 5 _).far hW hq 6 _).far hW hq 7 _
variable{B:Nat}{d:Qu}{m:mv}
theorem Qu.at_.Jv(h:d.at_ w (eI B w) m)(hq:q < B)(m':mv):d.at_ (Jv w q m') (eI B (Go.Proofs.YtehhdlgjfdnafaaGreatDoor.Jv w q m')) m:=by
 have s:=λ(w:World) (h:d.at_ w (eI B w) m) (i:Nat) (u:Value)=>Qu.at_.keep (pW (w:=w) hq i u) h
 exact s _ (s _ (s _ (s _ (s _ (s _ (s _ (s _ h 0 _) 1 _) 2 _) 3 _) 4 _) 5 _) 6 _) 7 _
section
variable {ρ:bw} {w wr w2:World} {big:Bool} {σ Gv:eu} {m:mv} {d:Qu}
end
structure X7 (ρ:bw) (w wr:World) (l:aK) (m:mv) (d:Qu):Prop where
 did:iJ ρ w wr (.good l) false
 blk:av wr (w.heap.size+1) 28 (kL m).toArray
 res:av wr w.heap.size 28 #[.slice none 0 0,.string ⟨#[]⟩,.bool false,.slice none 0 0,.slice none 0 0,.slice none 0 0,.slice none 0 0,.slice none 0 0]
 at_:d.at_ wr (eI (w.heap.size+2) wr) m
section
variable {ρ:bw} {w wr w2:World} {l r:aK} {m:mv} {d:Qu}
theorem X7.later (A:X7 ρ w wr l m d)(hb:Below wr.heap.size wr w2):X7 ρ w w2 l m d:=
 ⟨A.did.later hb,A.blk.later hb,A.res.later hb,Qu.at_.keep (eJ hb) A.at_⟩
theorem X7.Zu (A:X7 ρ w wr l m d)(hg:ρ.g < w.heap.size)(dd:iJ ρ wr w2 (.good r) false):X7 ρ w w2 r m d:=
 ⟨A.did.trans dd,dd.blk A.blk Taa,dd.blk A.res Taa,Qu.at_.keep (fe dd.grown Taa) A.at_⟩
theorem X7.set {m':mv} {d':Qu}(A:X7 ρ w wr l m d)(hg:ρ.g < w.heap.size)(i:Nat)(u:Value)(hb:(kL m').toArray=(kL m).toArray.setIfInBounds i u)(hat:Qu.at_ wr (eI (w.heap.size+2) wr) d' m'):X7 ρ w (wr.setCell ⟨w.heap.size+1,i,none⟩ u) l m' d':=by refine⟨A.did.far hg Taa i u,?_,A.res.far (p:=⟨w.heap.size+1,i,none⟩) Tad u,Qu.at_.keep (pW Taa i u) hat⟩;rw[hb];exact A.blk.cJ i u
end
def alG(x:α)(r:aK):Ps α:=λ _=> .ok (x,r)
structure PuA {α:Type} (E:El α) (T:TypeId) (ρ:bw) (w wr:World) (l:aK) (k:Nat) (v:Value) (acc:List α) (cs:List Value) (m:mv) (d:Qu):Prop where
 row:jK E T wr (w.heap.size+2) v acc
 did:iJ ρ w wr (.good l) false
 blk:av wr (w.heap.size+1) 28 cs.toArray
 res:av wr w.heap.size 28 #[.slice none 0 0,.string ⟨#[]⟩,.bool false,.slice none 0 0,.slice none 0 0,.slice none 0 0,.slice none 0 0,.slice none 0 0]
 at_:d.at_ wr (oz (w.heap.size+2) v wr) m
 cel:cs[k]?=some v
variable{E:El α}{wr w2:World}{k:Nat}{v:Value}{acc:List α}{cs:List Value}
theorem PuA.Zu(A:PuA E T ρ w wr l k v acc cs m d)(hg:ρ.g < w.heap.size)(dd:iJ ρ wr w2 (.good r) false):PuA E T ρ w w2 r k v acc cs m d:=
 ⟨A.row.grown dd.grown Taa,A.did.trans dd,dd.blk A.blk Taa,dd.blk A.res Taa,Qu.at_.keep (pz dd.grown Taa) A.at_,A.cel⟩
variable{m':mv}{d':Qu}
theorem PuA.done(A:PuA E T ρ w wr l k v acc cs m d)(hm:(kL m').toArray=cs.toArray)(hat:Qu.at_ wr (eI (w.heap.size+2) wr) d' m'):X7 ρ w wr l m' d':=
 ⟨A.did,hm▸A.blk,A.res,hat⟩
variable{val:E.β->Value}{z:Value}{bytes:Nat}{lv:Value}{Q:Exit->Act->World->Prop}{a0:Act}{rid:Nat}{o0 o1 o2 o3 o4 o5 o6 o7:Oper}{d0 d1 d2 d3 d4 d5 d6:Tmp}{F:FuncId}
theorem agq{x:α}           {q:Tmp} (t ty:TypeId)
  (A:PuA E T ρ w wr l k lv acc cs m d) (br:ρ.g < w.heap.size) (hn:acc.length<=64) (hby:bytes<=1000)
  (hc:∀w',ρ.at w' (.good l) false->Calls Tryz.prog F #[ρ.ptr] w' (ElW E val ρ w' x r))
  (aC:dn [o0,o1,o2,o3,o4,o5,o6] a0.tmps.size [o0,o1,o2,o3,o4,o5,o6] 0=true) (hz:dQ [o0,o1,o2,o3,o4,o5,o6,o7] [o7] 7=true) (hch:ml [o0,o1,o2,o3,o4,o5,o6] [3,4,5]=true) (tA:Dm o0 o1 o2 o3 o4 o5 o6 q d0 d1 d2 d3 d4 d5 d6=true)
  (hq:a0.eval (.tmp q)=.pointer (some ⟨w.heap.size+1,0,none⟩)) (h0:a0.eval (.tmp 0)=ρ.ptr)
  (hfa:∀ρ' w',ρ' (.tmp q)=.pointer (some ⟨w.heap.size+1,0,none⟩)->(execOp ρ' o0).run Tryz.prog w'=.ok (.value (.pointer (some ⟨w.heap.size+1,k,none⟩))) w')
  (YJ:∀ρ' w',ρ' (.tmp q)=.pointer (some ⟨w.heap.size+1,0,none⟩)->(execOp ρ' o6).run Tryz.prog w'=.ok (.value (.pointer (some ⟨w.heap.size+1,k,none⟩))) w')
  (Us:∀ρ' w',ρ' (.tmp d0)=.pointer (some ⟨w.heap.size+1,k,none⟩)->w'.cell? ⟨w.heap.size+1,k,none⟩=some lv->(execOp ρ' o1).run Tryz.prog w'=.ok (.value lv) w')
  (hmv:∀ρ' w',ρ' (.tmp 0)=ρ.ptr->(execOp ρ' o2).run Tryz.prog w'=.ok (.value ρ.ptr) w')
  (iq:∀ρ' w',cu ρ'->ρ' (.tmp d2)=ρ.ptr->(execOp ρ' o3).run Tryz.prog w'=.ok (.enter F #[ρ.ptr]) w')
  (hbs:∀ρ' w' y,ρ' (.tmp d3)=val y->(execOp ρ' o4).run Tryz.prog w'=.ok (.value (.slice (some ⟨w'.heap.size,0,none⟩) 1 1)) (w'.alloc (.cells (E.f y).toArray T)))
  (hap:∀ρ' w' s v' X5,ρ' (.tmp d1)=lv->ρ' (.tmp d4)=s->(Builtin.append_ #[t,t] ty #[lv,s]).run Tryz.prog w'=.ok v' X5->(execOp ρ' o5).run Tryz.prog w'=.ok (.value v') X5)
  (ht:Tryz.prog.underlying t=some (.slice T)) (nk:(Tryz.prog.info? T).map (λ i=>(i.zero,i.size,i.bytes))=some (some z,E.size,bytes)) (hzs:z.cells.size=E.size) (hsz:0 < E.size) (hf:∀x,(E.f x).length=E.size) (h1:∀y,∀u∈E.f y,u.oneCell'=true)
  (uf:∀y s v' W,PuA E T ρ w (W.setCell ⟨w.heap.size+1,k,none⟩ v') r k v' (acc++ [x]) (cs.set k v') m d->W.cell? ⟨w.heap.size+1,k,none⟩=some lv->W.frozen? ⟨w.heap.size+1,k,none⟩=false->
    wpList Tryz.prog [o0,o1,o2,o3,o4,o5,o6,o7].toArray Q [o7] (((((((a0.put (some d0) (.pointer (some ⟨w.heap.size+1,k,none⟩))).put (some d1) lv).put (some d2) ρ.ptr).put (some d3) (val y)).put (some d4) s).put (some d5) v').put (some d6) (.pointer (some ⟨w.heap.size+1,k,none⟩))) W):
  (Code.region rid [o0,o1,o2,o3,o4,o5,o6,o7].toArray true).wp Tryz.prog Q a0 wr:=by
 obtain⟨ys,ho,ha⟩:=A.row.has;have hyl:ys.length=acc.length:=ha.len;have how:=λ G hG=>A.row.Ju (G:=G) hG
 have hwr:=A.blk.lt;refine Jt (P:=Tryz.prog) (f:=E.f) (val:=val) (e:=T) (size:=E.size) (base:=w.heap.size+2) (l:=ys) (lv:=lv) (Post:=adM E (λ _=>false) ρ (alG x r) (.good l) false) (w0:=wr) (qb:=w.heap.size+1) (k:=k) (g:=ρ.g) (ptr:=ρ.ptr) (F:=F) (args:= #[ρ.ptr]) t ty z bytes Tac aC hz hch tA hq h0 hfa YJ Us hmv iq hbs hap ht nk hzs hsz hf h1 ho ((A.blk.cell k).trans (by simpa using A.cel)) Taa (λ e'=>by have:=(how _ e').1;omega) (λ e'=>by have:=(how _ e').1;omega) (Nat.le_trans (Nat.mul_le_mul (show _<=65 by omega) hby) Tab) Taa Taa ?_ ?_ ?_
 ·intro w' hw';refine(hc w' (A.did.at_.later hw')).mono ?_;rintro e w'' ⟨y,rfl,hx,hd⟩;exact⟨y,rfl,x,hx,by rw[Bool.or_false];exact hd,rfl⟩
 ·rintro y w' w'' ⟨x,hx,hd,hv⟩;exact hd.grown
 ·intro y s v' w4 w4' w5 W wb hp hl2 zP mm pN Xw YK;obtain⟨_,_,dd,_⟩:=id hp;have hs1:=wb.size;have hs2:=dd.size;have hs3:=hl2.size;obtain⟨x',hgr,hdd,hgv⟩:=PA (E:=E) (T:=T) (lng:=λ _=>false) (B:=w.heap.size+2) (acc:=acc) Taa br A.row Taa A.did wb hp hl2 mm ys pN ha Xw;obtain rfl:x'=x:=hgv;have X8:∀(q:Nat),q < w.heap.size+2->some q≠lv.ownBlock:=λ q hq e'=>by have:=(how q e'.symm).1;omega
  have HX:=(((A.blk.later wb).grown dd.grown Tae).later hl2).grown mm (X8 _ Taa);have HR:=(((A.res.later wb).grown dd.grown Tae).later hl2).grown mm (X8 _ Taa);have rN:=HX.cJ k v';simp only[setIfInBounds_toArray] at rN;refine uf y s v' W ⟨hgr.far Taa k v',by have:=hdd.far br (show w.heap.size<=w.heap.size+1 by omega) k v';rwa [Bool.or_false] at this,rN,HR.far (p:=⟨w.heap.size+1,k,none⟩) Tad v',Qu.at_.keep (ui (show w.heap.size+1 < w.heap.size+2 by omega) k v') (Qu.at_.keep (uh mm Xw) (Qu.at_.keep (fP hl2) (Qu.at_.keep (pz dd.grown Taa) (Qu.at_.keep (fP wb) A.at_)))),?_⟩ YK (HX.frozen k);have:=A.cel;rw[getElem?_set_self (by rcases Nat.lt_or_ge k cs.length with h | h;exact h;rw[getElem?_eq_none h] at this;cases this)]
variable{k0 kf nm kw:Wd}{l1:aK}{aS:Tr}
theorem zgr.KbX(h:p:=by
 clear hxf iq;generalize Jw:W.setCell ⟨w.heap.size+1,0,none⟩ (.slice A n c)=W4 at*;clear Jw;go_loopg [] 0 (λ k wr=>wr=W4);case atStart=>rfl
 case round=>
  subst hrel;have x0:=HI.out.blk.cell 0;simp only[Uaa] at x0;have hql:=HI.out.blk.lt;go_wp2_with fail;refine(Calls.mono (P:=Tryz.prog) (by rw[HN.out];exact agn HCF.out 1 Taa ρ wr HI.out.did.at_) ?_);rintro e w8 ⟨rfl,d8⟩;have hA:=HI.out.Zu br d8;obtain⟨X9,alK,hn8,adO⟩:=hA.row.sl (B':=w.heap.size+2) (Nat.le_refl _);clear hn8;have qF:=hid (hA.done (m':= { items:=X9 }) (d':= { items:=[x] }) (by rw[alK];rfl) { Qu.kV w8 _ with items:=adO });clear adO alK hA d8 HI x0 hql;have Fa:=qF.out.blk.lt;have bf:=aa w8 (.cells (aR [cD]) 9);have HQF:=hid (qF.out.later bf);clear qF;go_wp2_with fail;refine(Px HFR.out ρ _ HQF.out.did.at_ w8.heap.size (av.new _ _ _) Taa).mono ?_;rintro e w4 ⟨rfl,d4⟩;have ku:=hid (HQF.out.Zu br d4);clear HQF d4 bf;go_wp2_with fail;refine(iW ρ _ _ _ ku.out.did.at_ ⟨#[111,110,108,121]⟩ jN.out).mono ?_;rintro e w5 ⟨rfl,d5⟩;have hQ3:=ku.out.Zu br d5;have Fy:=hid (hQ3.set (m':= { items:=X9 }) (d':= { items:=[x] }) br 2 (.bool false) rfl hQ3.at_);have hf2:=hQ3.blk.frozen 2;have hc2:=hQ3.blk.cell 2;clear hQ3 d5 ku;go_wp2_with fail;clear hf2 hc2;generalize w5.setCell ⟨w.heap.size+1,2,none⟩ (.bool false)=W6 at*;refine(Py HNK.out HNR.out ρ _ Fy.out.did.at_).mono ?_;rintro e w6 ⟨aP,Zw,rfl,d6⟩;have HF:=hid Zw;clear Zw;have hQ5:=Fy.out.Zu br d6;have Fx:=hid (hQ5.set (m':= { items:=X9,aP:=aP }) (d':= { items:=[x],aP:=aP }) br 1 (.string aP) rfl { hQ5.at_ with aP:=rfl });have hf1:=hQ5.blk.frozen 1;have hc1:=hQ5.blk.cell 1
  clear hQ5 d6 Fy;go_wp2_with fail;clear hf1 hc1;generalize w6.setCell ⟨w.heap.size+1,1,none⟩ (.string aP)=W7 at*;refine(LM (s:=⟨#[119,104,101,114,101]⟩) HWK.out HWH.out ρ _ Fx.out.did.at_).mono ?_;rintro e w7 ⟨⟨swA,swn,swc⟩,rfl,hsw,d7⟩;have hs7:=Fx.out.did.size;have hq7:=Fx.out.blk.lt;have hQ7:=Fx.out.Zu br d7;have HQ8:=hid (hQ7.set (m':= { items:=X9,aP:=aP,aS:=⟨swA,swn,swc⟩}) (d':= { items:=[x],aP:=aP,aS:=[aS] }) br 3 (.slice swA swn swc) rfl { hQ7.at_ with aS:=El.lies.more hsw Taa});have hf3:=hQ7.blk.frozen 3;have hc3:=hQ7.blk.cell 3;clear hQ7 d7 hsw Fx;unfold fN at*;go_wp2_with fail;clear hf3 hc3;generalize w7.setCell ⟨w.heap.size+1,3,none⟩ (.slice swA swn swc)=W8 at*;refine(iW ρ _ _ _ HQ8.out.did.at_ ⟨#[103,114,111,117,112]⟩ HGR.out).mono ?_;rintro e w8' ⟨rfl,d8⟩;have Rz:=hid (HQ8.out.Zu br d8);clear d8 HQ8;go_wp2_with fail;refine(Pz (s:=⟨#[104,97,118,105,110,103]⟩) HHA.out ρ _ Rz.out.did.at_).mono ?_;rintro e w9 ⟨⟨shA,shn,shc⟩,aqQ,Tm,d9⟩;have Zx:=Rz.out.Zu br d9;have hs9:=Rz.out.did.size;have lH:=Rz.out.blk.lt;subst aqQ;have HQA:=hid (Zx.set (m':= { items:=X9,aP:=aP,aS:=⟨swA,swn,swc⟩,having:=⟨shA,shn,shc⟩}) (d':= { items:=[x],aP:=aP,aS:=[aS] }) br 5 (.slice shA shn shc) rfl { Zx.at_ with having:=El.lies.more Tm Taa});have hf5:=Zx.blk.frozen 5;have hc5:=Zx.blk.cell 5;clear Zx d9 Tm Rz;unfold fN;go_wp2_with fail;clear hf5 hc5;generalize w9.setCell ⟨w.heap.size+1,5,none⟩ (.slice shA shn shc)=W10 at*;refine(iW ρ _ _ _ HQA.out.did.at_ ⟨#[111,114,100,101,114]⟩ HOR.out).mono ?_
  rintro e xg ⟨rfl,d10⟩;have HQB:=hid (HQA.out.Zu br d10);clear d10 HQA;go_wp2_with fail;refine(iW ρ _ _ _ HQB.out.did.at_ ⟨#[108,105,109,105,116]⟩ HLI.out).mono ?_;rintro e GA ⟨rfl,d11⟩;have HS:=hid (HQB.out.Zu br d11);clear d11 HQB;obtain⟨x0,x1,x2,x3,x4,x5,x6,x7⟩:=jH HS.out.blk;obtain⟨z0,z1,z2,z3,z4,z5,z6,z7⟩:=sj HS.out.res;obtain⟨y0,y1,y2,y3,y4,y5,y6,y7⟩:=jH HS.out.res;unfold fN at x0 x3 x4 x5 x6 x7;go_wp2_with fail;have HP:=Zt HS.out.res { items:=X9,aP:=aP,aS:=⟨swA,swn,swc⟩,having:=⟨shA,shn,shc⟩};have HR:=jH HP;unfold Jv fN at HR;obtain⟨r0,r1,r2,r3,r4,r5,r6,r7⟩:=HR;refine bodyPost_ret (v:=IU { items:=X9,aP:=aP,aS:=⟨swA,swn,swc⟩,having:=⟨shA,shn,shc⟩}) ?_ rfl ?_
  ·simp[results,Tryz.results127,go_sem,r0,r1,r2,r3,r4,r5,r6,r7];rfl
  ·refine⟨{ items:=X9,aP:=aP,aS:=⟨swA,swn,swc⟩,having:=⟨shA,shn,shc⟩},rfl,?_,HS.out.did.Jv br (Nat.le_refl _) { items:=X9,aP:=aP,aS:=⟨swA,swn,swc⟩,having:=⟨shA,shn,shc⟩}⟩;rw[<- HF.out];exact Qu.at_.keep (ir Taa) (HS.out.at_.Jv Taa { items:=X9,aP:=aP,aS:=⟨swA,swn,swc⟩,having:=⟨shA,shn,shc⟩})):p:=h
theorem Zv{x:Tr×ByteArray} (hse:gV dw k0=true)(hst:ar fq l=false)(hit:∀(ρ:bw) (w:World),ρ.at w (.good l) false->Calls Tryz.prog 158 #[ρ.ptr] w (ElW kR itV ρ w x (kf::nm::kw::l1)))(Ul:gV cD kf=true)(hcf:gV bt kf=false)(hon:gV jD nm=false)(hnk:nm.k=1)(hnr:kP nm.s=false)(hwk:gV dB kw=true)(hwh:fO 0 l1 aS r)(hgr:ar iR r=false)(hha:ar nC r=false)(hor:ar iT r=false)(Fg:ar ju r=false)(ρ:bw)(w:World)(h:ρ.at w (.good (k0::l)) false):
  Calls Tryz.prog 127 #[ρ.ptr] w λ e w'=>∃y:mv,e=.returned (IU y)/\Qu.at_ w' (eI w.heap.size w') { items:=[x],aP:=⟨nm.s.toArray⟩,aS:=[aS] } y/\iJ ρ w w' (.good r) false:=by
 have br:=h.od;have HSE:=hid hse;have HST:=hid hst;have HFR:=hid Ul;have HCF:=hid hcf;have jN:=hid hon;have HNK:=hid hnk;have HNR:=hid hnr;have HWK:=hid hwk;have HWH:=hid hwh;have HGR:=hid hgr;have HHA:=hid hha;have HOR:=hid hor;have HLI:=hid Fg;have HI0:=hid hit;clear hse hst hit Ul hcf hon hnk hnr hwk hwh hgr hha hor Fg;have hb2:=af.then (af.then (aa w quZ) (aa _ quZ)) (aa _ (.cells (aR [dw]) 9));have h0:=h.later hb2;have HQ:=hid (((av.new w 28 #[.slice none 0 0,.string ⟨#[]⟩,.bool false,.slice none 0 0,.slice none 0 0,.slice none 0 0,.slice none 0 0,.slice none 0 0]).alloc quZ).alloc (.cells (aR [dw]) 9));have hL0:=av.new (w.alloc quZ) 28 #[.slice none 0 0,.string ⟨#[]⟩,.bool false,.slice none 0 0,.slice none 0 0,.slice none 0 0,.slice none 0 0,.slice none 0 0];rw[World.size_alloc] at hL0;have HL:=hid (hL0.alloc (.cells (aR [dw]) 9));have hS0:=av.new ((w.alloc quZ).alloc quZ) 9 (aR [dw]);rw[World.size_alloc,World.size_alloc] at hS0;clear hL0;unfold quZ at*;go_enter Tryz.func127,Tryz.ntmps127;go_wp2_with fail;refine(Px HSE.out ρ _ h0 (w.heap.size+2) hS0 Taa).mono ?_;rintro e w1 ⟨rfl,d1⟩;have HA:=hid (show PuA kR 51 ρ w w1 l 0 (.slice none 0 0) [] [.slice none 0 0,.string ⟨#[]⟩,.bool false,.slice none 0 0,.slice none 0 0,.slice none 0 0,.slice none 0 0,.slice none 0 0] {} {} from⟨jK.nil kR _ w1 _,(iJ.aF h hb2).trans d1,HL.out.grown d1.grown Tae,HQ.out.grown d1.grown Tae,Qu.kV _ _,rfl⟩);clear HL HQ hS0 h0 d1 hb2;go_wp2_with fail;refine(iW ρ w1 _ _ HA.out.did.at_ ⟨#[42]⟩ HST.out).mono ?_
 rintro e w3 ⟨rfl,d3⟩;have nK:=hid (HA.out.Zu br d3);clear d3 HA;go_wp2_with fail;refine agq (E:=kR) (val:=itV) (T:=51) (q:=3) (d0:=10) (d1:=11) (d2:=12) (d3:=13) (d4:=14) (d5:=15) (d6:=16) (F:=158) 23 23 nK.out br Tad Taa (λ w' hw=>HI0.out ρ w' hw) Tac Tac Tac Tac rfl rfl ?_ ?_ ?_ ?_ ?_ ?_ ?_ Tryz.underlying23 zW rfl Tab (λ _=>rfl) (by intro y u hu;replace hu:u∈NA y:=hu;simp[NA,aU] at hu;rcases hu with rfl | rfl | rfl | rfl | rfl | rfl | rfl | rfl <;> rfl) ?_
 ·exact ZcJ
 ·exact ZcJ
 ·exact ZcP
 ·exact ZcJ
 ·exact Zdc
 ·intro ρ' w' y' h';show _=Result.ok _ (w'.alloc (.cells (NA y').toArray _));simp[go_sem,h',itV,NA,aU]
 ·intro ρ' w' s' v' X5 rQ oH tE;exact Za7
 intro y s v' W A4 iq hxf;obtain⟨⟨A,n,c⟩,ki,hsn,_⟩:=A4.row.sl (B':=w.heap.size) Taa;replace ki:v'=.slice A n c:=ki;replace hsn:n=1:=hsn;subst ki;have HI:=hid (show PuA kR 51 ρ w (W.setCell ⟨w.heap.size+1,0,none⟩ (.slice A n c)) (kf::nm::kw::l1) 0 (.slice A n c) [x] [.slice A n c,.string ⟨#[]⟩,.bool false,.slice none 0 0,.slice none 0 0,.slice none 0 0,.slice none 0 0,.slice none 0 0] {} {} from A4);have HN:=hid hsn;clear A4 hsn HI0 nK;open zgr in exact Zef
def Xj:Obj:=.cells #[.int .u8 0,.string ⟨#[]⟩,.slice none 0 0,.string ⟨#[]⟩,.int .i64 0,.string ⟨#[]⟩,.int .i64 0,.slice none 0 0,.string ⟨#[]⟩,.bool false,.slice none 0 0,.slice none 0 0,.slice none 0 0,.slice none 0 0,.slice none 0 0,.int .u8 0,.string ⟨#[]⟩,.int .i64 0,.int .i64 0,.slice none 0 0,.slice none 0 0,.slice none 0 0,.int .u8 0,.int .i64 0,.string ⟨#[]⟩,.int .u8 0,.int .i64 0,.string ⟨#[]⟩] 34
def Y0:Array Value:=(cd {}).toArray
section
variable {ρ:bw} {w wr w2:World} {big:Bool} {P:Ps St} {σ Gv:eu} {q b:Nat} {m:gT} {d:St}
end
variable{W2 Ws w3:World}{qx:Nat}{t' t2:Tr}{y' v2:Ex}{l0:aK}{bi:Int}
theorem Xi.goes(br:ρ.g < w.heap.size)(Fa:q=w.heap.size)(hqq:q+1<=qx)(A:Xi ρ w q qx wr l0 t' y')(hW:Below wr.heap.size wr W2)(hst:iJ ρ W2 Ws (.good l) false)(d2:iJ ρ Ws w3 (.good r) false)
  (Ry:t2.at_ w3 (eI Ws.heap.size w3) v2):
  Xi ρ w q qx (gX ((w3.alloc (Gw v2)).alloc (Fs y' v2)) qx (tR bi (w3.heap.size+1) 2)) r (lO bi [t',t2]) (tR bi (w3.heap.size+1) 2):=by
 have hz1:=d2.size;have hz2:=hst.size;have hz3:=hW.size;have hqb:=A.blk.lt;have xU:Below w3.heap.size w3 ((w3.alloc (Gw v2)).alloc (Fs y' v2)):=af.then (aa w3 _) (aa _ _);have hsz:((w3.alloc (Gw v2)).alloc (Fs y' v2)).heap.size=w3.heap.size+2:=by simp
 have hN:av ((w3.alloc (Gw v2)).alloc (Fs y' v2)) (w3.heap.size+1) 36 (aU y'++aU v2).toArray:=by have:=av.new (w3.alloc (Gw v2)) 36 (aU y'++aU v2).toArray;rw[World.size_alloc] at this;exact this
 have hX:av ((w3.alloc (Gw v2)).alloc (Fs y' v2)) qx 36 (aU y').toArray:=(((A.blk.later hW).grown hst.grown Tae).grown d2.grown Tae).later xU;have hR:av ((w3.alloc (Gw v2)).alloc (Fs y' v2)) q 36 _:=(((A.res.later hW).grown hst.grown Tae).grown d2.grown Tae).later xU;have hD:iJ ρ w ((w3.alloc (Gw v2)).alloc (Fs y' v2)) (.good r) false:=(((A.did.later hW).trans hst).trans d2).later xU
 have hT:(lO bi [t',t2]).at_ ((w3.alloc (Gw v2)).alloc (Fs y' v2)) (Bx (q+1) qx ((w3.alloc (Gw v2)).alloc (Fs y' v2))) (tR bi (w3.heap.size+1) 2):=by
  refine Ow bi hN ⟨by omega,by omega,by omega⟩ ?_ ?_
  ·exact Tr.at_.keep (iu xU) _ _ (Tr.at_.keep (je d2.grown Taa) _ _ (Tr.at_.keep (je hst.grown Taa) _ _ (Tr.at_.keep (iu hW) _ _ A.tr)))
  ·exact Tr.at_.keep (QU Taa Taa) _ _ (Ry.later xU)
 generalize (w3.alloc (Gw v2)).alloc (Fs y' v2)=W5 at*;exact⟨hD.gX br Taa _,iz hX _,Up hR Taa _,Tr.at_.keep (ads (S:=λ w=>Bx (q+1) qx w) (λ w i u=>Ov i u) _) _ _ hT⟩
variable{l2:aK}{o:Wd}{t:Tr}
theorem za0.Kaf(h:p:=by
 obtain⟨hb1,hb2,hb3⟩:=HB0.out;have e0:(bi==0)=false:=by rw[beq_eq_false_iff_ne];omega
 have qE:=HA.out.did.at_.later hW;obtain⟨q0,q1,q2,q3,f1,f2,f3⟩:=qE.facts;have e1:=wX.out;have hst:=bw.at.step qE HK0.out;have Ob:l2.length+1<=ρ.n:=by have:=qE.left;have e2:(eu.good (tk.w::l2)).left=l2.length+1:=rfl;omega
 clear qE q0 q2 q3 f2 f3;go_wp2_with (first
  |(go_at_call 163;refine(HH2.out ρ _ hst.at_).mono ?_;rintro e w3 ⟨v2,rfl,Ry,d2⟩;unfold eb aU;have hz1:=d2.size;have hz2:=hst.size;have hz3:=hW.size;have B0:=((HA.out.blk.later hW).grown hst.grown Tae).grown d2.grown Tae;have B1:=B0.alloc (.cells #[.int .u8 v2.op,.int .u8 v2.v.k,.int .i64 v2.v.n,.string v2.v.s,.string v2.name,.int .i64 v2.width,.slice v2.A v2.n v2.c] 36);have B2:=B1.alloc (.cells #[.int .u8 y.op,.int .u8 y.v.k,.int .i64 y.v.n,.string y.v.s,.string y.name,.int .i64 y.width,.slice y.A y.n y.c,.int .u8 v2.op,.int .u8 v2.v.k,.int .i64 v2.v.n,.string v2.v.s,.string v2.name,.int .i64 v2.width,.slice v2.A v2.n v2.c] 36);have N1:=av.new w3 36 (aU v2).toArray;have X1:=eE B1;have X2:=eE B2;have X3:=iy B2;have X4:=eE N1;unfold aU at X4;obtain⟨x0,x1,x2,x3,x4,x5,x6⟩:=X1;obtain⟨y0,y1,y2,y3,y4,y5,y6⟩:=X2;obtain⟨z0,z1,z2,z3,z4,z5,z6⟩:=X3;obtain⟨a0,a1,a2,a3,a4,a5,a6⟩:=X4;have vT:=hid B2;clear B0 B1 B2 N1))
 go_roundg 0;case measure=>have:=HK1.out;omega
 case rel=>exact .inr ⟨_,rfl,Xi.goes br rfl Kz HA.out hW hst d2 Ry⟩):p:=h
theorem zgD.Kb1(h:p:=by
 have HP:=iz eH.out y';have HR:=eE HP;unfold gX at HR;obtain⟨r0,r1,r2,r3,r4,r5,r6⟩:=HR;refine bodyPost_ret (v:=eb y') Zca rfl ?_
 ·exact Zf9):p:=h
theorem za1.Kaf(h:p:=by open zgD in exact Zel):p:=h
theorem zfi.Kbt(h:p:=by
 have e1:(ρ.n:Int) - (eu.good (tk.w::l2)).left+1=(ρ.n:Int) - l2.length:=by simp only[eu.left,length_cons];omega
 have wX:=hid e1;clear hpl hg fG BH hp hr2 e1;rw[Zn.out] at Zo;open za0 in exact Zai):p:=h
theorem zfj.Kbt(h:p:=by
 have e1:(ρ.n:Int) - (eu.good (tk.w::r)).left+1=(ρ.n:Int) - r.length:=by simp only[eu.left,length_cons];omega
 have wX:=hid e1;clear hpl hg fG BH hp hr2 e1;rw[HOU.out] at Zo;open za1 in exact Zai):p:=h
theorem zgp.KbW(h:p:=by
 have HBZ:=hid (λ tk=>Dl lv z hz Taa tk);have Zn:=hid hop;have HOU:=hid hou;have HB0:=hid hb0;have HK0:=hid Jc;have HH:=hid H;have HH2:=hid H2;clear hlv hz hop hou hb0 Jc H H2;unfold xB at*;unfold bw.ptr;go_enter Tryz.func163,Tryz.ntmps163;go_wp2_with (first
  |(go_at_call 163;refine(HH.out ρ _ h0).mono ?_;rintro e w2 ⟨y,rfl,ht,d2⟩;unfold eb aU))
 have hA:Xi ρ w w.heap.size w2.heap.size (w2.alloc (.cells #[.int .u8 y.op,.int .u8 y.v.k,.int .i64 y.v.n,.string y.v.s,.string y.name,.int .i64 y.width,.slice y.A y.n y.c] 36)) _ t y:=
  ⟨((iJ.aF h hb).trans d2).later (aa _ _),av.new w2 _ _,(d2.blk HQ.out Taa).alloc _,Tr.at_.keep (zC _ (by rw[hsz];exact Nat.le_refl _)) _ _ ht⟩
 have Kz:w.heap.size+1<=w2.heap.size:=by have:=d2.size;omega
 generalize w2.alloc _=W at*;generalize w2.heap.size=qx at*;have HA:=hid hA;clear hA ht d2 h0 hb HQ;go_loopg [] 1 (λ k wr=>(k=1/\Xi ρ w w.heap.size qx wr (o::l2) t y)\/∃y',k=0/\Xi ρ w w.heap.size qx wr (u::r) (lO bi [t,t2]) y');case atStart=>exact .inl ⟨rfl,HA.out⟩
 case round=>
  rcases hrel with ⟨BR,hA'⟩|⟨y',BR,hA'⟩
  ·have HK1:=hid BR;open zfi in exact ZcN
  ·open zfj in exact ZcN):p:=h
theorem zcr.Kav(h:p:=by open zgp in exact Zec):p:=h
theorem Zs(lv:Nat)(hlv:lv=0\/lv=1\/lv=4\/lv=5)   (bi:Int)(hb0:bi≠0/\0<=bi/\bi < 256)(Jc:o.k≠0)(hop:yr lv o=bi)(hou:yr lv u=0)(H:fO ((lv:Int)+1) l t (o::l2))(H2:fO ((lv:Int)+1) l2 t2 (u::r)):fO lv l (lO bi [t,t2]) (u::r):=by intro ρ w h;obtain⟨z,hz⟩:∃z:Int,z=lv:=⟨_,rfl⟩;rw[<- hz] at H H2 ⊢;have br:=h.od;have hb:=aa w xB;have h0:=h.later hb;open zcr in exact ZaO
end Go.Proofs.YtehhdlgjfdnafaaGreatDoor
