/- Parts of the proof. -/
import Derived.Test.YtehhdlgjfdnafaaGreatDoorXE18
namespace Go.Proofs.YtehhdlgjfdnafaaGreatDoor
variable{p:Prop}
set_option maxHeartbeats 90000000
set_option maxRecDepth 100000
open Go.Lib (hid)
open Go.ChangeShapes Go.WideShapes Go.ChangeAt Go.RowKit List
set_option linter.unusedVariables false
set_option linter.unusedSimpArgs false
variable{u:Wd}{r:aF}
theorem V6(hc:fW bg u=false)(n:Nat)(hn:n<=64)(ρ:bj)(w:World)(h:ρ.at w (.good (u::r)) false):
  Calls Tryz.prog 133 #[ρ.ptr,.int .i64 n] w λ e w'=>e=.returned (.bool false)/\gP ρ w w' (.good (u::r)) false:=by have hh:(dO.good (u::r)).head bg=false:=hc;have:=Pb ρ w _ false h n Taa;rw[hh,kA hh,show(false || decide (64 < n))=false by simp;omega] at this;exact this
def SlW (ρ:bj)(w:World)(l:List Tr)(r:aF)(e:Ending)(w':World):Prop:=∃y:Sl,e=.returned (eU y)/\eJ.sl w' (ep w.heap.size w') y l/\gP ρ w w' (.good r) false
variable{s:ByteArray}
theorem Lp(hs:ar s.data.toList r=false)(ρ:bj)(w:World)(h:ρ.at w (.good r) false):Calls Tryz.prog 135 #[ρ.ptr,.string s] w (SlW ρ w [] r):=by have hm:=gY ρ w _ false h s hs;clear hs;go_enter Tryz.func135,Tryz.ntmps135;go_wp2_with fail;refine hm.mono ?_;rintro e w1 ⟨rfl,d1⟩;go_wp2_with fail;go_ret;exact⟨Sl.nil,rfl,El.kV _ _ _,d1⟩
variable{l:aF}{x:Tr}
theorem Ip{k:Wd}  (hs:fW s.data.toList k=true)(H:fk 0 l x r)(ρ:bj)(w:World)(h:ρ.at w (.good (k::l)) false):Calls Tryz.prog 135 #[ρ.ptr,.string s] w (SlW ρ w [x] r):=by have hm:=vN ρ w _ false h s hs;have aZ:=h.mE;have HH:=hid H;clear hs H;go_enter Tryz.func135,Tryz.ntmps135;go_wp2_with fail;refine hm.mono ?_;rintro e w1 ⟨rfl,d1⟩;go_wp2_with fail;refine(HH.out ρ _ d1.at_).mono ?_;rintro e w2 ⟨y,rfl,ht,d2⟩;unfold dA aL;go_wp2_with fail;go_ret;have hs:=d1.size;exact⟨⟨some ⟨w2.heap.size,0,none⟩,1,1⟩,rfl,Tk (av.new w2 _ _) ⟨by have:=d2.size;omega,by simp⟩ ((ht.later (aa w2 _)).more hs),(d1.trans d2).later (aa w2 (Ds y))⟩
variable{α:Type}
def ElW(E:El α)(val:E.β->Value)(ρ:bj)(W:World)(x:α)(r:aF)(e:Ending)(w':World):Prop:=∃y:E.β,e=.returned (val y)/\E.rel w' (ep W.heap.size w') x y/\gP ρ W w' (.good r) false
theorem V7{k m:Wd} (hk:fW lZ k=true)(V5:m.k=1)(Wo:jT m.s=false)(H:fk 0 l x (k::m::r))(ρ:bj)(w:World)(h:ρ.at w (.good l) false):Calls Tryz.prog 158 #[ρ.ptr] w (ElW iP itV ρ w (x,⟨m.s.toArray⟩) r):=by
 have HK:=hid hk;have HH:=hid H;have HNK:=hid V5;have HNR:=hid Wo;clear hk H V5 Wo;have aZ:=h.mE;have hb:=aa w itZ;have h0:=h.later hb;have HQ:=hid (av.new w 51 #[.int .u8 0,.int .u8 0,.int .i64 0,.string ⟨#[]⟩,.string ⟨#[]⟩,.int .i64 0,.slice none 0 0,.string ⟨#[]⟩]);have hsz:(w.alloc itZ).heap.size=w.heap.size+1:=by simp
 unfold itZ at*;go_enter Tryz.func158,Tryz.ntmps158;go_wp2_with fail;refine(HH.out ρ _ h0).mono ?_;rintro e w2 ⟨y,rfl,ht,d2⟩;unfold dA aL;have hs2:=d2.size;go_wp2_with fail;have D3:=((gP.aA h hb).trans d2).later (aa w2 (.cells (Cp (y,⟨#[]⟩)).toArray 51));have HX:=av.new w2 51 (Cp (y,⟨#[]⟩)).toArray;have lL:=(d2.blk HQ.out Taa).alloc (.cells (Cp (y,⟨#[]⟩)).toArray 51);have ht3:=(ht.later (aa w2 (.cells (Cp (y,⟨#[]⟩)).toArray 51))).more (B':=w.heap.size+1) Taa;have htx:=Tr.at_.keep (wI (.cells (Cp (y,⟨#[]⟩)).toArray 51) (show w.heap.size+1<=_ by omega)) _ _ ht;have hs3:(w2.alloc (.cells (Cp (y,⟨#[]⟩)).toArray 51)).heap.size=w2.heap.size+1:=by simp
 unfold Cp aL at D3 HX lL ht3 htx hs3;simp only[cons_append,nil_append] at D3 HX lL ht3 htx hs3;generalize w2.alloc _=W3 at*;have hm:=vN ρ W3 _ false D3.at_ ⟨#[97,115]⟩ HK.out;clear h0 hb HQ ht d2;refine hm.mono ?_;rintro e w4 ⟨rfl,d4⟩;go_wp2_with fail;refine(Ln HNK.out HNR.out ρ _ d4.at_).mono ?_;rintro e w5 ⟨n,hn,rfl,d5⟩;have ZN:=hid hn;clear hn;have ZV:=d4.size;have zj:=d5.blk (d4.blk HX Taa) Taa;have hx2:=HX.lt;have XR:=zj.cr 7 (.string n);simp only[setIfInBounds_toArray,set_cons_zero,set_cons_succ] at XR;have hxf:=zj.frozen 7;have hxc:=zj.cell 7;have Cs:=(d5.blk (d4.blk lL Taa) Taa).far (p:=⟨w2.heap.size,7,none⟩) Tad (.string n);have D6:=((D3.trans d4).trans d5).far aZ (show w.heap.size<=w2.heap.size by omega) 7 (.string n);have HT6:=hid (Tr.at_.keep (jF (Nat.le_refl _)) _ _ (Tr.at_.keep (Ka 7 (.string n)) _ _ (Tr.at_.keep (ik d5.grown Taa) _ _ (Tr.at_.keep (ik d4.grown Taa) _ _ htx))));have Jz:=hid D6;have HQQ:=hid Cs;obtain⟨x0,x1,x2,x3,x4,x5,x6,x7⟩:=iU XR;obtain⟨y0,y1,y2,y3,y4,y5,y6,y7⟩:=iU Cs;obtain⟨z0,z1,z2,z3,z4,z5,z6,z7⟩:=qC Cs;clear zj XR Cs HX lL ht3 D3 d4 hm d5 D6 hx2;go_wp2_with fail;have HP:=Tm HQQ.out y (.string n);have HR:=iU HP;unfold Fh fZ at HR;obtain⟨r0,r1,r2,r3,r4,r5,r6,r7⟩:=HR;refine bodyPost_ret (v:=itV (y,n)) ?_ rfl ?_
 ·simp[results,Tryz.results158,go_sem,r0,r1,r2,r3,r4,r5,r6,r7];rfl
 ·rw[<- ZN.out];exact⟨(y,n),rfl,⟨(HT6.out.Fh (Nat.lt_succ_self _) y (.string n)).more Taa,rfl⟩,Jz.out.Fh aZ (Nat.le_refl _) y (.string n)⟩
def V8:Obj:=.cells #[.slice none 0 0,.string ⟨#[]⟩,.bool false,.slice none 0 0,.slice none 0 0,.slice none 0 0,.slice none 0 0,.slice none 0 0] 28
def Fx (w:World)(q:Nat)(m:kM):World:=(((((((w.setCell ⟨q,0,none⟩ (eU m.items)).setCell ⟨q,1,none⟩ (.string m.aN)).setCell ⟨q,2,none⟩ (.bool m.only)).setCell ⟨q,3,none⟩ (eU m.aP)).setCell ⟨q,4,none⟩ (eU m.group)).setCell ⟨q,5,none⟩ (eU m.having)).setCell ⟨q,6,none⟩ (eU m.order)).setCell ⟨q,7,none⟩ (eU m.aQ)
variable{w:World}{q:Nat}{T:TypeId}{a b c e f g i:Value}
theorem Uc{d:Value}(h:av w q T #[a,b,c,d,e,f,g,i])(m:kM):av (Fx w q m) q T (jE m).toArray:=by have:=(((((((h.cr 0 (eU m.items)).cr 1 (.string m.aN)).cr 2 (.bool m.only)).cr 3 (eU m.aP)).cr 4 (eU m.group)).cr 5 (eU m.having)).cr 6 (eU m.order)).cr 7 (eU m.aQ);exact Zdf
variable{ρ:bj}{W:World}{σ:dO}{big:Bool}
theorem gP.Fx(h:gP ρ W w σ big)(hW:ρ.g < W.heap.size)(hq:W.heap.size<=q)(m:kM):gP ρ W (Fx w q m) σ big:=
 (((((((h.far hW hq 0 _).far hW hq 1 _).far hW hq 2 _).far hW hq 3 _).far hW hq 4 _).far hW hq 5 _).far hW hq 6 _).far hW hq 7 _
variable{B:Nat}{d:Qu}{m:kM}
theorem Qu.at_.Fx(h:d.at_ w (ep B w) m)(hq:q < B)(m':kM):d.at_ (Fx w q m') (ep B (Go.Proofs.YtehhdlgjfdnafaaGreatDoor.Fx w q m')) m:=by
 have s:=λ(w:World) (h:d.at_ w (ep B w) m) (i:Nat) (u:Value)=>Qu.at_.keep (ot (w:=w) hq i u) h
 exact s _ (s _ (s _ (s _ (s _ (s _ (s _ (s _ h 0 _) 1 _) 2 _) 3 _) 4 _) 5 _) 6 _) 7 _
section
variable {ρ:bj} {w wr w2:World} {big:Bool} {σ Dr:dO} {m:kM} {d:Qu}
end
structure Wp (ρ:bj) (w wr:World) (l:aF) (m:kM) (d:Qu):Prop where
 did:gP ρ w wr (.good l) false
 blk:av wr (w.heap.size+1) 28 (jE m).toArray
 res:av wr w.heap.size 28 #[.slice none 0 0,.string ⟨#[]⟩,.bool false,.slice none 0 0,.slice none 0 0,.slice none 0 0,.slice none 0 0,.slice none 0 0]
 at_:d.at_ wr (ep (w.heap.size+2) wr) m
section
variable {ρ:bj} {w wr w2:World} {l r:aF} {m:kM} {d:Qu}
theorem Wp.later (A:Wp ρ w wr l m d)(hb:Below wr.heap.size wr w2):Wp ρ w w2 l m d:=
 ⟨A.did.later hb,A.blk.later hb,A.res.later hb,Qu.at_.keep (fE hb) A.at_⟩
theorem Wp.Ud (A:Wp ρ w wr l m d)(hg:ρ.g < w.heap.size)(dd:gP ρ wr w2 (.good r) false):Wp ρ w w2 r m d:=
 ⟨A.did.trans dd,dd.blk A.blk Taa,dd.blk A.res Taa,Qu.at_.keep (eF dd.grown Taa) A.at_⟩
theorem Wp.set {m':kM} {d':Qu}(A:Wp ρ w wr l m d)(hg:ρ.g < w.heap.size)(i:Nat)(u:Value)(hb:(jE m').toArray=(jE m).toArray.setIfInBounds i u)(hat:Qu.at_ wr (ep (w.heap.size+2) wr) d' m'):Wp ρ w (wr.setCell ⟨w.heap.size+1,i,none⟩ u) l m' d':=by refine⟨A.did.far hg Taa i u,?_,A.res.far (p:=⟨w.heap.size+1,i,none⟩) Tae u,Qu.at_.keep (ot Taa i u) hat⟩;rw[hb];exact A.blk.cr i u
end
def aey(x:α)(r:aF):Ps α:=λ _=> .ok (x,r)
structure XT {α:Type} (E:El α) (T:TypeId) (ρ:bj) (w wr:World) (l:aF) (k:Nat) (v:Value) (acc:List α) (cs:List Value) (m:kM) (d:Qu):Prop where
 row:iX E T wr (w.heap.size+2) v acc
 did:gP ρ w wr (.good l) false
 blk:av wr (w.heap.size+1) 28 cs.toArray
 res:av wr w.heap.size 28 #[.slice none 0 0,.string ⟨#[]⟩,.bool false,.slice none 0 0,.slice none 0 0,.slice none 0 0,.slice none 0 0,.slice none 0 0]
 at_:d.at_ wr (mQ (w.heap.size+2) v wr) m
 cel:cs[k]?=some v
variable{E:El α}{wr w2:World}{k:Nat}{v:Value}{acc:List α}{cs:List Value}
theorem XT.Ud(A:XT E T ρ w wr l k v acc cs m d)(hg:ρ.g < w.heap.size)(dd:gP ρ wr w2 (.good r) false):XT E T ρ w w2 r k v acc cs m d:=
 ⟨A.row.grown dd.grown Taa,A.did.trans dd,dd.blk A.blk Taa,dd.blk A.res Taa,Qu.at_.keep (nO dd.grown Taa) A.at_,A.cel⟩
variable{m':kM}{d':Qu}
theorem XT.done(A:XT E T ρ w wr l k v acc cs m d)(hm:(jE m').toArray=cs.toArray)(hat:Qu.at_ wr (ep (w.heap.size+2) wr) d' m'):Wp ρ w wr l m' d':=
 ⟨A.did,hm▸A.blk,A.res,hat⟩
variable{val:E.β->Value}{z:Value}{bytes:Nat}{lv:Value}{Q:Exit->Act->World->Prop}{a0:Act}{rid:Nat}{o0 o1 o2 o3 o4 o5 o6 o7:Oper}{d0 d1 d2 d3 d4 d5 d6:Tmp}{F:FuncId}
theorem V9{x:α}           {q:Tmp} (t ty:TypeId)
  (A:XT E T ρ w wr l k lv acc cs m d) (aZ:ρ.g < w.heap.size) (hn:acc.length<=64) (hby:bytes<=1000)
  (hc:∀w',ρ.at w' (.good l) false->Calls Tryz.prog F #[ρ.ptr] w' (ElW E val ρ w' x r))
  (ay:cM [o0,o1,o2,o3,o4,o5,o6] a0.tmps.size [o0,o1,o2,o3,o4,o5,o6] 0=true) (hz:dw [o0,o1,o2,o3,o4,o5,o6,o7] [o7] 7=true) (hch:kB [o0,o1,o2,o3,o4,o5,o6] [3,4,5]=true) (rf:AH o0 o1 o2 o3 o4 o5 o6 q d0 d1 d2 d3 d4 d5 d6=true)
  (hq:a0.eval (.tmp q)=.pointer (some ⟨w.heap.size+1,0,none⟩)) (h0:a0.eval (.tmp 0)=ρ.ptr)
  (Xx:∀ρ' w',ρ' (.tmp q)=.pointer (some ⟨w.heap.size+1,0,none⟩)->(execOp ρ' o0).run Tryz.prog w'=.ok (.value (.pointer (some ⟨w.heap.size+1,k,none⟩))) w')
  (Ti:∀ρ' w',ρ' (.tmp q)=.pointer (some ⟨w.heap.size+1,0,none⟩)->(execOp ρ' o6).run Tryz.prog w'=.ok (.value (.pointer (some ⟨w.heap.size+1,k,none⟩))) w')
  (Pj:∀ρ' w',ρ' (.tmp d0)=.pointer (some ⟨w.heap.size+1,k,none⟩)->w'.cell? ⟨w.heap.size+1,k,none⟩=some lv->(execOp ρ' o1).run Tryz.prog w'=.ok (.value lv) w')
  (Q5:∀ρ' w',ρ' (.tmp 0)=ρ.ptr->(execOp ρ' o2).run Tryz.prog w'=.ok (.value ρ.ptr) w')
  (gw:∀ρ' w',bP ρ'->ρ' (.tmp d2)=ρ.ptr->(execOp ρ' o3).run Tryz.prog w'=.ok (.enter F #[ρ.ptr]) w')
  (hbs:∀ρ' w' y,ρ' (.tmp d3)=val y->(execOp ρ' o4).run Tryz.prog w'=.ok (.value (.slice (some ⟨w'.heap.size,0,none⟩) 1 1)) (w'.alloc (.cells (E.f y).toArray T)))
  (hap:∀ρ' w' s v' We,ρ' (.tmp d1)=lv->ρ' (.tmp d4)=s->(Builtin.append_ #[t,t] ty #[lv,s]).run Tryz.prog w'=.ok v' We->(execOp ρ' o5).run Tryz.prog w'=.ok (.value v') We)
  (ht:Tryz.prog.underlying t=some (.slice T)) (lO:(Tryz.prog.info? T).map (λ i=>(i.zero,i.size,i.bytes))=some (some z,E.size,bytes)) (hzs:z.cells.size=E.size) (hsz:0 < E.size) (hf:∀x,(E.f x).length=E.size) (h1:∀y,∀u∈E.f y,u.oneCell'=true)
  (rZ:∀y s v' W,XT E T ρ w (W.setCell ⟨w.heap.size+1,k,none⟩ v') r k v' (acc++ [x]) (cs.set k v') m d->W.cell? ⟨w.heap.size+1,k,none⟩=some lv->W.frozen? ⟨w.heap.size+1,k,none⟩=false->
    wpList Tryz.prog [o0,o1,o2,o3,o4,o5,o6,o7].toArray Q [o7] (((((((a0.put (some d0) (.pointer (some ⟨w.heap.size+1,k,none⟩))).put (some d1) lv).put (some d2) ρ.ptr).put (some d3) (val y)).put (some d4) s).put (some d5) v').put (some d6) (.pointer (some ⟨w.heap.size+1,k,none⟩))) W):
  (Code.region rid [o0,o1,o2,o3,o4,o5,o6,o7].toArray true).wp Tryz.prog Q a0 wr:=by
 obtain⟨ys,ho,ha⟩:=A.row.has;have hyl:ys.length=acc.length:=ha.len;have how:=λ G hG=>A.row.Fw (G:=G) hG
 have hwr:=A.blk.lt;refine Fv (P:=Tryz.prog) (f:=E.f) (val:=val) (e:=T) (size:=E.size) (base:=w.heap.size+2) (l:=ys) (lv:=lv) (Post:=ZW E (λ _=>false) ρ (aey x r) (.good l) false) (w0:=wr) (qb:=w.heap.size+1) (k:=k) (g:=ρ.g) (ptr:=ρ.ptr) (F:=F) (args:= #[ρ.ptr]) t ty z bytes Tab ay hz hch rf hq h0 Xx Ti Pj Q5 gw hbs hap ht lO hzs hsz hf h1 ho ((A.blk.cell k).trans (by simpa using A.cel)) Taa (λ e'=>by have:=(how _ e').1;omega) (λ e'=>by have:=(how _ e').1;omega) (Nat.le_trans (Nat.mul_le_mul (show _<=65 by omega) hby) Tac) Taa Taa ?_ ?_ ?_
 ·intro w' hw';refine(hc w' (A.did.at_.later hw')).mono ?_;rintro e w'' ⟨y,rfl,hx,hd⟩;exact⟨y,rfl,x,hx,by rw[Bool.or_false];exact hd,rfl⟩
 ·rintro y w' w'' ⟨x,hx,hd,hv⟩;exact hd.grown
 ·intro y s v' w4 w4' w5 W tO hp hl2 xk kD nV Rn Tj;obtain⟨_,_,dd,_⟩:=id hp;have hs1:=tO.size;have hs2:=dd.size;have hs3:=hl2.size;obtain⟨x',hgr,hdd,hgv⟩:=Lq (E:=E) (T:=T) (lng:=λ _=>false) (B:=w.heap.size+2) (acc:=acc) Taa aZ A.row Taa A.did tO hp hl2 kD ys nV ha Rn;obtain rfl:x'=x:=hgv;have Wt:∀(q:Nat),q < w.heap.size+2->some q≠lv.ownBlock:=λ q hq e'=>by have:=(how q e'.symm).1;omega
  have HX:=(((A.blk.later tO).grown dd.grown Tad).later hl2).grown kD (Wt _ Taa);have HR:=(((A.res.later tO).grown dd.grown Tad).later hl2).grown kD (Wt _ Taa);have oq:=HX.cr k v';simp only[setIfInBounds_toArray] at oq;refine rZ y s v' W ⟨hgr.far Taa k v',by have:=hdd.far aZ (show w.heap.size<=w.heap.size+1 by omega) k v';rwa [Bool.or_false] at this,oq,HR.far (p:=⟨w.heap.size+1,k,none⟩) Tae v',Qu.at_.keep (sq (show w.heap.size+1 < w.heap.size+2 by omega) k v') (Qu.at_.keep (sk kD Rn) (Qu.at_.keep (fl hl2) (Qu.at_.keep (nO dd.grown Taa) (Qu.at_.keep (fl tO) A.at_)))),?_⟩ Tj (HX.frozen k);have:=A.cel;rw[getElem?_set_self (by rcases Nat.lt_or_ge k cs.length with h | h;exact h;rw[getElem?_eq_none h] at this;cases this)]
variable{k0 kf nm kw:Wd}{l1:aF}{aP:Tr}
theorem zgb.KbS(h:p:=by
 clear hxf gw;generalize Fy:W.setCell ⟨w.heap.size+1,0,none⟩ (.slice A n c)=W4 at*;clear Fy;go_loopg [] 0 (λ k wr=>wr=W4);case atStart=>rfl
 case round=>
  subst hrel;have x0:=HI.out.blk.cell 0;simp only[Uaa] at x0;have hql:=HI.out.blk.lt;go_wp2_with fail;refine(Calls.mono (P:=Tryz.prog) (by rw[HN.out];exact V6 HCF.out 1 Taa ρ wr HI.out.did.at_) ?_);rintro e w8 ⟨rfl,d8⟩;have hA:=HI.out.Ud aZ d8;obtain⟨Wu,aeA,hn8,ZY⟩:=hA.row.sl (B':=w.heap.size+2) (Nat.le_refl _);clear hn8;have oL:=hid (hA.done (m':= { items:=Wu }) (d':= { items:=[x] }) (by rw[aeA];rfl) { Qu.iR w8 _ with items:=ZY });clear ZY aeA hA d8 HI x0 hql;have BO:=oL.out.blk.lt;have bf:=aa w8 (.cells (aK [bZ]) 9);have HQF:=hid (oL.out.later bf);clear oL;go_wp2_with fail;refine(Lm HFR.out ρ _ HQF.out.did.at_ w8.heap.size (av.new _ _ _) Taa).mono ?_;rintro e w4 ⟨rfl,d4⟩;have jw:=hid (HQF.out.Ud aZ d4);clear HQF d4 bf;go_wp2_with fail;refine(gY ρ _ _ _ jw.out.did.at_ ⟨#[111,110,108,121]⟩ jq.out).mono ?_;rintro e w5 ⟨rfl,d5⟩;have hQ3:=jw.out.Ud aZ d5;have Ct:=hid (hQ3.set (m':= { items:=Wu }) (d':= { items:=[x] }) aZ 2 (.bool false) rfl hQ3.at_);have hf2:=hQ3.blk.frozen 2;have hc2:=hQ3.blk.cell 2;clear hQ3 d5 jw;go_wp2_with fail;clear hf2 hc2;generalize w5.setCell ⟨w.heap.size+1,2,none⟩ (.bool false)=W6 at*;refine(Ln HNK.out HNR.out ρ _ Ct.out.did.at_).mono ?_;rintro e w6 ⟨aN,aeC,rfl,d6⟩;have HF:=hid aeC;clear aeC;have hQ5:=Ct.out.Ud aZ d6;have Cs:=hid (hQ5.set (m':= { items:=Wu,aN:=aN }) (d':= { items:=[x],aN:=aN }) aZ 1 (.string aN) rfl { hQ5.at_ with aN:=rfl });have hf1:=hQ5.blk.frozen 1;have hc1:=hQ5.blk.cell 1
  clear hQ5 d6 Ct;go_wp2_with fail;clear hf1 hc1;generalize w6.setCell ⟨w.heap.size+1,1,none⟩ (.string aN)=W7 at*;refine(Ip (s:=⟨#[119,104,101,114,101]⟩) HWK.out HWH.out ρ _ Cs.out.did.at_).mono ?_;rintro e w7 ⟨⟨XU,XV,XW⟩,rfl,hsw,d7⟩;have hs7:=Cs.out.did.size;have hq7:=Cs.out.blk.lt;have hQ7:=Cs.out.Ud aZ d7;have XX:=hid (hQ7.set (m':= { items:=Wu,aN:=aN,aP:=⟨XU,XV,XW⟩}) (d':= { items:=[x],aN:=aN,aP:=[aP] }) aZ 3 (.slice XU XV XW) rfl { hQ7.at_ with aP:=El.lies.more hsw Taa});have hf3:=hQ7.blk.frozen 3;have hc3:=hQ7.blk.cell 3;clear hQ7 d7 hsw Cs;unfold eU at*;go_wp2_with fail;clear hf3 hc3;generalize w7.setCell ⟨w.heap.size+1,3,none⟩ (.slice XU XV XW)=W8 at*;refine(gY ρ _ _ _ XX.out.did.at_ ⟨#[103,114,111,117,112]⟩ HGR.out).mono ?_;rintro e w8' ⟨rfl,d8⟩;have Nf:=hid (XX.out.Ud aZ d8);clear d8 XX;go_wp2_with fail;refine(Lp (s:=⟨#[104,97,118,105,110,103]⟩) HHA.out ρ _ Nf.out.did.at_).mono ?_;rintro e w9 ⟨⟨ZZ,D5,D7⟩,aiV,NS,d9⟩;have Uf:=Nf.out.Ud aZ d9;have D8:=Nf.out.did.size;have jR:=Nf.out.blk.lt;subst aiV;have HQA:=hid (Uf.set (m':= { items:=Wu,aN:=aN,aP:=⟨XU,XV,XW⟩,having:=⟨ZZ,D5,D7⟩}) (d':= { items:=[x],aN:=aN,aP:=[aP] }) aZ 5 (.slice ZZ D5 D7) rfl { Uf.at_ with having:=El.lies.more NS Taa});have hf5:=Uf.blk.frozen 5;have hc5:=Uf.blk.cell 5;clear Uf d9 NS Nf;unfold eU;go_wp2_with fail;clear hf5 hc5;generalize w9.setCell ⟨w.heap.size+1,5,none⟩ (.slice ZZ D5 D7)=W10 at*;refine(gY ρ _ _ _ HQA.out.did.at_ ⟨#[111,114,100,101,114]⟩ HOR.out).mono ?_;rintro e uF ⟨rfl,d10⟩
  have HQB:=hid (HQA.out.Ud aZ d10);clear d10 HQA;go_wp2_with fail;refine(gY ρ _ _ _ HQB.out.did.at_ ⟨#[108,105,109,105,116]⟩ HLI.out).mono ?_;rintro e Dx ⟨rfl,d11⟩;have HS:=hid (HQB.out.Ud aZ d11);clear d11 HQB;obtain⟨x0,x1,x2,x3,x4,x5,x6,x7⟩:=iU HS.out.blk;obtain⟨z0,z1,z2,z3,z4,z5,z6,z7⟩:=qC HS.out.res;obtain⟨y0,y1,y2,y3,y4,y5,y6,y7⟩:=iU HS.out.res;unfold eU at x0 x3 x4 x5 x6 x7;go_wp2_with fail;have HP:=Uc HS.out.res { items:=Wu,aN:=aN,aP:=⟨XU,XV,XW⟩,having:=⟨ZZ,D5,D7⟩};have HR:=iU HP;unfold Fx eU at HR;obtain⟨r0,r1,r2,r3,r4,r5,r6,r7⟩:=HR;refine bodyPost_ret (v:=GJ { items:=Wu,aN:=aN,aP:=⟨XU,XV,XW⟩,having:=⟨ZZ,D5,D7⟩}) ?_ rfl ?_
  ·simp[results,Tryz.results127,go_sem,r0,r1,r2,r3,r4,r5,r6,r7];rfl
  ·refine⟨{ items:=Wu,aN:=aN,aP:=⟨XU,XV,XW⟩,having:=⟨ZZ,D5,D7⟩},rfl,?_,HS.out.did.Fx aZ (Nat.le_refl _) { items:=Wu,aN:=aN,aP:=⟨XU,XV,XW⟩,having:=⟨ZZ,D5,D7⟩}⟩;rw[<- HF.out];exact Qu.at_.keep (gy Taa) (HS.out.at_.Fx Taa { items:=Wu,aN:=aN,aP:=⟨XU,XV,XW⟩,having:=⟨ZZ,D5,D7⟩})):p:=h
theorem Ue{x:Tr×ByteArray} (ZX:fW cA k0=true)(hst:ar eK l=false)(hit:∀(ρ:bj) (w:World),ρ.at w (.good l) false->Calls Tryz.prog 158 #[ρ.ptr] w (ElW iP itV ρ w x (kf::nm::kw::l1)))(OZ:fW bZ kf=true)(hcf:fW bg kf=false)(hon:fW js nm=false)(hnk:nm.k=1)(hnr:jT nm.s=false)(hwk:fW cV kw=true)(hwh:fk 0 l1 aP r)(hgr:ar iE r=false)(hha:ar lY r=false)(hor:ar iF r=false)(BU:ar jf r=false)(ρ:bj)(w:World)(h:ρ.at w (.good (k0::l)) false):
  Calls Tryz.prog 127 #[ρ.ptr] w λ e w'=>∃y:kM,e=.returned (GJ y)/\Qu.at_ w' (ep w.heap.size w') { items:=[x],aN:=⟨nm.s.toArray⟩,aP:=[aP] } y/\gP ρ w w' (.good r) false:=by
 have aZ:=h.mE;have HSE:=hid ZX;have HST:=hid hst;have HFR:=hid OZ;have HCF:=hid hcf;have jq:=hid hon;have HNK:=hid hnk;have HNR:=hid hnr;have HWK:=hid hwk;have HWH:=hid hwh;have HGR:=hid hgr;have HHA:=hid hha;have HOR:=hid hor;have HLI:=hid BU;have HI0:=hid hit;clear ZX hst hit OZ hcf hon hnk hnr hwk hwh hgr hha hor BU;have hb2:=af.then (af.then (aa w V8) (aa _ V8)) (aa _ (.cells (aK [cA]) 9));have h0:=h.later hb2;have HQ:=hid (((av.new w 28 #[.slice none 0 0,.string ⟨#[]⟩,.bool false,.slice none 0 0,.slice none 0 0,.slice none 0 0,.slice none 0 0,.slice none 0 0]).alloc V8).alloc (.cells (aK [cA]) 9));have hL0:=av.new (w.alloc V8) 28 #[.slice none 0 0,.string ⟨#[]⟩,.bool false,.slice none 0 0,.slice none 0 0,.slice none 0 0,.slice none 0 0,.slice none 0 0];rw[World.size_alloc] at hL0;have HL:=hid (hL0.alloc (.cells (aK [cA]) 9));have hS0:=av.new ((w.alloc V8).alloc V8) 9 (aK [cA]);rw[World.size_alloc,World.size_alloc] at hS0;clear hL0;unfold V8 at*;go_enter Tryz.func127,Tryz.ntmps127;go_wp2_with fail;refine(Lm HSE.out ρ _ h0 (w.heap.size+2) hS0 Taa).mono ?_;rintro e w1 ⟨rfl,d1⟩;have HA:=hid (show XT iP 51 ρ w w1 l 0 (.slice none 0 0) [] [.slice none 0 0,.string ⟨#[]⟩,.bool false,.slice none 0 0,.slice none 0 0,.slice none 0 0,.slice none 0 0,.slice none 0 0] {} {} from⟨iX.nil iP _ w1 _,(gP.aA h hb2).trans d1,HL.out.grown d1.grown Tad,HQ.out.grown d1.grown Tad,Qu.iR _ _,rfl⟩);clear HL HQ hS0 h0 d1 hb2;go_wp2_with fail;refine(gY ρ w1 _ _ HA.out.did.at_ ⟨#[42]⟩ HST.out).mono ?_
 rintro e w3 ⟨rfl,d3⟩;have mf:=hid (HA.out.Ud aZ d3);clear d3 HA;go_wp2_with fail;refine V9 (E:=iP) (val:=itV) (T:=51) (q:=3) (d0:=10) (d1:=11) (d2:=12) (d3:=13) (d4:=14) (d5:=15) (d6:=16) (F:=158) 23 23 mf.out aZ Tae Taa (λ w' hw=>HI0.out ρ w' hw) Tab Tab Tab Tab rfl rfl ?_ ?_ ?_ ?_ ?_ ?_ ?_ Tryz.underlying23 xt rfl Tac (λ _=>rfl) (by intro y u hu;replace hu:u∈Cp y:=hu;simp[Cp,aL] at hu;rcases hu with rfl | rfl | rfl | rfl | rfl | rfl | rfl | rfl <;> rfl) ?_
 ·exact ZcF
 ·exact ZcF
 ·exact ZcL
 ·exact ZcF
 ·exact Zc8
 ·intro ρ' w' y' h';show _=Result.ok _ (w'.alloc (.cells (Cp y').toArray _));simp[go_sem,h',itV,Cp,aL]
 ·intro ρ' w' s' v' We pV mV rq;exact Za7
 intro y s v' W A4 gw hxf;obtain⟨⟨A,n,c⟩,ja,X5,_⟩:=A4.row.sl (B':=w.heap.size) Taa;replace ja:v'=.slice A n c:=ja;replace X5:n=1:=X5;subst ja;have HI:=hid (show XT iP 51 ρ w (W.setCell ⟨w.heap.size+1,0,none⟩ (.slice A n c)) (kf::nm::kw::l1) 0 (.slice A n c) [x] [.slice A n c,.string ⟨#[]⟩,.bool false,.slice none 0 0,.slice none 0 0,.slice none 0 0,.slice none 0 0,.slice none 0 0] {} {} from A4);have HN:=hid X5;clear A4 X5 HI0 mf;open zgb in exact Zd8
def QZ:Obj:=.cells #[.int .u8 0,.string ⟨#[]⟩,.slice none 0 0,.string ⟨#[]⟩,.int .i64 0,.string ⟨#[]⟩,.int .i64 0,.slice none 0 0,.string ⟨#[]⟩,.bool false,.slice none 0 0,.slice none 0 0,.slice none 0 0,.slice none 0 0,.slice none 0 0,.int .u8 0,.string ⟨#[]⟩,.int .i64 0,.int .i64 0,.slice none 0 0,.slice none 0 0,.slice none 0 0,.int .u8 0,.int .i64 0,.string ⟨#[]⟩,.int .u8 0,.int .i64 0,.string ⟨#[]⟩] 34
def Wv:Array Value:=(bI {}).toArray
section
variable {ρ:bj} {w wr w2:World} {big:Bool} {P:Ps St} {σ Dr:dO} {q b:Nat} {m:fX} {d:St}
end
variable{W2 Ws w3:World}{qx:Nat}{t' t2:Tr}{y' v2:Ex}{l0:aF}{bi:Int}
theorem QY.goes(aZ:ρ.g < w.heap.size)(BO:q=w.heap.size)(hqq:q+1<=qx)(A:QY ρ w q qx wr l0 t' y')(hW:Below wr.heap.size wr W2)(hst:gP ρ W2 Ws (.good l) false)(d2:gP ρ Ws w3 (.good r) false)
  (Jy:t2.at_ w3 (ep Ws.heap.size w3) v2):
  QY ρ w q qx (fZ ((w3.alloc (Ds v2)).alloc (Cn y' v2)) qx (rK bi (w3.heap.size+1) 2)) r (mB bi [t',t2]) (rK bi (w3.heap.size+1) 2):=by
 have hz1:=d2.size;have hz2:=hst.size;have hz3:=hW.size;have hqb:=A.blk.lt;have vS:Below w3.heap.size w3 ((w3.alloc (Ds v2)).alloc (Cn y' v2)):=af.then (aa w3 _) (aa _ _);have hsz:((w3.alloc (Ds v2)).alloc (Cn y' v2)).heap.size=w3.heap.size+2:=by simp
 have hN:av ((w3.alloc (Ds v2)).alloc (Cn y' v2)) (w3.heap.size+1) 36 (aL y'++aL v2).toArray:=by have:=av.new (w3.alloc (Ds v2)) 36 (aL y'++aL v2).toArray;rw[World.size_alloc] at this;exact this
 have hX:av ((w3.alloc (Ds v2)).alloc (Cn y' v2)) qx 36 (aL y').toArray:=(((A.blk.later hW).grown hst.grown Tad).grown d2.grown Tad).later vS;have hR:av ((w3.alloc (Ds v2)).alloc (Cn y' v2)) q 36 _:=(((A.res.later hW).grown hst.grown Tad).grown d2.grown Tad).later vS;have hD:gP ρ w ((w3.alloc (Ds v2)).alloc (Cn y' v2)) (.good r) false:=(((A.did.later hW).trans hst).trans d2).later vS
 have hT:(mB bi [t',t2]).at_ ((w3.alloc (Ds v2)).alloc (Cn y' v2)) (Bx (q+1) qx ((w3.alloc (Ds v2)).alloc (Cn y' v2))) (rK bi (w3.heap.size+1) 2):=by
  refine Kb bi hN ⟨by omega,by omega,by omega⟩ ?_ ?_
  ·exact Tr.at_.keep (gB vS) _ _ (Tr.at_.keep (ik d2.grown Taa) _ _ (Tr.at_.keep (ik hst.grown Taa) _ _ (Tr.at_.keep (gB hW) _ _ A.tr)))
  ·exact Tr.at_.keep (Mp Taa Taa) _ _ (Jy.later vS)
 generalize (w3.alloc (Ds v2)).alloc (Cn y' v2)=W5 at*;exact⟨hD.fZ aZ Taa _,gJ hX _,Pf hR Taa _,Tr.at_.keep (Zy (S:=λ w=>Bx (q+1) qx w) (λ w i u=>Ka i u) _) _ _ hT⟩
variable{l2:aF}{o:Wd}{t:Tr}
theorem za2.Kag(h:p:=by
 obtain⟨hb1,hb2,hb3⟩:=HB0.out;have e0:(bi==0)=false:=by rw[beq_eq_false_iff_ne];omega
 have oK:=HA.out.did.at_.later hW;obtain⟨q0,q1,q2,q3,f1,f2,f3⟩:=oK.facts;have e1:=uy.out;have hst:=bj.at.step oK HK0.out;have BW:l2.length+1<=ρ.n:=by have:=oK.left;have e2:(dO.good (tk.w::l2)).left=l2.length+1:=rfl;omega
 clear oK q0 q2 q3 f2 f3;go_wp2_with (first
  |(go_at_call 163;refine(HH2.out ρ _ hst.at_).mono ?_;rintro e w3 ⟨v2,rfl,Jy,d2⟩;unfold dA aL;have hz1:=d2.size;have hz2:=hst.size;have hz3:=hW.size;have B0:=((HA.out.blk.later hW).grown hst.grown Tad).grown d2.grown Tad;have B1:=B0.alloc (.cells #[.int .u8 v2.op,.int .u8 v2.v.k,.int .i64 v2.v.n,.string v2.v.s,.string v2.name,.int .i64 v2.width,.slice v2.A v2.n v2.c] 36);have B2:=B1.alloc (.cells #[.int .u8 y.op,.int .u8 y.v.k,.int .i64 y.v.n,.string y.v.s,.string y.name,.int .i64 y.width,.slice y.A y.n y.c,.int .u8 v2.op,.int .u8 v2.v.k,.int .i64 v2.v.n,.string v2.v.s,.string v2.name,.int .i64 v2.width,.slice v2.A v2.n v2.c] 36);have N1:=av.new w3 36 (aL v2).toArray;have X1:=dV B1;have X2:=dV B2;have X3:=gI B2;have X4:=dV N1;unfold aL at X4;obtain⟨x0,x1,x2,x3,x4,x5,x6⟩:=X1;obtain⟨y0,y1,y2,y3,y4,y5,y6⟩:=X2;obtain⟨z0,z1,z2,z3,z4,z5,z6⟩:=X3;obtain⟨a0,a1,a2,a3,a4,a5,a6⟩:=X4;have px:=hid B2;clear B0 B1 B2 N1))
 go_roundg 0;case measure=>have:=HK1.out;omega
 case rel=>exact .inr ⟨_,rfl,QY.goes aZ rfl Gd HA.out hW hst d2 Jy⟩):p:=h
theorem zgt.KbY(h:p:=by
 have HP:=gJ dY.out y';have HR:=dV HP;unfold fZ at HR;obtain⟨r0,r1,r2,r3,r4,r5,r6⟩:=HR;refine bodyPost_ret (v:=dA y') Zb8 rfl ?_
 ·exact Zf1):p:=h
theorem za3.Kag(h:p:=by open zgt in exact Zeh):p:=h
theorem zfb.Kbr(h:p:=by
 have e1:(ρ.n:Int) - (dO.good (tk.w::l2)).left+1=(ρ.n:Int) - l2.length:=by simp only[dO.left,length_cons];omega
 have uy:=hid e1;clear hpl hg eY yG hp hr2 e1;rw[TW.out] at TX;open za2 in exact Zaj):p:=h
theorem zfc.Kbr(h:p:=by
 have e1:(ρ.n:Int) - (dO.good (tk.w::r)).left+1=(ρ.n:Int) - r.length:=by simp only[dO.left,length_cons];omega
 have uy:=hid e1;clear hpl hg eY yG hp hr2 e1;rw[HOU.out] at TX;open za3 in exact Zaj):p:=h
theorem zf9.KbR(h:p:=by
 have HBZ:=hid (λ tk=>AG lv z hz Taa tk);have TW:=hid hop;have HOU:=hid hou;have HB0:=hid hb0;have HK0:=hid Fm;have HH:=hid H;have HH2:=hid H2;clear hlv hz hop hou hb0 Fm H H2;unfold uT at*;unfold bj.ptr;go_enter Tryz.func163,Tryz.ntmps163;go_wp2_with (first
  |(go_at_call 163;refine(HH.out ρ _ h0).mono ?_;rintro e w2 ⟨y,rfl,ht,d2⟩;unfold dA aL))
 have hA:QY ρ w w.heap.size w2.heap.size (w2.alloc (.cells #[.int .u8 y.op,.int .u8 y.v.k,.int .i64 y.v.n,.string y.v.s,.string y.name,.int .i64 y.width,.slice y.A y.n y.c] 36)) _ t y:=
  ⟨((gP.aA h hb).trans d2).later (aa _ _),av.new w2 _ _,(d2.blk HQ.out Taa).alloc _,Tr.at_.keep (wI _ (by rw[hsz];exact Nat.le_refl _)) _ _ ht⟩
 have Gd:w.heap.size+1<=w2.heap.size:=by have:=d2.size;omega
 generalize w2.alloc _=W at*;generalize w2.heap.size=qx at*;have HA:=hid hA;clear hA ht d2 h0 hb HQ;go_loopg [] 1 (λ k wr=>(k=1/\QY ρ w w.heap.size qx wr (o::l2) t y)\/∃y',k=0/\QY ρ w w.heap.size qx wr (u::r) (mB bi [t,t2]) y');case atStart=>exact .inl ⟨rfl,HA.out⟩
 case round=>
  rcases hrel with ⟨yu,hA'⟩|⟨y',yu,hA'⟩
  ·have HK1:=hid yu;open zfb in exact ZcK
  ·open zfc in exact ZcK):p:=h
theorem zct.Kaw(h:p:=by open zf9 in exact Zd5):p:=h
theorem Ub(lv:Nat)(hlv:lv=0\/lv=1\/lv=4\/lv=5)   (bi:Int)(hb0:bi≠0/\0<=bi/\bi < 256)(Fm:o.k≠0)(hop:vM lv o=bi)(hou:vM lv u=0)(H:fk ((lv:Int)+1) l t (o::l2))(H2:fk ((lv:Int)+1) l2 t2 (u::r)):fk lv l (mB bi [t,t2]) (u::r):=by intro ρ w h;obtain⟨z,hz⟩:∃z:Int,z=lv:=⟨_,rfl⟩;rw[<- hz] at H H2 ⊢;have aZ:=h.mE;have hb:=aa w uT;have h0:=h.later hb;open zct in exact ZaO
def MU (w:World)(y z:Ex):Prop:=∀W,Below w.heap.size w W->Calls Tryz.prog 16 #[dA y,dA z] W λ e w'=>e=.returned (.bool true)/\Below W.heap.size W w'
def acM (w:World)(a b:Sl):Prop:=∀W,Below w.heap.size w W->Calls Tryz.prog 31 #[.slice a.A a.n a.c,.slice b.A b.n b.c] W λ e w'=>e=.returned (.bool true)/\Below W.heap.size W w'
theorem zeq.Ka9(h:p:=by
 have e1:(op==op)=true:=by simp
 have e2:(vk==vk)=true:=by simp
 have e3:(vn==vn)=true:=by simp
 have e4:(vs.toList==vs.toList)=true:=by simp
 have e5:(name.toList==name.toList)=true:=by simp
 have e6:(width==width)=true:=by simp
 go_wp2_with fail;refine(HL.out _ (hW.trans (hB.mono hW.size))).mono ?_;rintro e w1 ⟨rfl,b1⟩;replace hB:=af.then hB b1;clear b1 x0 x1 x2 x3 x4 x5 x6 z0 z1 z2 z3 z4 z5 z6;go_wp2_with fail;go_ret;exact⟨rfl,hB⟩):p:=h
theorem KO (w:World)(y z:Ex)(hop:z.op=y.op)(hv:z.v=y.v)(hn:z.name=y.name)(hw:z.width=y.width)(hL:acM w ⟨y.A,y.n,y.c⟩ ⟨z.A,z.n,z.c⟩):MU w y z:=by intro W hW;obtain⟨ZH,v2,yg,sf,A,n,c⟩:=y;obtain⟨op,v,name,width,A2,n2,c2⟩:=z;simp only at hop hv hn hw;subst hop hv hn hw;have HL:=hid hL;clear hL;unfold dA aL;obtain⟨vk,vn,vs⟩:=v;go_enter Tryz.func16,Tryz.ntmps16;have hX:=(av.new W 36 #[.int .u8 op,.int .u8 vk,.int .i64 vn,.string vs,.string name,.int .i64 width,.slice A n c]).alloc (.cells #[.int .u8 op,.int .u8 vk,.int .i64 vn,.string vs,.string name,.int .i64 width,.slice A2 n2 c2] 36);have hZ:=av.new (W.alloc (.cells #[.int .u8 op,.int .u8 vk,.int .i64 vn,.string vs,.string name,.int .i64 width,.slice A n c] 36)) 36 #[.int .u8 op,.int .u8 vk,.int .i64 vn,.string vs,.string name,.int .i64 width,.slice A2 n2 c2];rw[World.size_alloc] at hZ;have hB:=af.then (aa W (.cells #[.int .u8 op,.int .u8 vk,.int .i64 vn,.string vs,.string name,.int .i64 width,.slice A n c] 36)) (aa _ (.cells #[.int .u8 op,.int .u8 vk,.int .i64 vn,.string vs,.string name,.int .i64 width,.slice A2 n2 c2] 36));open zeq in exact Zb4
theorem zaZ.Kaf(h:p:=by
 go_wp2_with fail;go_roundw;case rel=>exact⟨i+1,by omega,by go_num,hb1⟩
 case measure=>exact Zcj):p:=h
theorem zg9.Kci(h:p:=by have hD:=HD.out i x u hx hu;open zaZ in exact Zai):p:=h
theorem Pk (w:World)(A A2:Option Addr)(c c2:Nat)(ys zs:List Ex)(S S2:Nat->Prop)(hS:∀b,S b->b < w.heap.size)(Cq:∀b,S2 b->b < w.heap.size)(hlen:zs.length=ys.length)(hA:RL aL 7 w S A ys)(zi:RL aL 7 w S2 A2 zs)(h:∀(i:Nat) y z,ys[i]?=some y->zs[i]?=some z->MU w y z)(hl:ys.length<=1000000000):acM w ⟨A,ys.length,c⟩ ⟨A2,zs.length,c2⟩:=by
 intro W hW;have HD:=hid h;have HA:=hid hA;have fV:=hid zi;clear h hA zi;obtain⟨n,hn⟩:∃n,n=ys.length:=⟨_,rfl⟩;rw[<- hn] at hlen hl ⊢;rw[hlen];have HN:=hid hn;have xg:=hid hlen;clear hn hlen;show Calls Tryz.prog 31 #[.slice A n c,.slice A2 n c2] W _;have t0:(n != n)=false:=by simp
 have t1:((n:Int) !=(n:Int))=false:=by simp
 go_enter Tryz.func31,Tryz.ntmps31;go_wp2_with fail;clear t0 t1;have HW:=hid hW;go_loopw [5] (λ iv wr=>∃i:Nat,i<=n/\iv=.int .i64 i/\Below W.heap.size W wr) (λ iv _=>n - (intOf iv).toNat);case atStart=>exact⟨0,Nat.zero_le _,rfl,Below.refl _ _⟩
 case round=>
  obtain⟨i,hi,rfl,qZ⟩:=hrel;by_cases hlt:i < n
  ·open zg9 in exact ZfH
  ·obtain rfl:i=n:=by omega
   go_wp2_with fail;go_ret;exact⟨rfl,qZ⟩
mutual
theorem Tr.MV {w:World} {S S2:Nat->Prop}(hS:∀b,S b->b < w.heap.size)(Cq:∀b,S2 b->b < w.heap.size):∀(t:Tr) (y z:Ex),t.at_ w S y->t.at_ w S2 z->t.thin->MU w y z
 | .mk op v name width args,y,z,h,h2,ht=>by unfold Tr.at_ at h h2;obtain⟨a1,a2,a3,a4,hn,ys,hr,ha⟩:=h;obtain⟨c1,c2,c3,c4,ZI,zs,hr2,ha2⟩:=h2;unfold Tr.thin at ht;have hl:=Tr.dS.length ha;have hl2:=Tr.dS.length ha2;refine KO w y z (by rw[c1,a1]) (by rw[c2,a2]) (by rw[c3,a3]) (by rw[c4,a4]) ?_;have:=Pk w y.A z.A y.c z.c ys zs S S2 hS Cq Taa hr hr2 (Tr.Hx hS Cq args ys zs ha ha2 ht.2) TaC;rw[hn,ZI,<- hl];rw[hl2,<- hl] at this;exact this
theorem Tr.Hx {w:World} {S S2:Nat->Prop}(hS:∀b,S b->b < w.heap.size)(Cq:∀b,S2 b->b < w.heap.size):∀(ts:List Tr) (ys zs:List Ex),Tr.dS w S ts ys->Tr.dS w S2 ts zs->Tr.gT ts->∀(i:Nat) y z,ys[i]?=some y->zs[i]?=some z->MU w y z
 | [],ys,zs,h,h2,_,i,y,z,hy,hz=>by unfold Tr.dS at h;subst h;simp at hy
 | t::ts,ys,zs,h,h2,ht,i,y,z,hy,hz=>by
   unfold Tr.dS at h h2;obtain⟨y0,ys',rfl,h1,h3⟩:=h;obtain⟨z0,zs',rfl,k1,k3⟩:=h2;unfold Tr.gT at ht
   match i,hy,hz with
   | 0,hy,hz=>simp at hy hz;subst hy hz;exact Tr.MV hS Cq t _ _ h1 k1 ht.1
   | i+1,hy,hz=>exact Tr.Hx hS Cq ts ys' zs' h3 k3 ht.2 i y z Ta4 (by simpa using hz)
end
end Go.Proofs.YtehhdlgjfdnafaaGreatDoor
