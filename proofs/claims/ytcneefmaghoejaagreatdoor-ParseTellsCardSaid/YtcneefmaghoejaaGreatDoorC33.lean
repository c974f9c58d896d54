/- Parts of the proof. -/
import Derived.Test.YtcneefmaghoejaaGreatDoorC32
namespace Go.Proofs.YtcneefmaghoejaaGreatDoor
open Go.Lib (hid)
set_option linter.unusedSimpArgs false
set_option linter.unusedVariables false
theorem Uo {ks:List (List UInt8)} {σ:aW} {s:List UInt8}(h:σ.one ks=s)(hs:s≠ []):ae (dC ks) σ=.good σ.words.tail:=by
 rcases jC ks σ with ⟨s',h1,h2,h3,h4⟩|⟨h1,_⟩
 ·exact h4
 ·rw[h] at h1;exact absurd h1 hs
theorem Up {ks:List (List UInt8)} {σ:aW} {s:List UInt8}(h:σ.one ks=s)(hs:s≠ []):s∈ks∧σ.head s=true:=by
 rcases jC ks σ with ⟨s',h1,h2,h3,h4⟩|⟨h1,_⟩
 ·rw[h] at h2;subst h2;exact⟨h1,h3⟩
 ·rw[h] at h1;exact absurd h1 hs
theorem uA.of_eq {α:Type} {P k:Ps α} {l l':bH}(h:P l=k l'):uA P (.good l) k (.good l'):=by
 refine⟨?_,fun z hz=>?_⟩
 ·simp only[ae,h]
 ·simp only[aK] at hz ⊢;rw[h];exact hz
theorem uA.Uq {α:Type} {P:Ps α} {l:bH}(h:P l=.error l.length)(k:Ps α):uA P (.good l) k (.bad l.length):=by
 refine⟨?_,fun z hz=>?_⟩
 ·simp only[ae,h]
 ·simp only[aK,h]
abbrev cF:List (List UInt8):=[ea,dh,ew,ey,eb,iu]
theorem XY {s:List UInt8} {t:Wd}(h:kO s t=true):t.s=s:=by unfold kO at h;simp at h;exact h.2
section
variable {t:Wd} {r:bH}
theorem qg {s:List UInt8}(h:(aW.good (t::r)).one cF=s)(hs:s≠ []):t.s=s∧ae (dC cF) (.good (t::r))=.good r:=by obtain⟨h1,h2⟩:=Up h hs;exact⟨XY h2,Uo h hs⟩
theorem PS (hk:t.k=1)(hs:t.s=bt):uA aB (.good (t::r)) qD (.good (t::r)):=.of_eq (by simp[aB,hk,hs])
theorem XZ (hk:¬t.k=1)(k:Ps St):uA aB (.good (t::r)) k (.bad (t::r).length):=.Uq (by simp[aB,hk]) k
theorem PT (hk:t.k=1)(hs:t.s=ea):uA aB (.good (t::r)) fV (.good r):=.of_eq (by simp[aB,hk,hs,show¬ea=bt by decide])
theorem Ya (hk:t.k=1)(hs:t.s=dh):uA aB (.good (t::r)) vH (.good r):=.of_eq (by simp[aB,hk,hs,show¬dh=bt by decide,show¬dh=ea by decide])
theorem PU (hk:t.k=1)(hs:t.s=ew):uA aB (.good (t::r)) ny (.good r):=.of_eq (by simp[aB,hk,hs,show¬ew=bt by decide,show¬ew=ea by decide,show¬ew=dh by decide])
theorem PV (hk:t.k=1)(hs:t.s=ey):uA aB (.good (t::r)) nz (.good r):=.of_eq (by simp[aB,hk,hs,show¬ey=bt by decide,show¬ey=ea by decide,show¬ey=dh by decide,show¬ey=ew by decide])
theorem at_delete (hk:t.k=1)(hs:t.s=eb):uA aB (.good (t::r)) nA (.good r):=.of_eq (by simp[aB,hk,hs,show¬eb=bt by decide,show¬eb=ea by decide,show¬eb=dh by decide,show¬eb=ew by decide,show¬eb=ey by decide])
theorem Yb (hk:t.k=1)(hs:t.s=iu):uA aB (.good (t::r)) uv (.good r):=.of_eq (by simp[aB,hk,hs,show¬iu=bt by decide,show¬iu=ea by decide,show¬iu=dh by decide,show¬iu=ew by decide,show¬iu=ey by decide,show¬iu=eb by decide])
theorem Jf {ks:List (List UInt8)} {σ:aW}(h:σ.one ks=[])(hk: []∉ks):ae (dC ks) σ=.bad σ.left∧∀s∈ks,σ.head s=false:=by
 rcases jC ks σ with ⟨s',h1,h2,h3,h4⟩|⟨_,h2,h3⟩
 ·rw[h] at h2;subst h2;exact absurd h1 hk
 ·exact⟨h2,h3⟩
theorem PW (hk:t.k=1):(aW.good (t::r)).head t.s=true:=by simp[aW.head,aW.words,av,kO,hk]
theorem Yc (hk:t.k=1)(hs:¬t.s=bt)(h:(aW.good (t::r)).one cF=[])(k:Ps St):uA aB (.good (t::r)) k (.bad (t::r).length):=by
 obtain⟨h1,h2⟩:=Jf h (by decide);have ne:∀s∈cF,¬t.s=s:=by rintro s hs rfl;have:=PW (t:=t) (r:=r) hk;rw[h2 _ hs] at this;cases this
 refine .Uq ?_ k;simp only[aB,hk,not_true_eq_false,if_false,if_neg hs,if_neg (ne ea (by simp)),if_neg (ne dh (by simp)),if_neg (ne ew (by simp)),if_neg (ne ey (by simp)),if_neg (ne eb (by simp)),if_neg (ne iu (by simp))]
end
def wD (kind:Int)(name:ByteArray)(bw:Val):Ps St:=do
 let ez ← jq
 must aq
 return { kind,name,bw,ez }
def mW (kind:Int)(name:ByteArray):Ps St:=
 if kind=9 then(do
  let v ← jq
  must ax
  wD kind name v)else wD kind name cX
def yB (kind:Int):Ps St:=do
 must aX
 let name ← aN
 must ax
 mW kind name
theorem Yd:uv=(dC [aU,aQ,bG,bN] >>= fun s=>yB (if s=aU then 9 else if s=aQ then 10 else if s=bG then 11 else 12)):=by
 unfold uv;congr 1;funext s;simp only[];generalize (if s=aU then(9:Int)else if s=aQ then 10 else if s=bG then 11 else 12)=kind;unfold yB;congr 1;funext _;congr 1;funext name;congr 1;funext _;unfold mW nY;rw[I4];by_cases h:kind=9
 ·simp only[h,if_true];rw[dQ];congr 1;funext v;rw[dQ];rfl
 ·simp only[h,if_false];rfl
open Go.ChangeShapes Go.WideShapes Go.ChangeAt Go.RowKit
theorem any_false {α:Type}:∀l:List α,l.any (fun _=>false)=false
 | []=>rfl
 | _::l=>by rw[List.any_cons,any_false l];rfl
structure CC {α:Type} (E:El α) (T:TypeId) (lng:α→Bool) (el:Ps α) (ρ:br) (w:World) (bg:Bool) (σ:aW) (q b i:Nat) (cs:Array Value) (d:St) (m:qY) (k:Nat) (v:Value) (wr:World) (bU:aW) (acc:List α):Prop where
 pos:0 < acc.length
 few:acc.length+bU.left≤5001
 le:bU.left≤k
 row:gY E T wr (b+1) v acc
 did:dV ρ w wr bU ((bg || decide (64 < acc.length - 1))|| acc.any lng)
 blk:au wr b 35 (cs.setIfInBounds i v)
 res:au wr q 35 eV
 at_:St.at_ wr (ko (b+1) v wr) d m
 todo:fZ el σ acc bU
 qb:w.heap.size≤q∧q < b
section
variable {α:Type} {E:El α} {T:TypeId} {lng:α→Bool} {el:Ps α} {ρ:br} {w wr w8:World} {big bg:Bool} {P:Ps St} {σ0 σ bU:aW} {q b i k:Nat} {m:qY} {d:St} {w1 fl w2 W:World} {y:E.β} {v v':Value} {acc:List α} {cs:Array Value}
theorem CC.first (xD:cy el)(hg:ρ.g < w.heap.size)(hD:dV ρ w wr σ bg)(hB:au wr b 35 cs)(hR:au wr q 35 eV)(hat:St.at_ wr (eD (b+1) wr) d m)(hq:w.heap.size≤q∧q < b)
  (eU:ah wr w1) (hp:pW E lng ρ el σ bg y w1 fl) (hl2:ah fl w2) (eB:w2.grownBy W (Value.slice none 0 0).ownBlock) (iz:df E.f T E.size W (b+1) v' ([]++ [y])) (hv:v'.ownBlock=(Value.slice none 0 0).ownBlock∨v'.ownBlock=some w2.heap.size):
  ∃A n c x,v'=.slice A n c∧W.frozen? ⟨b,i,none⟩=false∧b < W.heap.size∧CC E T lng el ρ w bg σ q b i cs d m 5000 (.slice A n c) (W.setCell ⟨b,i,none⟩ (.slice A n c)) (ae el σ) [x]:=by
 obtain⟨_,_,dd,_⟩:=id hp;have hs0:=hD.size;have hs1:=eU.size;have hs2:=dd.size;have hs3:=hl2.size;have hbl:=hB.lt;have hg2:w2.grownBy W none:=eB;obtain⟨x,hgr,hdd,iF⟩:=mo (E:=E) (T:=T) (lng:=lng) (B:=b+1) (acc:=[]) (by omega) hg (gY.nil E T wr (b+1)) (by omega) hD eU hp hl2 eB [] iz .nil hv;obtain⟨⟨A,n,c⟩,fE,nO,_⟩:=hgr.sl (B':=w.heap.size) (by omega);replace fE:v'=.slice A n c:=fE;subst fE;have HX:=(((hB.later eU).grown dd.grown (by simp;omega)).later hl2).later (gw hg2);have HR:=(((hR.later eU).grown dd.grown (by simp;omega)).later hl2).later (gw hg2);have XV:St.at_ wr (ko (b+1) (.slice none 0 0) wr) _ _:=St.at_.keep (fun b' hb=>⟨fun _=>rfl,hb.1,hb.2,by simp[Value.ownBlock]⟩) hat;have FJ:=St.at_.keep (mU (show b < b+1 by omega) i (.slice A n c)) (St.at_.keep (kH eB hv) (St.at_.keep (dP hl2) (St.at_.keep (gX dd.grown (by omega)) (St.at_.keep (dP eU) XV))));refine⟨A,n,c,x,rfl,HX.frozen i,HX.lt,?_⟩;have hl:=aW.cw xD σ;have nD:=hD.at_.left;have hsm:=hD.at_.small;refine⟨by simp,by simp;omega,by omega,hgr.far (by omega) i (.slice A n c),?_,HX.cg i _,HR.far (p:=⟨b,i,none⟩) (by simp;omega) _,FJ,fZ.start iF,hq⟩;have:=hdd.far hg (show w.heap.size≤b by omega) i (.slice A n c);simpa using this
theorem CC.more (H:CC E T lng el ρ w bg σ q b i cs d m k v wr bU acc)(hg:ρ.g < w.heap.size) {Ls:aW} {b8:Bool}(d8:dV ρ wr w8 Ls b8):dV ρ w w8 Ls b8∧au w8 b 35 (cs.setIfInBounds i v)∧(∀G,v.ownBlock=some G→b+1≤G)∧b+1≤w8.heap.size∧∃ys:List E.β,df E.f T E.size w8 (b+1) v ys∧ys.length=acc.length∧ys.length≤5001∧jP (E.rel w8 (ko (b+1) v w8)) acc ys:=by have hq:=H.qb;have hR:=H.row.grown d8.grown (by omega);have zE:=d8.blk H.blk (by omega);obtain⟨ys,ho,ha⟩:=hR.has;exact⟨H.did.trans d8,zE,fun G hG=>(hR.qM hG).1,zE.lt,ys,ho,ha.len,by rw[ha.len];have:=H.few;omega,ha⟩
theorem CC.next (xD:cy el)(H:CC E T lng el ρ w bg σ q b i cs d m k v wr bU acc)(hg:ρ.g < w.heap.size) {n2:Nat}(hn:n2=acc.length)(hh:bU.head ax=true)(d8:dV ρ wr w8 (.good bU.words.tail) (((bg || decide (64 < acc.length - 1))|| acc.any lng)|| decide (64 < n2)))
  {ys:List E.β} (ha:jP (E.rel w8 (ko (b+1) v w8)) acc ys)
  (eU:ah w8 w1) (hp:pW E lng ρ el (.good bU.words.tail) (((bg || decide (64 < acc.length - 1))|| acc.any lng)|| decide (64 < n2)) y w1 fl) (hl2:ah fl w2) (eB:w2.grownBy W v.ownBlock) (iz:df E.f T E.size W (b+1) v' (ys++ [y])) (hv:v'.ownBlock=v.ownBlock∨v'.ownBlock=some w2.heap.size):
  ∃A n c x,v'=.slice A n c∧W.frozen? ⟨b,i,none⟩=false∧b < W.heap.size∧(ae el (.good bU.words.tail)).left < k∧CC E T lng el ρ w bg σ q b i cs d m (ae el (.good bU.words.tail)).left (.slice A n c) (W.setCell ⟨b,i,none⟩ (.slice A n c)) (ae el (.good bU.words.tail)) (acc++ [x]):=by
 have hq:=H.qb;obtain⟨_,_,dd,_⟩:=id hp;obtain⟨l1,l2,l3⟩:=ll hh;have hR:=H.row.grown d8.grown (by omega);have FK:=St.at_.keep (gX d8.grown (by omega)) H.at_;have zE:=d8.blk H.blk (by omega);have Q0:=d8.blk H.res (by omega);have xi:=H.did.trans d8;have hs0:=xi.size;have hs1:=eU.size;have hs2:=dd.size;have hs3:=hl2.size;have hbl:=zE.lt;obtain⟨x,hgr,hdd,iF⟩:=mo (E:=E) (T:=T) (lng:=lng) (B:=b+1) (acc:=acc) (by omega) hg hR (by omega) xi eU hp hl2 eB ys iz ha hv;obtain⟨⟨A,n,c⟩,fE,nO,_⟩:=hgr.sl (B':=w.heap.size) (by omega);replace fE:v'=.slice A n c:=fE;subst fE;have Gd:∀(q:Nat),q < b+1→some q≠v.ownBlock:=fun q hq e'=>by have:=(hR.qM e'.symm).1;omega
 have HX:=(((zE.later eU).grown dd.grown (by simp;omega)).later hl2).grown eB (Gd _ (by omega));have HR:=(((Q0.later eU).grown dd.grown (by simp;omega)).later hl2).grown eB (Gd _ (by omega));have FJ:=St.at_.keep (mU (show b < b+1 by omega) i (.slice A n c)) (St.at_.keep (kH eB hv) (St.at_.keep (dP hl2) (St.at_.keep (gX dd.grown (by omega)) (St.at_.keep (dP eU) FK))));have VN:=aW.cw xD (aW.good bU.words.tail);have kR:=HX.cg i (.slice A n c);rw[Array.setIfInBounds_setIfInBounds] at kR;refine⟨A,n,c,x,rfl,HX.frozen i,HX.lt,by have:=H.le;omega,by simp,by have:=H.few;simp;omega,Nat.le_refl _,hgr.far (by omega) i (.slice A n c),?_,kR,HR.far (p:=⟨b,i,none⟩) (by simp;omega) _,FJ,fZ.go xD H.todo hh iF,hq⟩;have:=hdd.far hg (show w.heap.size≤b by omega) i (.slice A n c);rw[show((bg || decide (64 <(acc++ [x]).length - 1))||(acc++ [x]).any lng)=((((bg || decide (64 < acc.length - 1))|| acc.any lng)|| decide (64 < n2))|| lng x) by
  rw[hn,List.length_append,List.length_singleton,Nat.add_sub_cancel,← mP bg acc.length,List.any_append]
  generalize decide (64 < acc.length - 1)=x1
  generalize decide (64 < acc.length)=x2
  generalize acc.any lng=x3
  simp only[List.any_cons,List.any_nil,Bool.or_false]
  generalize lng x=x4
  cases bg <;> cases x1 <;> cases x2 <;> cases x3 <;> cases x4 <;> rfl]
 exact this
theorem CC.done (xD:cy el) {f:List α→Ps St} {m':Sl→qY} {d':St}(H:CC E T lng el ρ w bg σ q b i cs d m k v wr bU acc)(hg:ρ.g < w.heap.size) {n2:Nat}(hn:n2=acc.length)(hh:bU.head ax=false)(d8:dV ρ wr w8 bU (((bg || decide (64 < acc.length - 1))|| acc.any lng)|| decide (64 < n2)))
  (td:uA P σ0 (dx el >>= f) σ) (hm:∀sl,(cx (m' sl)).toArray=cs.setIfInBounds i (eP sl))
  (hat:∀sl,E.sl w8 (eD (b+1) w8) sl acc→St.at_ w8 (eD (b+1) w8) d m→St.at_ w8 (eD (b+1) w8) d' (m' sl))
  (RF:((bg || decide (64 < acc.length))|| acc.any lng)=(big || d'.long)):∃sl,jM ρ w big P σ0 (f acc) q b w8 bU (m' sl) d':=by
 have hq:=H.qb;have hdone:=fZ.done xD H.todo hh;have xi:=H.did.trans d8;rw[hn] at xi;have hrow:=H.row.grown d8.grown (by omega);have FK:=St.at_.keep (sq (Nat.le_refl _)) (St.at_.keep (gX d8.grown (by omega)) H.at_);obtain⟨C3,Lr,_,BB⟩:=hrow.sl (B':=b+1) (Nat.le_refl _);refine⟨C3,?_,?_,d8.blk H.res (by omega),hat C3 BB FK,?_,hq⟩
 ·rw[← RF,← mP bg acc.length];rw[show(((bg || decide (64 < acc.length - 1))|| decide (64 < acc.length))|| acc.any lng)=(((bg || decide (64 < acc.length - 1))|| acc.any lng)|| decide (64 < acc.length)) by
   generalize decide (64 < acc.length - 1)=x1
   generalize decide (64 < acc.length)=x2
   generalize acc.any lng=x3
   cases bg <;> cases x1 <;> cases x2 <;> cases x3 <;> rfl]
  exact xi
 ·have:=d8.blk H.blk (by omega);rw[Lr] at this;rw[hm];exact this
 ·have:=td.go (f:=f) hdone.2;rw[hdone.1] at this;exact this
end
def fC:Obj:=.cells #[.int .u8 0,.string ⟨#[]⟩,.slice none 0 0,.string ⟨#[]⟩,.int .i64 0,.string ⟨#[]⟩,.int .i64 0,.slice none 0 0,.string ⟨#[]⟩,.bool false,.slice none 0 0,.slice none 0 0,.slice none 0 0,.slice none 0 0,.slice none 0 0,.int .u8 0,.string ⟨#[]⟩,.int .i64 0,.int .i64 0,.slice none 0 0,.slice none 0 0,.slice none 0 0,.int .u8 0,.int .i64 0,.string ⟨#[]⟩,.int .u8 0,.int .i64 0,.string ⟨#[]⟩] 35
set_option maxHeartbeats 4000000
set_option maxRecDepth 100000
theorem FL (ρ:br)(w:World)(σ:aW)(big:Bool)(h:ρ.at w σ big)(hc:σ.one [aV,bz,cB]=bz):
  Calls Tryz.prog 49 #[ρ.ptr] w (kr ρ w big fV σ):=by
 have aF:=h.jt;have hb:=ah.then (aa w fC) (aa _ fC)
 have hb2:=ah.then hb (aa _ (.cells (aj [aV,bz,cB]) 9))
 have h0:=h.later hb2;have HQ:=hid (((au.new w 35 eV).alloc fC).alloc (.cells (aj [aV,bz,cB]) 9));have my:=au.new (w.alloc fC) 35 eV;rw[World.size_alloc] at my;have HL:=hid (my.alloc (.cells (aj [aV,bz,cB]) 9));have FH:=au.new ((w.alloc fC).alloc fC) 9 (aj [aV,bz,cB]);rw[World.size_alloc,World.size_alloc] at FH;have HC:=hid hc;clear my hc;rw[show Obj.cells eV 35=fC from rfl] at HQ HL;unfold fC at*;go_enter Tryz.func49,Tryz.ntmps49;go_wp2_with fail;refine(gV ρ _ σ big h0 [aV,bz,cB] (w.heap.size+2) 3 rfl FH (by omega) (by omega)).mono ?_;rintro e w1 ⟨rfl,d1⟩;rw[HC.out];have hA:jM ρ w big fV σ xW w.heap.size (w.heap.size+1) w1 (ae (dC [aV,bz,cB]) σ) {} {}:=
  ⟨by simpa [St.long,Qu.long] using(dV.aL h hb2).trans d1,HL.out.grown d1.grown (by simp;omega),HQ.out.grown d1.grown (by simp;omega),St.fq _ _,(by have hg:=ki [aV,bz,cB] σ;rw[HC.out] at hg;exact(tM σ bz hg).as (by rfl)),Nat.le_refl _,Nat.lt_succ_self _⟩
 have HA:=hid hA;clear hA HL HQ FH h0 d1 hb2 hb;generalize ae (dC [aV,bz,cB]) σ=fF at*;unfold strOf bz;have bh:=HA.out;clear HA;have dw:=bh.set (m':= { kind:=2 }) (d':= { kind:=2 }) aF 0 (.int .u8 2) rfl rfl { bh.at_ with kind:=rfl };have hf:=bh.blk.frozen 0;have hc:=bh.blk.cell 0;have HA:=hid dw;clear bh dw;go_wp2_with fail;clear hf hc;have hz:(w1.setCell ⟨w.heap.size+1,0,none⟩ (.int .u8 2)).heap.size=w1.heap.size:=by simp[World.setCell]
 generalize w1.setCell ⟨w.heap.size+1,0,none⟩ (.int .u8 2)=W1 at*
 (try rw[← hz])
 clear hz;refine(dY ρ _ fF _ HA.out.did.at_).mono ?_;rintro e w2 ⟨name,rfl,d2,eh⟩;have bh:=HA.out.jh (p:=aN) (f:=fun name=>(do must mK;let query ← cH;return { kind:=2,name,query }:Ps St)) (x:=name) aF d2 eh;clear HA d2 eh;generalize ae (aN) fF=qa at*;have dw:=bh.set (m':= { kind:=2,name:=name }) (d':= { kind:=2,name:=name }) aF 1 (.string name) rfl rfl { bh.at_ with name:=rfl };have hf:=bh.blk.frozen 1;have hc:=bh.blk.cell 1;have HA:=hid dw;clear bh dw;go_wp2_with fail;clear hf hc;have hz:(w2.setCell ⟨w.heap.size+1,1,none⟩ (.string name)).heap.size=w2.heap.size:=by simp[World.setCell]
 generalize w2.setCell ⟨w.heap.size+1,1,none⟩ (.string name)=W4 at*
 (try rw[← hz])
 clear hz;have gi:=HA.out.blk.lt;have bm:=aa W4 (.cells (aj [mK]) 9);refine(bk ρ _ qa _ (HA.out.did.at_.later bm) [mK] W4.heap.size 1 rfl (au.new W4 _ _) (by omega) (by omega)).mono ?_;rintro e w5 ⟨rfl,d3⟩;simp only[aw] at d3;have eA:=(HA.out.later bm).jh (p:=must mK) (f:=fun _=>(do let query ← cH;return { kind:=2,name,query }:Ps St)) (x:=()) aF d3 (aJ _ _);clear HA d3 bm gi;have HA:=hid eA;clear eA;generalize ae (must mK) qa=yy at*;go_wp2_with fail;refine(BA ρ _ yy _ HA.out.did.at_).mono ?_;rintro e w7 ⟨qd,qy,rfl,hqd,d4,Y1⟩;have uz:=HA.out.query (f:=fun query=>(pure { kind:=2,name,query }:Ps St)) (m':= { kind:=2,name:=name,query:=qy }) (d':= { kind:=2,name:=name,query:=qd }) aF d4 Y1 (by simp only[cx,C5,lx,fI,List.setIfInBounds_toArray,List.cons_append,List.nil_append,List.set_cons_zero,List.set_cons_succ];rfl) (by simp[St.long,Qu.long,Bool.or_assoc]) (fun hat=> { hat with query:=Qu.at_.keep (et (by have:=HA.out.blk.lt;omega)) hqd });have hB4:=d4.blk HA.out.blk (by omega);obtain⟨_,_,_,_,_,_,_,x7,x8,x9,VS,VT,VU,VV,VW,_⟩:=Uh hB4;obtain⟨_,_,_,_,_,_,_,f7,f8,f9,f10,f11,f12,f13,f14,_⟩:=PQ hB4;clear HA;have HA:=hid uz;clear uz hqd d4 Y1 hB4;unfold KP lx;obtain⟨⟨iA,iN,iC⟩,qf,qo,⟨wA,wN,wC⟩,⟨gA,gN,gC⟩,⟨hA,hN,hC⟩,⟨oA,oN,oC⟩,⟨lA,lN,lC⟩⟩:=qy;unfold eP;go_upto_region 46 with fail
 show Code.wp _ _ _ _ (Ui w7 (w.heap.size+1) ⟨⟨iA,iN,iC⟩,qf,qo,⟨wA,wN,wC⟩,⟨gA,gN,gC⟩,⟨hA,hN,hC⟩,⟨oA,oN,oC⟩,⟨lA,lN,lC⟩⟩);clear x7 x8 x9 VS VT VU VV VW f7 f8 f9 f10 f11 f12 f13 f14;generalize Ui w7 (w.heap.size+1) _=W9 at*;refine wp_region_lit ?_;refine wpList_load_row rfl 35 (.tmp 3) rfl (w.heap.size+1) rfl 35 (cx { kind:=2,name:=name,query:=⟨⟨iA,iN,iC⟩,qf,qo,⟨wA,wN,wC⟩,⟨gA,gN,gC⟩,⟨hA,hN,hC⟩,⟨oA,oN,oC⟩,⟨lA,lN,lC⟩⟩}).toArray (0,0) _ HA.out.blk Tryz.underlying35 rfl (by rw[aZ];exact aS) ?_;refine wpList_store_row rfl 35 (.tmp 2) (.tmp 127) rfl w.heap.size (cx { kind:=2,name:=name,query:=⟨⟨iA,iN,iC⟩,qf,qo,⟨wA,wN,wC⟩,⟨gA,gN,gC⟩,⟨hA,hN,hC⟩,⟨oA,oN,oC⟩,⟨lA,lN,lC⟩⟩}).toArray rfl rfl 35 eV HA.out.res (by rw[aZ];exact aS) rfl (ep _) ?_;refine wpList_nil ?_;simp only[Act.put,List.setIfInBounds_toArray,List.set_cons_succ,List.set_cons_zero];have HR:=HA.out.res.row (cx { kind:=2,name:=name,query:=⟨⟨iA,iN,iC⟩,qf,qo,⟨wA,wN,wC⟩,⟨gA,gN,gC⟩,⟨hA,hN,hC⟩,⟨oA,oN,oC⟩,⟨lA,lN,lC⟩⟩}).toArray;have gf:=HA.out.post aF;have jy:=hid HR;have py:=hid gf;clear HR gf HA;generalize W9.setRow w.heap.size _=WF at*;go_wp2_with fail;refine bodyPost_ret (v:=np { kind:=2,name:=name,query:=⟨⟨iA,iN,iC⟩,qf,qo,⟨wA,wN,wC⟩,⟨gA,gN,gC⟩,⟨hA,hN,hC⟩,⟨oA,oN,oC⟩,⟨lA,lN,lC⟩⟩}) ?_ rfl py.out;exact results_cell_row Tryz.results49 _ _ w.heap.size 35 (cx { kind:=2,name:=name,query:=⟨⟨iA,iN,iC⟩,qf,qo,⟨wA,wN,wC⟩,⟨gA,gN,gC⟩,⟨hA,hN,hC⟩,⟨oA,oN,oC⟩,⟨lA,lN,lC⟩⟩}).toArray (0,0) _ rfl jy.out Tryz.underlying35 rfl (by rw[aZ];exact aS)
theorem Jg (ρ:br)(w:World)(σ:aW)(big:Bool)(h:ρ.at w σ big)(hc:σ.one [aV,bz,cB]=cB):
  Calls Tryz.prog 49 #[ρ.ptr] w (kr ρ w big fV σ):=by
 have aF:=h.jt;have hb:=ah.then (aa w fC) (aa _ fC)
 have hb2:=ah.then hb (aa _ (.cells (aj [aV,bz,cB]) 9))
 have h0:=h.later hb2;have HQ:=hid (((au.new w 35 eV).alloc fC).alloc (.cells (aj [aV,bz,cB]) 9));have my:=au.new (w.alloc fC) 35 eV;rw[World.size_alloc] at my;have HL:=hid (my.alloc (.cells (aj [aV,bz,cB]) 9));have FH:=au.new ((w.alloc fC).alloc fC) 9 (aj [aV,bz,cB]);rw[World.size_alloc,World.size_alloc] at FH;have HC:=hid hc;clear my hc;rw[show Obj.cells eV 35=fC from rfl] at HQ HL;unfold fC at*;go_enter Tryz.func49,Tryz.ntmps49;go_wp2_with fail;refine(gV ρ _ σ big h0 [aV,bz,cB] (w.heap.size+2) 3 rfl FH (by omega) (by omega)).mono ?_;rintro e w1 ⟨rfl,d1⟩;rw[HC.out];have hA:jM ρ w big fV σ (aN >>= fun name=>dC [aU,aQ,dh] >>= fun s=>Sk name s) w.heap.size (w.heap.size+1) w1 (ae (dC [aV,bz,cB]) σ) {} {}:=
  ⟨by simpa [St.long,Qu.long] using(dV.aL h hb2).trans d1,HL.out.grown d1.grown (by simp;omega),HQ.out.grown d1.grown (by simp;omega),St.fq _ _,(by have hg:=ki [aV,bz,cB] σ;rw[HC.out] at hg;exact((tM σ cB hg).as (k':=uK) (by rfl)).as Sm),Nat.le_refl _,Nat.lt_succ_self _⟩
 have HA:=hid hA;clear hA HL HQ FH h0 d1 hb2 hb;generalize ae (dC [aV,bz,cB]) σ=fF at*;unfold strOf cB;have bh:=HA.out;clear HA;have dw:=bh.set (m':= { kind:=3 }) (d':= { kind:=3 }) aF 0 (.int .u8 3) rfl rfl { bh.at_ with kind:=rfl };have hf:=bh.blk.frozen 0;have hc:=bh.blk.cell 0;have HA:=hid dw;clear bh dw;go_wp2_with fail;clear hf hc;have hz:(w1.setCell ⟨w.heap.size+1,0,none⟩ (.int .u8 3)).heap.size=w1.heap.size:=by simp[World.setCell]
 generalize w1.setCell ⟨w.heap.size+1,0,none⟩ (.int .u8 3)=W1 at*
 (try rw[← hz])
 clear hz;refine(dY ρ _ fF _ HA.out.did.at_).mono ?_;rintro e w2 ⟨name,rfl,d2,eh⟩;have bh:=HA.out.jh (p:=aN) (f:=fun name=>(dC [aU,aQ,dh] >>= fun s=>Sk name s)) (x:=name) aF d2 eh;clear HA d2 eh;generalize ae (aN) fF=qa at*;have dw:=bh.set (m':= { kind:=3,name:=name }) (d':= { kind:=3,name:=name }) aF 1 (.string name) rfl rfl { bh.at_ with name:=rfl };have hf:=bh.blk.frozen 1;have hc:=bh.blk.cell 1;have HA:=hid dw;clear bh dw;go_wp2_with fail;clear hf hc;have hz:(w2.setCell ⟨w.heap.size+1,1,none⟩ (.string name)).heap.size=w2.heap.size:=by simp[World.setCell]
 generalize w2.setCell ⟨w.heap.size+1,1,none⟩ (.string name)=W4 at*
 (try rw[← hz])
 clear hz;have gi:=HA.out.blk.lt;have bm:=aa W4 (.cells (aj [aU,aQ,dh]) 9);refine(gV ρ _ qa _ (HA.out.did.at_.later bm) [aU,aQ,dh] W4.heap.size 3 rfl (au.new W4 _ _) (by omega) (by omega)).mono ?_;rintro e w5 ⟨rfl,d3⟩;have hgo:=ki [aU,aQ,dh] qa;have eA:=(HA.out.later bm).jh (p:=dC [aU,aQ,dh]) aF d3 hgo;clear HA d3 bm gi hgo;have HA:=hid eA;clear eA;have CS:qa.one [aU,aQ,dh]=aU∨qa.one [aU,aQ,dh]=aQ∨qa.one [aU,aQ,dh]=dh∨(qa.one [aU,aQ,dh]=[]∧∃m,ae (dC [aU,aQ,dh]) qa=.bad m):=by
  rcases jC [aU,aQ,dh] qa with ⟨s,hs,h1,_⟩|⟨h1,h2,_⟩
  ·simp only[List.mem_cons,List.not_mem_nil,or_false] at hs;rw[h1];rcases hs with rfl | rfl | rfl <;> simp
  ·exact .inr (.inr (.inr (⟨h1,_,h2⟩)))
 generalize qa.one [aU,aQ,dh]=word at*;generalize ae (dC [aU,aQ,dh]) qa=yy at*;rcases CS with rfl | rfl | rfl |⟨hc,nb,rv⟩;all_goals try subst hc
 ·have kz:=HA.out.Je (k':=(do let cf ← aN;must dE;let a ← cY;must uf;let b ← cY;ri name 9 cf a b:Ps St)) (by rfl);clear HA;have HA:=hid kz;clear kz;unfold strOf aU;have bh:=HA.out;clear HA;have dw:=bh.set (m':= { kind:=3,name:=name,what:=9 }) (d':= { kind:=3,name:=name,what:=9 }) aF 15 (.int .u8 9) rfl rfl { bh.at_ with what:=rfl };have hf:=bh.blk.frozen 15;have hc:=bh.blk.cell 15;have HA:=hid dw;clear bh dw;go_wp2_with fail;clear hf hc;have hz:(w5.setCell ⟨w.heap.size+1,15,none⟩ (.int .u8 9)).heap.size=w5.heap.size:=by simp[World.setCell]
  generalize w5.setCell ⟨w.heap.size+1,15,none⟩ (.int .u8 9)=W7 at*
  (try rw[← hz])
  clear hz;refine(dY ρ _ yy _ HA.out.did.at_).mono ?_;rintro e w8 ⟨cf,rfl,d2,eh⟩;have bh:=HA.out.jh (p:=aN) (f:=fun cf=>(do must dE;let a ← cY;must uf;let b ← cY;ri name 9 cf a b:Ps St)) (x:=cf) aF d2 eh;clear HA d2 eh;generalize ae (aN) yy=VZ at*;have dw:=bh.set (m':= { kind:=3,name:=name,what:=9,cf:=cf }) (d':= { kind:=3,name:=name,what:=9,cf:=cf }) aF 16 (.string cf) rfl rfl { bh.at_ with cf:=rfl };have hf:=bh.blk.frozen 16;have hc:=bh.blk.cell 16;have HA:=hid dw;clear bh dw;go_wp2_with fail;clear hf hc;have hz:(w8.setCell ⟨w.heap.size+1,16,none⟩ (.string cf)).heap.size=w8.heap.size:=by simp[World.setCell]
  generalize w8.setCell ⟨w.heap.size+1,16,none⟩ (.string cf)=Zl at*
  (try rw[← hz])
  clear hz;have gi:=HA.out.blk.lt;have bm:=aa Zl (.cells (aj [dE]) 9);refine(bk ρ _ VZ _ (HA.out.did.at_.later bm) [dE] Zl.heap.size 1 rfl (au.new Zl _ _) (by omega) (by omega)).mono ?_;rintro e Fy ⟨rfl,d3⟩;simp only[aw] at d3;have eA:=(HA.out.later bm).jh (p:=must dE) (f:=fun _=>(do let a ← cY;must uf;let b ← cY;ri name 9 cf a b:Ps St)) (x:=()) aF d3 (aJ _ _);clear HA d3 bm gi;have HA:=hid eA;clear eA;generalize ae (must dE) VZ=Ur at*;go_wp2_with fail;refine(gM ρ _ Ur _ HA.out.did.at_).mono ?_;rintro e rk ⟨a,JD,Af,rfl,d2,eh⟩;have bh:=HA.out.jh (p:=cY) (f:=fun a=>(do must uf;let b ← cY;ri name 9 cf a b:Ps St)) (x:=a) aF d2 eh;clear HA d2 eh;generalize ae (cY) Ur=PX at*;have dw:=bh.set (m':= { kind:=3,name:=name,what:=9,cf:=cf,a:=a }) (d':= { kind:=3,name:=name,what:=9,cf:=cf,a:=a }) aF 17 (.int .i64 a) rfl rfl { bh.at_ with a:=rfl };have hf:=bh.blk.frozen 17;have hc:=bh.blk.cell 17;have HA:=hid dw;clear bh dw;go_wp2_with fail;clear hf hc;have hz:(rk.setCell ⟨w.heap.size+1,17,none⟩ (.int .i64 a)).heap.size=rk.heap.size:=by simp[World.setCell]
  generalize rk.setCell ⟨w.heap.size+1,17,none⟩ (.int .i64 a)=VQ at*
  (try rw[← hz])
  clear hz;have gi:=HA.out.blk.lt;have bm:=aa VQ (.cells (aj [uf]) 9);refine(bk ρ _ PX _ (HA.out.did.at_.later bm) [uf] VQ.heap.size 1 rfl (au.new VQ _ _) (by omega) (by omega)).mono ?_;rintro e IG ⟨rfl,d3⟩;simp only[aw] at d3;have eA:=(HA.out.later bm).jh (p:=must uf) (f:=fun _=>(do let b ← cY;ri name 9 cf a b:Ps St)) (x:=()) aF d3 (aJ _ _);clear HA d3 bm gi;have HA:=hid eA;clear eA;generalize ae (must uf) PX=PY at*;go_wp2_with fail;refine(gM ρ _ PY _ HA.out.did.at_).mono ?_;rintro e XB ⟨b,JD,Af,rfl,d2,eh⟩;have bh:=HA.out.jh (p:=cY) (f:=fun b=>ri name 9 cf a b) (x:=b) aF d2 eh;clear HA d2 eh;generalize ae (cY) PY=Us at*;have dw:=bh.set (m':= { kind:=3,name:=name,what:=9,cf:=cf,a:=a,b:=b }) (d':= { kind:=3,name:=name,what:=9,cf:=cf,a:=a,b:=b }) aF 18 (.int .i64 b) rfl rfl { bh.at_ with b:=rfl };have hf:=bh.blk.frozen 18;have hc:=bh.blk.cell 18;have HA:=hid dw;clear bh dw;go_wp2_with fail;clear hf hc;have hz:(XB.setCell ⟨w.heap.size+1,18,none⟩ (.int .i64 b)).heap.size=XB.heap.size:=by simp[World.setCell]
  generalize XB.setCell ⟨w.heap.size+1,18,none⟩ (.int .i64 b)=W20 at*
  (try rw[← hz])
  clear hz;have gi:=HA.out.blk.lt;have bm:=aa W20 (.cells (aj [cn]) 9);refine(bk ρ _ Us _ (HA.out.did.at_.later bm) [cn] W20.heap.size 1 rfl (au.new W20 _ _) (by omega) (by omega)).mono ?_;rintro e ZI ⟨rfl,d3⟩;simp only[aw] at d3;have eA:=(HA.out.later bm).jh (p:=must cn) (f:=fun _=>(do let every ← cY;return { kind:=3,name:=name,what:=9,cf:=cf,a:=a,b:=b,every:=every }:Ps St)) (x:=()) aF d3 (aJ _ _);clear HA d3 bm gi;have HA:=hid eA;clear eA;generalize ae (must cn) Us=acz at*;go_wp2_with fail;refine(gM ρ _ acz _ HA.out.did.at_).mono ?_;rintro e w23 ⟨every,JD,Af,rfl,d2,eh⟩;have bh:=HA.out.jh (p:=cY) (f:=fun every=>(pure { kind:=3,name:=name,what:=9,cf:=cf,a:=a,b:=b,every:=every }:Ps St)) (x:=every) aF d2 eh;clear HA d2 eh;generalize ae (cY) acz=R2 at*;have dw:=bh.set (m':= { kind:=3,name:=name,what:=9,cf:=cf,a:=a,b:=b,every:=every }) (d':= { kind:=3,name:=name,what:=9,cf:=cf,a:=a,b:=b,every:=every }) aF 4 (.int .i64 every) rfl rfl { bh.at_ with every:=rfl };have hf:=bh.blk.frozen 4;have hc:=bh.blk.cell 4;have HA:=hid dw;clear bh dw;go_upto_region 46 with fail
  clear hf hc;have hz:(w23.setCell ⟨w.heap.size+1,4,none⟩ (.int .i64 every)).heap.size=w23.heap.size:=by simp[World.setCell]
  generalize w23.setCell ⟨w.heap.size+1,4,none⟩ (.int .i64 every)=W25 at*
  (try rw[← hz])
  clear hz;refine wp_region_lit ?_;refine wpList_load_row rfl 35 (.tmp 3) rfl (w.heap.size+1) rfl 35 (cx { kind:=3,name:=name,what:=9,cf:=cf,a:=a,b:=b,every:=every }).toArray (0,0) _ HA.out.blk Tryz.underlying35 rfl (by rw[aZ];exact aS) ?_;refine wpList_store_row rfl 35 (.tmp 2) (.tmp 127) rfl w.heap.size (cx { kind:=3,name:=name,what:=9,cf:=cf,a:=a,b:=b,every:=every }).toArray rfl rfl 35 eV HA.out.res (by rw[aZ];exact aS) rfl (ep _) ?_;refine wpList_nil ?_;simp only[Act.put,List.setIfInBounds_toArray,List.set_cons_succ,List.set_cons_zero];have HR:=HA.out.res.row (cx { kind:=3,name:=name,what:=9,cf:=cf,a:=a,b:=b,every:=every }).toArray;have gf:=HA.out.post aF;have jy:=hid HR;have py:=hid gf;clear HR gf HA;generalize W25.setRow w.heap.size _=WF at*;go_wp2_with fail;refine bodyPost_ret (v:=np { kind:=3,name:=name,what:=9,cf:=cf,a:=a,b:=b,every:=every }) ?_ rfl py.out;exact results_cell_row Tryz.results49 _ _ w.heap.size 35 (cx { kind:=3,name:=name,what:=9,cf:=cf,a:=a,b:=b,every:=every }).toArray (0,0) _ rfl jy.out Tryz.underlying35 rfl (by rw[aZ];exact aS)
 ·have kz:=HA.out.Je (k':=(do let cf ← aN;must dX;let a ← cY;ri name 10 cf a 0:Ps St)) (by rfl);clear HA;have HA:=hid kz;clear kz;unfold strOf aQ;have bh:=HA.out;clear HA;have dw:=bh.set (m':= { kind:=3,name:=name,what:=10 }) (d':= { kind:=3,name:=name,what:=10 }) aF 15 (.int .u8 10) rfl rfl { bh.at_ with what:=rfl };have hf:=bh.blk.frozen 15;have hc:=bh.blk.cell 15;have HA:=hid dw;clear bh dw;go_wp2_with fail;clear hf hc;have hz:(w5.setCell ⟨w.heap.size+1,15,none⟩ (.int .u8 10)).heap.size=w5.heap.size:=by simp[World.setCell]
  generalize w5.setCell ⟨w.heap.size+1,15,none⟩ (.int .u8 10)=W26 at*
  (try rw[← hz])
  clear hz;refine(dY ρ _ yy _ HA.out.did.at_).mono ?_;rintro e w27 ⟨cf,rfl,d2,eh⟩;have bh:=HA.out.jh (p:=aN) (f:=fun cf=>(do must dX;let a ← cY;ri name 10 cf a 0:Ps St)) (x:=cf) aF d2 eh;clear HA d2 eh;generalize ae (aN) yy=Ut at*;have dw:=bh.set (m':= { kind:=3,name:=name,what:=10,cf:=cf }) (d':= { kind:=3,name:=name,what:=10,cf:=cf }) aF 16 (.string cf) rfl rfl { bh.at_ with cf:=rfl };have hf:=bh.blk.frozen 16;have hc:=bh.blk.cell 16;have HA:=hid dw;clear bh dw;go_wp2_with fail;clear hf hc;have hz:(w27.setCell ⟨w.heap.size+1,16,none⟩ (.string cf)).heap.size=w27.heap.size:=by simp[World.setCell]
  generalize w27.setCell ⟨w.heap.size+1,16,none⟩ (.string cf)=W29 at*
  (try rw[← hz])
  clear hz;have gi:=HA.out.blk.lt;have bm:=aa W29 (.cells (aj [dX]) 9);refine(bk ρ _ Ut _ (HA.out.did.at_.later bm) [dX] W29.heap.size 1 rfl (au.new W29 _ _) (by omega) (by omega)).mono ?_;rintro e w30 ⟨rfl,d3⟩;simp only[aw] at d3;have eA:=(HA.out.later bm).jh (p:=must dX) (f:=fun _=>(do let a ← cY;ri name 10 cf a 0:Ps St)) (x:=()) aF d3 (aJ _ _);clear HA d3 bm gi;have HA:=hid eA;clear eA;generalize ae (must dX) Ut=acB at*;go_wp2_with fail;refine(gM ρ _ acB _ HA.out.did.at_).mono ?_;rintro e w32 ⟨a,JD,Af,rfl,d2,eh⟩;have bh:=HA.out.jh (p:=cY) (f:=fun a=>ri name 10 cf a 0) (x:=a) aF d2 eh;clear HA d2 eh;generalize ae (cY) acB=R3 at*;have dw:=bh.set (m':= { kind:=3,name:=name,what:=10,cf:=cf,a:=a }) (d':= { kind:=3,name:=name,what:=10,cf:=cf,a:=a }) aF 17 (.int .i64 a) rfl rfl { bh.at_ with a:=rfl };have hf:=bh.blk.frozen 17;have hc:=bh.blk.cell 17;have HA:=hid dw;clear bh dw;go_wp2_with fail;clear hf hc;have hz:(w32.setCell ⟨w.heap.size+1,17,none⟩ (.int .i64 a)).heap.size=w32.heap.size:=by simp[World.setCell]
  generalize w32.setCell ⟨w.heap.size+1,17,none⟩ (.int .i64 a)=R4 at*
  (try rw[← hz])
  clear hz;have gi:=HA.out.blk.lt;have bm:=aa R4 (.cells (aj [cn]) 9);refine(bk ρ _ R3 _ (HA.out.did.at_.later bm) [cn] R4.heap.size 1 rfl (au.new R4 _ _) (by omega) (by omega)).mono ?_;rintro e w35 ⟨rfl,d3⟩;simp only[aw] at d3;have eA:=(HA.out.later bm).jh (p:=must cn) (f:=fun _=>(do let every ← cY;return { kind:=3,name:=name,what:=10,cf:=cf,a:=a,every:=every }:Ps St)) (x:=()) aF d3 (aJ _ _);clear HA d3 bm gi;have HA:=hid eA;clear eA;generalize ae (must cn) R3=Uu at*;go_wp2_with fail;refine(gM ρ _ Uu _ HA.out.did.at_).mono ?_;rintro e R5 ⟨every,JD,Af,rfl,d2,eh⟩;have bh:=HA.out.jh (p:=cY) (f:=fun every=>(pure { kind:=3,name:=name,what:=10,cf:=cf,a:=a,every:=every }:Ps St)) (x:=every) aF d2 eh;clear HA d2 eh;generalize ae (cY) Uu=R6 at*;have dw:=bh.set (m':= { kind:=3,name:=name,what:=10,cf:=cf,a:=a,every:=every }) (d':= { kind:=3,name:=name,what:=10,cf:=cf,a:=a,every:=every }) aF 4 (.int .i64 every) rfl rfl { bh.at_ with every:=rfl };have hf:=bh.blk.frozen 4;have hc:=bh.blk.cell 4;have HA:=hid dw;clear bh dw;go_upto_region 46 with fail
  clear hf hc;have hz:(R5.setCell ⟨w.heap.size+1,4,none⟩ (.int .i64 every)).heap.size=R5.heap.size:=by simp[World.setCell]
  generalize R5.setCell ⟨w.heap.size+1,4,none⟩ (.int .i64 every)=W39 at*
  (try rw[← hz])
  clear hz;refine wp_region_lit ?_;refine wpList_load_row rfl 35 (.tmp 3) rfl (w.heap.size+1) rfl 35 (cx { kind:=3,name:=name,what:=10,cf:=cf,a:=a,every:=every }).toArray (0,0) _ HA.out.blk Tryz.underlying35 rfl (by rw[aZ];exact aS) ?_;refine wpList_store_row rfl 35 (.tmp 2) (.tmp 127) rfl w.heap.size (cx { kind:=3,name:=name,what:=10,cf:=cf,a:=a,every:=every }).toArray rfl rfl 35 eV HA.out.res (by rw[aZ];exact aS) rfl (ep _) ?_;refine wpList_nil ?_;simp only[Act.put,List.setIfInBounds_toArray,List.set_cons_succ,List.set_cons_zero];have HR:=HA.out.res.row (cx { kind:=3,name:=name,what:=10,cf:=cf,a:=a,every:=every }).toArray;have gf:=HA.out.post aF;have jy:=hid HR;have py:=hid gf;clear HR gf HA;generalize W39.setRow w.heap.size _=WF at*;go_wp2_with fail;refine bodyPost_ret (v:=np { kind:=3,name:=name,what:=10,cf:=cf,a:=a,every:=every }) ?_ rfl py.out;exact results_cell_row Tryz.results49 _ _ w.heap.size 35 (cx { kind:=3,name:=name,what:=10,cf:=cf,a:=a,every:=every }).toArray (0,0) _ rfl jy.out Tryz.underlying35 rfl (by rw[aZ];exact aS)
 ·have kz:=HA.out.Je (k':=(do let cf ← aN;must dX;let a ← cY;ri name 12 cf a 0:Ps St)) (by rfl);clear HA;have HA:=hid kz;clear kz;unfold strOf dh;have bh:=HA.out;clear HA;have dw:=bh.set (m':= { kind:=3,name:=name,what:=12 }) (d':= { kind:=3,name:=name,what:=12 }) aF 15 (.int .u8 12) rfl rfl { bh.at_ with what:=rfl };have hf:=bh.blk.frozen 15;have hc:=bh.blk.cell 15;have HA:=hid dw;clear bh dw;go_wp2_with fail;clear hf hc;have hz:(w5.setCell ⟨w.heap.size+1,15,none⟩ (.int .u8 12)).heap.size=w5.heap.size:=by simp[World.setCell]
  generalize w5.setCell ⟨w.heap.size+1,15,none⟩ (.int .u8 12)=W40 at*
  (try rw[← hz])
  clear hz;refine(dY ρ _ yy _ HA.out.did.at_).mono ?_;rintro e w41 ⟨cf,rfl,d2,eh⟩;have bh:=HA.out.jh (p:=aN) (f:=fun cf=>(do must dX;let a ← cY;ri name 12 cf a 0:Ps St)) (x:=cf) aF d2 eh;clear HA d2 eh;generalize ae (aN) yy=acE at*;have dw:=bh.set (m':= { kind:=3,name:=name,what:=12,cf:=cf }) (d':= { kind:=3,name:=name,what:=12,cf:=cf }) aF 16 (.string cf) rfl rfl { bh.at_ with cf:=rfl };have hf:=bh.blk.frozen 16;have hc:=bh.blk.cell 16;have HA:=hid dw;clear bh dw;go_wp2_with fail;clear hf hc;have hz:(w41.setCell ⟨w.heap.size+1,16,none⟩ (.string cf)).heap.size=w41.heap.size:=by simp[World.setCell]
  generalize w41.setCell ⟨w.heap.size+1,16,none⟩ (.string cf)=W43 at*
  (try rw[← hz])
  clear hz;have gi:=HA.out.blk.lt;have bm:=aa W43 (.cells (aj [dX]) 9);refine(bk ρ _ acE _ (HA.out.did.at_.later bm) [dX] W43.heap.size 1 rfl (au.new W43 _ _) (by omega) (by omega)).mono ?_;rintro e w44 ⟨rfl,d3⟩;simp only[aw] at d3;have eA:=(HA.out.later bm).jh (p:=must dX) (f:=fun _=>(do let a ← cY;ri name 12 cf a 0:Ps St)) (x:=()) aF d3 (aJ _ _);clear HA d3 bm gi;have HA:=hid eA;clear eA;generalize ae (must dX) acE=acF at*;go_wp2_with fail;refine(gM ρ _ acF _ HA.out.did.at_).mono ?_;rintro e w46 ⟨a,JD,Af,rfl,d2,eh⟩;have bh:=HA.out.jh (p:=cY) (f:=fun a=>ri name 12 cf a 0) (x:=a) aF d2 eh;clear HA d2 eh;generalize ae (cY) acF=acG at*;have dw:=bh.set (m':= { kind:=3,name:=name,what:=12,cf:=cf,a:=a }) (d':= { kind:=3,name:=name,what:=12,cf:=cf,a:=a }) aF 17 (.int .i64 a) rfl rfl { bh.at_ with a:=rfl };have hf:=bh.blk.frozen 17;have hc:=bh.blk.cell 17;have HA:=hid dw;clear bh dw;go_wp2_with fail;clear hf hc;have hz:(w46.setCell ⟨w.heap.size+1,17,none⟩ (.int .i64 a)).heap.size=w46.heap.size:=by simp[World.setCell]
  generalize w46.setCell ⟨w.heap.size+1,17,none⟩ (.int .i64 a)=W48 at*
  (try rw[← hz])
  clear hz;have gi:=HA.out.blk.lt;have bm:=aa W48 (.cells (aj [cn]) 9);refine(bk ρ _ acG _ (HA.out.did.at_.later bm) [cn] W48.heap.size 1 rfl (au.new W48 _ _) (by omega) (by omega)).mono ?_;rintro e w49 ⟨rfl,d3⟩;simp only[aw] at d3;have eA:=(HA.out.later bm).jh (p:=must cn) (f:=fun _=>(do let every ← cY;return { kind:=3,name:=name,what:=12,cf:=cf,a:=a,every:=every }:Ps St)) (x:=()) aF d3 (aJ _ _);clear HA d3 bm gi;have HA:=hid eA;clear eA;generalize ae (must cn) acG=acH at*;go_wp2_with fail;refine(gM ρ _ acH _ HA.out.did.at_).mono ?_;rintro e w51 ⟨every,JD,Af,rfl,d2,eh⟩;have bh:=HA.out.jh (p:=cY) (f:=fun every=>(pure { kind:=3,name:=name,what:=12,cf:=cf,a:=a,every:=every }:Ps St)) (x:=every) aF d2 eh;clear HA d2 eh;generalize ae (cY) acH=alT at*;have dw:=bh.set (m':= { kind:=3,name:=name,what:=12,cf:=cf,a:=a,every:=every }) (d':= { kind:=3,name:=name,what:=12,cf:=cf,a:=a,every:=every }) aF 4 (.int .i64 every) rfl rfl { bh.at_ with every:=rfl };have hf:=bh.blk.frozen 4;have hc:=bh.blk.cell 4;have HA:=hid dw;clear bh dw;go_upto_region 46 with fail
  clear hf hc;have hz:(w51.setCell ⟨w.heap.size+1,4,none⟩ (.int .i64 every)).heap.size=w51.heap.size:=by simp[World.setCell]
  generalize w51.setCell ⟨w.heap.size+1,4,none⟩ (.int .i64 every)=W53 at*
  (try rw[← hz])
  clear hz;refine wp_region_lit ?_;refine wpList_load_row rfl 35 (.tmp 3) rfl (w.heap.size+1) rfl 35 (cx { kind:=3,name:=name,what:=12,cf:=cf,a:=a,every:=every }).toArray (0,0) _ HA.out.blk Tryz.underlying35 rfl (by rw[aZ];exact aS) ?_;refine wpList_store_row rfl 35 (.tmp 2) (.tmp 127) rfl w.heap.size (cx { kind:=3,name:=name,what:=12,cf:=cf,a:=a,every:=every }).toArray rfl rfl 35 eV HA.out.res (by rw[aZ];exact aS) rfl (ep _) ?_;refine wpList_nil ?_;simp only[Act.put,List.setIfInBounds_toArray,List.set_cons_succ,List.set_cons_zero];have HR:=HA.out.res.row (cx { kind:=3,name:=name,what:=12,cf:=cf,a:=a,every:=every }).toArray;have gf:=HA.out.post aF;have jy:=hid HR;have py:=hid gf;clear HR gf HA;generalize W53.setRow w.heap.size _=WF at*;go_wp2_with fail;refine bodyPost_ret (v:=np { kind:=3,name:=name,what:=12,cf:=cf,a:=a,every:=every }) ?_ rfl py.out;exact results_cell_row Tryz.results49 _ _ w.heap.size 35 (cx { kind:=3,name:=name,what:=12,cf:=cf,a:=a,every:=every }).toArray (0,0) _ rfl jy.out Tryz.underlying35 rfl (by rw[aZ];exact aS)
 ·have kz:=HA.out.bad rv (ri name 0 ByteArray.empty 0 0);clear HA rv;have HA:=hid kz;clear kz;unfold strOf;go_wp2_with fail;have gi:=HA.out.blk.lt;have bm:=aa w5 (.cells (aj [cn]) 9);refine(bk ρ _ yy _ (HA.out.did.at_.later bm) [cn] w5.heap.size 1 rfl (au.new w5 _ _) (by omega) (by omega)).mono ?_;rintro e w54 ⟨rfl,d3⟩;simp only[aw] at d3;have eA:=(HA.out.later bm).jh (p:=must cn) (f:=fun _=>(do let every ← cY;return { kind:=3,name:=name,every:=every }:Ps St)) (x:=()) aF d3 (aJ _ _);clear HA d3 bm gi;have HA:=hid eA;clear eA;generalize ae (must cn) yy=acI at*;go_wp2_with fail;refine(gM ρ _ acI _ HA.out.did.at_).mono ?_;rintro e w56 ⟨every,JD,Af,rfl,d2,eh⟩;have bh:=HA.out.jh (p:=cY) (f:=fun every=>(pure { kind:=3,name:=name,every:=every }:Ps St)) (x:=every) aF d2 eh;clear HA d2 eh;generalize ae (cY) acI=alV at*;have dw:=bh.set (m':= { kind:=3,name:=name,every:=every }) (d':= { kind:=3,name:=name,every:=every }) aF 4 (.int .i64 every) rfl rfl { bh.at_ with every:=rfl };have hf:=bh.blk.frozen 4;have hc:=bh.blk.cell 4;have HA:=hid dw;clear bh dw;go_upto_region 46 with fail
  clear hf hc;have hz:(w56.setCell ⟨w.heap.size+1,4,none⟩ (.int .i64 every)).heap.size=w56.heap.size:=by simp[World.setCell]
  generalize w56.setCell ⟨w.heap.size+1,4,none⟩ (.int .i64 every)=W58 at*
  (try rw[← hz])
  clear hz;refine wp_region_lit ?_;refine wpList_load_row rfl 35 (.tmp 3) rfl (w.heap.size+1) rfl 35 (cx { kind:=3,name:=name,every:=every }).toArray (0,0) _ HA.out.blk Tryz.underlying35 rfl (by rw[aZ];exact aS) ?_;refine wpList_store_row rfl 35 (.tmp 2) (.tmp 127) rfl w.heap.size (cx { kind:=3,name:=name,every:=every }).toArray rfl rfl 35 eV HA.out.res (by rw[aZ];exact aS) rfl (ep _) ?_;refine wpList_nil ?_;simp only[Act.put,List.setIfInBounds_toArray,List.set_cons_succ,List.set_cons_zero];have HR:=HA.out.res.row (cx { kind:=3,name:=name,every:=every }).toArray;have gf:=HA.out.post aF;have jy:=hid HR;have py:=hid gf;clear HR gf HA;generalize W58.setRow w.heap.size _=WF at*;go_wp2_with fail;refine bodyPost_ret (v:=np { kind:=3,name:=name,every:=every }) ?_ rfl py.out;exact results_cell_row Tryz.results49 _ _ w.heap.size 35 (cx { kind:=3,name:=name,every:=every }).toArray (0,0) _ rfl jy.out Tryz.underlying35 rfl (by rw[aZ];exact aS)
end Go.Proofs.YtcneefmaghoejaaGreatDoor
