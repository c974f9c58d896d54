/- Parts of the proof. -/
import Derived.Test.YtcneefmaghoejaaGreatDoorC34
namespace Go.Proofs.YtcneefmaghoejaaGreatDoor
open Go.Lib (hid)
open Go.ChangeShapes Go.WideShapes Go.ChangeAt Go.RowKit
set_option linter.unusedVariables false
set_option linter.unusedSimpArgs false
theorem Jj:(Tryz.prog.info? 25).map (fun i=>(i.zero,i.size,i.bytes))=some (some (.slice none 0 0),1,24):=by kernel_rfl
theorem Jk:(Tryz.prog.info? 73).map (fun i=>(i.zero,i.size,i.bytes))=some (some (.agg #[.string ⟨#[]⟩,.int .u8 0,.int .u8 0,.int .i64 0,.string ⟨#[]⟩,.string ⟨#[]⟩,.int .i64 0,.slice none 0 0]),8,104):=by kernel_rfl
def Y8 (y:Sl):List Value:=[eP y]
set_option maxHeartbeats 4000000
set_option maxRecDepth 100000
theorem Lz (ρ:br)(w:World)(t:Wd)(r:bH)(big:Bool)(h:ρ.at w (.good (t::r)) big)(hk:t.k=1)(hs:¬t.s=bt)(hc:(aW.good (t::r)).one cF=ew):
  Calls Tryz.prog 22 #[ρ.ptr] w (kr ρ w big aB (.good (t::r))):=by
 have aF:=h.jt;obtain⟨tk,pl,bd,hpl,hlt,hsm,kU,bQ,hg,mM,mA,hp⟩:=h.iB;obtain⟨r',gO⟩:=hg (t::r) rfl;injection gO with nk _;have hb:=ah.then (aa w fC) (aa _ fC)
 have h0:=h.later hb;have yC:=hp.later hb;have pD:=(au.new w 35 eV).alloc fC;have my:=au.new (w.alloc fC) 35 eV;rw[World.size_alloc] at my;have HL:=hid my;have HQ:=hid pD;have HC:=hid hc;have HH:=hid h;have HP:=hid yC;have lF:(aW.good (t::r)).head (⟨#[115,101,108,101,99,116]⟩:ByteArray).data.toList=false:=by have e:(aW.good (t::r)).head (⟨#[115,101,108,101,99,116]⟩:ByteArray).data.toList=((t.k==1 || t.k==4)&& t.s==bt):=rfl;rw[e,show(t.s==bt)=false from by simpa using hs,Bool.and_false]
 have sJ:=hid lF;clear my pD hc h hp yC hg bQ kU lF hpl;rw[show Obj.cells eV 35=fC from rfl] at HQ HL;unfold fC at*;go_enter Tryz.func22,Tryz.ntmps22;go_wp2_with fail;refine(fW ρ _ _ big h0 ⟨#[115,101,108,101,99,116]⟩).mono ?_;rintro e w1 ⟨rfl,b1⟩;rw[sJ.out];have oh:=HP.out.later b1;obtain⟨c0,c1,c2,d0,d1,d2,d3⟩:=oh;rw[← nk,hk] at d0;have hb1:=(ah.then hb b1).drew;have vu:=hid ((HL.out.later b1).drew);have jd:=hid ((HQ.out.later b1).drew);clear HL HQ HP h0 b1 hb;unfold br.ptr at*;go_wp2_with fail;go_region;clear c0 c1 c2 d0 d1 d2 d3;generalize w1.drew=W1 at*;go_wp2_with fail;have bm:=aa W1 (.cells (aj cF) 9);have gi:w.heap.size+1 < W1.heap.size:=vu.out.lt;refine(gV ρ _ _ big (HH.out.later (ah.then hb1 bm)) cF W1.heap.size 6 rfl (au.new W1 _ _) (by omega) (by omega)).mono ?_;rintro e w2 ⟨rfl,d2⟩;rw[HC.out];have BG:=(dV.aL HH.out (ah.then hb1 bm)).trans d2;have hA:jM ρ w big aB (.good (t::r)) ny w.heap.size (w.heap.size+1) w2 (ae (dC cF) (.good (t::r))) {} {}:=
  ⟨by simpa [St.long,Qu.long] using BG,(vu.out.alloc (.cells (aj cF) 9)).grown d2.grown (by simp;omega),(jd.out.alloc (.cells (aj cF) 9)).grown d2.grown (by simp;omega),St.fq _ _,(by have hf:=qg HC.out (by decide);rw[hf.2];exact PU hk hf.1),Nat.le_refl _,Nat.lt_succ_self _⟩
 have HA:=hid hA;clear hA vu jd d2 BG hb1 bm gi HH nk;generalize ae (dC cF) (.good (t::r))=fF at*;unfold strOf ew;have bh:=HA.out;clear HA;have dw:=bh.set (m':= { kind:=5 }) (d':= { kind:=5 }) aF 0 (.int .u8 5) rfl rfl { bh.at_ with kind:=rfl };have hf:=bh.blk.frozen 0;have hc:=bh.blk.cell 0;have HA:=hid dw;clear bh dw;go_wp2_with fail;clear hf hc;have hz:(w2.setCell ⟨w.heap.size+1,0,none⟩ (.int .u8 5)).heap.size=w2.heap.size:=by simp[World.setCell]
 generalize w2.setCell ⟨w.heap.size+1,0,none⟩ (.int .u8 5)=W1 at*
 (try rw[← hz])
 clear hz;have gi:=HA.out.blk.lt;have bm:=aa W1 (.cells (aj [fM]) 9);refine(bk ρ _ fF _ (HA.out.did.at_.later bm) [fM] W1.heap.size 1 rfl (au.new W1 _ _) (by omega) (by omega)).mono ?_;rintro e w2 ⟨rfl,d3⟩;simp only[aw] at d3;have eA:=(HA.out.later bm).jh (p:=must fM) (f:=fun _=>(do let name ← aN;must iR;let rows ← dx mL;return { kind:=5,name,rows }:Ps St)) (x:=()) aF d3 (aJ _ _);clear HA d3 bm gi;have HA:=hid eA;clear eA;generalize ae (must fM) fF=qa at*;go_wp2_with fail;refine(dY ρ _ qa _ HA.out.did.at_).mono ?_;rintro e w4 ⟨name,rfl,d2,eh⟩;have bh:=HA.out.jh (p:=aN) (f:=fun name=>(do must iR;let rows ← dx mL;return { kind:=5,name,rows }:Ps St)) (x:=name) aF d2 eh;clear HA d2 eh;generalize ae (aN) qa=Ud at*;have dw:=bh.set (m':= { kind:=5,name:=name }) (d':= { kind:=5,name:=name }) aF 1 (.string name) rfl rfl { bh.at_ with name:=rfl };have hf:=bh.blk.frozen 1;have hc:=bh.blk.cell 1;have HA:=hid dw;clear bh dw;go_wp2_with fail;clear hf hc;have hz:(w4.setCell ⟨w.heap.size+1,1,none⟩ (.string name)).heap.size=w4.heap.size:=by simp[World.setCell]
 generalize w4.setCell ⟨w.heap.size+1,1,none⟩ (.string name)=W6 at*
 (try rw[← hz])
 clear hz;have gi:=HA.out.blk.lt;have bm:=aa W6 (.cells (aj [iR]) 9);refine(bk ρ _ Ud _ (HA.out.did.at_.later bm) [iR] W6.heap.size 1 rfl (au.new W6 _ _) (by omega) (by omega)).mono ?_;rintro e w7 ⟨rfl,d3⟩;simp only[aw] at d3;have eA:=(HA.out.later bm).jh (p:=must iR) (f:=fun _=>(do let rows ← dx mL;return { kind:=5,name,rows }:Ps St)) (x:=()) aF d3 (aJ _ _);clear HA d3 bm gi;have HA:=hid eA;clear eA;generalize ae (must iR) Ud=Ls at*;go_wp2_with fail;have gi:=HA.out.blk.lt;refine fJ (P:=Tryz.prog) (f:=Y8) (val:=eP) (e:=25) (size:=1) (base:=w.heap.size+1+1) (l:=[]) (lv:=.slice none 0 0) (Post:=pW pL (fun r=>decide (64 < r.length)) ρ mL Ls (big || St.long { kind:=5,name:=name })) (w0:=w7) (q:=3) (d0:=61) (d1:=62) (d2:=63) (d3:=64) (d4:=65) (d5:=66) (d6:=67) (qb:=w.heap.size+1) (k:=19) (g:=ρ.g) (pq:=.pointer (some ⟨w.heap.size+1,0,none⟩)) (ptr:=ρ.ptr) (F:=52) (args:= #[ρ.ptr]) 30 30 _ 24 (by kernel_rfl) (by kernel_rfl) (by kernel_rfl) (by kernel_rfl) (by kernel_rfl) rfl rfl ?_ ?_ ?_ ?_ ?_ ?_ ?_ Tryz.underlying30 Jj rfl (by omega) (fun _=>rfl) (by intro y u hu;simp[Y8] at hu;subst hu;rfl) df.nil ?_ (by omega) ?_ ?_ ?_ ?_ (by omega) ?_ ?_ ?_
 ·intro ρ' w' h';simp[go_sem,h']
 ·intro ρ' w' h';simp[go_sem,h']
 ·intro ρ' w' h' hc';simp[go_sem,h',hc']
 ·intro ρ' w' h';simp[go_sem,h']
 ·intro ρ' w' hc' h';simp[go_sem,h',hc'.const,hc'.func]
 ·intro ρ' w' y' h';simp[go_sem,h',eP,Y8,bl]
 ·intro ρ' w' s' v' Co kB jH gO;simp only[execOp,resolve,invoke,builtin,Sem.run_bind,Sem.run_pure,Result.andThen_ok,List.map_toArray,List.map_cons,List.map_nil,kB,jH,gO]
 ·exact HA.out.blk.cell 19
 ·simp[Value.ownBlock]
 ·simp[Value.ownBlock]
 ·simp
 ·simp
 ·intro w' hw';refine(Il ρ w' Ls _ (HA.out.did.at_.later hw')).mono ?_;rintro e w'' ⟨x,y,rfl,hx,hd,hv⟩;exact⟨y,rfl,x,hx,hd,hv⟩
 ·rintro y w' w'' ⟨x,hx,hd,hv⟩;exact hd.grown
 ·intro y s v' w4 XS w5 Wa eU hp hl2 mC eB iz lz jW;obtain⟨A,n,c,x,rfl,zx,Oh,hI⟩:=CC.first (E:=pL) (T:=25) (i:=19) iV aF HA.out.did HA.out.blk HA.out.res HA.out.at_ HA.out.qb eU hp hl2 eB iz lz
  have HI:=hid hI;clear hI iz lz mC hp eU hl2 eB;simp only[Act.put,List.setIfInBounds_toArray,List.set_cons_succ,List.set_cons_zero];go_wp2_with fail;clear zx jW Oh;generalize Wa.setCell ⟨w.heap.size+1,19,none⟩ (.slice A n c)=W9 at*;go_loopg [] 5000 (fun k wr=>∃bU acc u,CC pL 25 (fun r=>decide (64 < r.length)) mL ρ w (big || St.long { kind:=5,name:=name }) Ls (w.heap.size) (w.heap.size+1) 19 (cx { kind:=5,name:=name }).toArray { kind:=5,name:=name } { kind:=5,name:=name } k u wr bU acc);case atStart=>exact⟨_,_,_,HI.out⟩
  case round=>
   obtain⟨bU,acc,u,hE⟩:=hrel;obtain⟨⟨A2,n2,c2⟩,fE,nO,_⟩:=hE.row.sl (B':=w.heap.size) (by omega);replace fE:u=.slice A2 n2 c2:=fE;replace nO:n2=acc.length:=nO;subst fE;have mM:0 < n2:=by have:=hE.pos;omega
   have mA:n2≤5001:=by have:=hE.few;omega
   have x0:wr.cell? ⟨w.heap.size+1,19,none⟩=some (.slice A2 n2 c2):=by rw[hE.blk.cell];rfl
   clear gi;have gi:=hE.blk.lt;have yi:=hid nO;have HE:=hid hE;clear hE nO HI;go_wp2_with fail;refine(nN ρ wr bU _ HE.out.did.at_ n2 (by omega)).mono ?_;rintro e w8 ⟨rfl,d8⟩;cases hh:bU.head ax
   ·rw[aG hh] at d8;obtain⟨sl,hS⟩:=CC.done (big:=big) iV HE.out aF yi.out hh d8 HA.out.todo (m':=fun sl=> { kind:=5,name:=name,rows:=sl }) (d':= { kind:=5,name:=name,rows:=acc }) (fun _=>rfl) (fun sl hl hat=> { hat with rows:=hl }) (by simp[St.long,Qu.long,any_false,Bool.or_assoc]);clear HA;have HA:=hid hS;clear hS d8 hh HE yi x0 gi mM mA;go_upto_region 59 with fail
    refine wp_region_lit ?_;refine wpList_load_row rfl 35 (.tmp 3) rfl (w.heap.size+1) rfl 35 (cx { kind:=5,name:=name,rows:=sl }).toArray (0,0) _ HA.out.blk Tryz.underlying35 rfl (by rw[aZ];exact aS) ?_;refine wpList_store_row rfl 35 (.tmp 2) (.tmp 164) rfl w.heap.size (cx { kind:=5,name:=name,rows:=sl }).toArray rfl rfl 35 eV HA.out.res (by rw[aZ];exact aS) rfl (ep _) ?_;refine wpList_nil ?_;simp only[Act.put,List.setIfInBounds_toArray,List.set_cons_succ,List.set_cons_zero];have HR:=HA.out.res.row (cx { kind:=5,name:=name,rows:=sl }).toArray;have gf:=HA.out.post aF;have jy:=hid HR;have py:=hid gf;clear HR gf HA;generalize w8.setRow w.heap.size _=WF at*;go_wp2_with fail;refine bodyPost_ret (v:=np { kind:=5,name:=name,rows:=sl }) ?_ rfl py.out;exact results_cell_row Tryz.results22 _ _ w.heap.size 35 (cx { kind:=5,name:=name,rows:=sl }).toArray (0,0) _ rfl jy.out Tryz.underlying35 rfl (by rw[aZ];exact aS)
   ·rw[aP hh] at d8;have lB:=hid hh;clear hh;obtain⟨xi,zE,hown,hw8,(ys:List (Sl)),ho,OT,Ba,ha⟩:=HE.out.more aF d8;replace Ba:(ys:List (Sl)).length≤5001:=Ba;clear OT;go_wp2_with fail;refine fJ (P:=Tryz.prog) (f:=Y8) (val:=eP) (e:=25) (size:=1) (base:=w.heap.size+1+1) (l:=ys) (lv:=.slice A2 n2 c2) (Post:=pW pL (fun r=>decide (64 < r.length)) ρ mL (.good bU.words.tail) ((((big || St.long { kind:=5,name:=name })|| decide (64 < acc.length - 1))|| acc.any (fun r=>decide (64 < r.length)))|| decide (64 < n2))) (w0:=w8) (q:=3) (d0:=73) (d1:=74) (d2:=75) (d3:=76) (d4:=77) (d5:=78) (d6:=79) (qb:=w.heap.size+1) (k:=19) (g:=ρ.g) (pq:=.pointer (some ⟨w.heap.size+1,0,none⟩)) (ptr:=ρ.ptr) (F:=52) (args:= #[ρ.ptr]) 30 30 _ 24 (by kernel_rfl) (by kernel_rfl) (by kernel_rfl) (by kernel_rfl) (by kernel_rfl) rfl rfl ?_ ?_ ?_ ?_ ?_ ?_ ?_ Tryz.underlying30 Jj rfl (by omega) (fun _=>rfl) (by intro y u hu;simp[Y8] at hu;subst hu;rfl) ho ?_ (by omega) ?_ ?_ ?_ ?_ (by omega) ?_ ?_ ?_
    ·intro ρ' w' h';simp[go_sem,h']
    ·intro ρ' w' h';simp[go_sem,h']
    ·intro ρ' w' h' hc';simp[go_sem,h',hc']
    ·intro ρ' w' h';simp[go_sem,h']
    ·intro ρ' w' hc' h';simp[go_sem,h',hc'.const,hc'.func]
    ·intro ρ' w' y' h';simp[go_sem,h',eP,Y8,bl]
    ·intro ρ' w' s' v' Co kB jH gO;simp only[execOp,resolve,invoke,builtin,Sem.run_bind,Sem.run_pure,Result.andThen_ok,List.map_toArray,List.map_cons,List.map_nil,kB,jH,gO]
    ·exact(by rw[zE.cell];rfl)
    ·intro e';have:=hown _ e';omega
    ·intro e';have:=hown _ e';omega
    ·omega
    ·omega
    ·intro w' hw';refine(Il ρ w' (.good bU.words.tail) _ (xi.at_.later hw')).mono ?_;rintro e w'' ⟨x,y,rfl,hx,hd,hv⟩;exact⟨y,rfl,x,hx,hd,hv⟩
    ·rintro y w' w'' ⟨x,hx,hd,hv⟩;exact hd.grown
    ·intro y9 s9 v9 w4 XS w5 W9 eU hp hl2 mC eB iz lz jW;obtain⟨A9,n9,c9,x9,rfl,zx,Oh,hlt,hI⟩:=CC.next iV HE.out aF yi.out lB.out d8 ha eU hp hl2 eB iz lz;have XT:=hid hI;have HLT:=hid hlt;clear hI hlt iz lz mC hp eU hl2 eB ha ho hown zE xi;simp only[Act.put,List.setIfInBounds_toArray,List.set_cons_succ,List.set_cons_zero];go_wp2_with fail;go_roundg (ae mL (aW.good bU.words.tail)).left;case measure=>exact HLT.out
     case rel=>exact⟨_,_,_,XT.out⟩
theorem LA (ρ:br)(w:World)(t:Wd)(r:bH)(big:Bool)(h:ρ.at w (.good (t::r)) big)(hk:t.k=1)(hs:¬t.s=bt)(hc:(aW.good (t::r)).one cF=ey):
  Calls Tryz.prog 22 #[ρ.ptr] w (kr ρ w big aB (.good (t::r))):=by
 have aF:=h.jt;obtain⟨tk,pl,bd,hpl,hlt,hsm,kU,bQ,hg,mM,mA,hp⟩:=h.iB;obtain⟨r',gO⟩:=hg (t::r) rfl;injection gO with nk _;have hb:=ah.then (aa w fC) (aa _ fC)
 have h0:=h.later hb;have yC:=hp.later hb;have pD:=(au.new w 35 eV).alloc fC;have my:=au.new (w.alloc fC) 35 eV;rw[World.size_alloc] at my;have HL:=hid my;have HQ:=hid pD;have HC:=hid hc;have HH:=hid h;have HP:=hid yC;have lF:(aW.good (t::r)).head (⟨#[115,101,108,101,99,116]⟩:ByteArray).data.toList=false:=by have e:(aW.good (t::r)).head (⟨#[115,101,108,101,99,116]⟩:ByteArray).data.toList=((t.k==1 || t.k==4)&& t.s==bt):=rfl;rw[e,show(t.s==bt)=false from by simpa using hs,Bool.and_false]
 have sJ:=hid lF;clear my pD hc h hp yC hg bQ kU lF hpl;rw[show Obj.cells eV 35=fC from rfl] at HQ HL;unfold fC at*;go_enter Tryz.func22,Tryz.ntmps22;go_wp2_with fail;refine(fW ρ _ _ big h0 ⟨#[115,101,108,101,99,116]⟩).mono ?_;rintro e w1 ⟨rfl,b1⟩;rw[sJ.out];have oh:=HP.out.later b1;obtain⟨c0,c1,c2,d0,d1,d2,d3⟩:=oh;rw[← nk,hk] at d0;have hb1:=(ah.then hb b1).drew;have vu:=hid ((HL.out.later b1).drew);have jd:=hid ((HQ.out.later b1).drew);clear HL HQ HP h0 b1 hb;unfold br.ptr at*;go_wp2_with fail;go_region;clear c0 c1 c2 d0 d1 d2 d3;generalize w1.drew=W1 at*;go_wp2_with fail;have bm:=aa W1 (.cells (aj cF) 9);have gi:w.heap.size+1 < W1.heap.size:=vu.out.lt;refine(gV ρ _ _ big (HH.out.later (ah.then hb1 bm)) cF W1.heap.size 6 rfl (au.new W1 _ _) (by omega) (by omega)).mono ?_;rintro e w2 ⟨rfl,d2⟩;rw[HC.out];have BG:=(dV.aL HH.out (ah.then hb1 bm)).trans d2;have hA:jM ρ w big aB (.good (t::r)) nz w.heap.size (w.heap.size+1) w2 (ae (dC cF) (.good (t::r))) {} {}:=
  ⟨by simpa [St.long,Qu.long] using BG,(vu.out.alloc (.cells (aj cF) 9)).grown d2.grown (by simp;omega),(jd.out.alloc (.cells (aj cF) 9)).grown d2.grown (by simp;omega),St.fq _ _,(by have hf:=qg HC.out (by decide);rw[hf.2];exact PV hk hf.1),Nat.le_refl _,Nat.lt_succ_self _⟩
 have HA:=hid hA;clear hA vu jd d2 BG hb1 bm gi HH nk;generalize ae (dC cF) (.good (t::r))=fF at*;unfold strOf ey;have bh:=HA.out;clear HA;have dw:=bh.set (m':= { kind:=6 }) (d':= { kind:=6 }) aF 0 (.int .u8 6) rfl rfl { bh.at_ with kind:=rfl };have hf:=bh.blk.frozen 0;have hc:=bh.blk.cell 0;have HA:=hid dw;clear bh dw;go_wp2_with fail;clear hf hc;have hz:(w2.setCell ⟨w.heap.size+1,0,none⟩ (.int .u8 6)).heap.size=w2.heap.size:=by simp[World.setCell]
 generalize w2.setCell ⟨w.heap.size+1,0,none⟩ (.int .u8 6)=W1 at*
 (try rw[← hz])
 clear hz;refine(dY ρ _ fF _ HA.out.did.at_).mono ?_;rintro e w2 ⟨name,rfl,d2,eh⟩;have bh:=HA.out.jh (p:=aN) (f:=fun name=>(do must qU;let ej ← dx oJ;let bK ← cL eO;return { kind:=6,name,ej,bK }:Ps St)) (x:=name) aF d2 eh;clear HA d2 eh;generalize ae (aN) fF=qa at*;have dw:=bh.set (m':= { kind:=6,name:=name }) (d':= { kind:=6,name:=name }) aF 1 (.string name) rfl rfl { bh.at_ with name:=rfl };have hf:=bh.blk.frozen 1;have hc:=bh.blk.cell 1;have HA:=hid dw;clear bh dw;go_wp2_with fail;clear hf hc;have hz:(w2.setCell ⟨w.heap.size+1,1,none⟩ (.string name)).heap.size=w2.heap.size:=by simp[World.setCell]
 generalize w2.setCell ⟨w.heap.size+1,1,none⟩ (.string name)=W4 at*
 (try rw[← hz])
 clear hz;have gi:=HA.out.blk.lt;have bm:=aa W4 (.cells (aj [qU]) 9);refine(bk ρ _ qa _ (HA.out.did.at_.later bm) [qU] W4.heap.size 1 rfl (au.new W4 _ _) (by omega) (by omega)).mono ?_;rintro e w5 ⟨rfl,d3⟩;simp only[aw] at d3;have eA:=(HA.out.later bm).jh (p:=must qU) (f:=fun _=>(do let ej ← dx oJ;let bK ← cL eO;return { kind:=6,name,ej,bK }:Ps St)) (x:=()) aF d3 (aJ _ _);clear HA d3 bm gi;have HA:=hid eA;clear eA;generalize ae (must qU) qa=yy at*;go_wp2_with fail;have gi:=HA.out.blk.lt;refine fJ (P:=Tryz.prog) (f:=M9) (val:=X7) (e:=73) (size:=8) (base:=w.heap.size+1+1) (l:=[]) (lv:=.slice none 0 0) (Post:=pW pK (fun _=>false) ρ oJ yy (big || St.long { kind:=6,name:=name })) (w0:=w5) (q:=3) (d0:=89) (d1:=90) (d2:=91) (d3:=92) (d4:=93) (d5:=94) (d6:=95) (qb:=w.heap.size+1) (k:=20) (g:=ρ.g) (pq:=.pointer (some ⟨w.heap.size+1,0,none⟩)) (ptr:=ρ.ptr) (F:=54) (args:= #[ρ.ptr]) 31 31 _ 104 (by kernel_rfl) (by kernel_rfl) (by kernel_rfl) (by kernel_rfl) (by kernel_rfl) rfl rfl ?_ ?_ ?_ ?_ ?_ ?_ ?_ Tryz.underlying31 Jk rfl (by omega) (fun _=>rfl) (by intro y u hu;simp[M9,bl] at hu;rcases hu with rfl | rfl | rfl | rfl | rfl | rfl | rfl | rfl <;> rfl) df.nil ?_ (by omega) ?_ ?_ ?_ ?_ (by omega) ?_ ?_ ?_
 ·intro ρ' w' h';simp[go_sem,h']
 ·intro ρ' w' h';simp[go_sem,h']
 ·intro ρ' w' h' hc';simp[go_sem,h',hc']
 ·intro ρ' w' h';simp[go_sem,h']
 ·intro ρ' w' hc' h';simp[go_sem,h',hc'.const,hc'.func]
 ·intro ρ' w' y' h';simp[go_sem,h',X7,M9,bl]
 ·intro ρ' w' s' v' Co kB jH gO;simp only[execOp,resolve,invoke,builtin,Sem.run_bind,Sem.run_pure,Result.andThen_ok,List.map_toArray,List.map_cons,List.map_nil,kB,jH,gO]
 ·exact HA.out.blk.cell 20
 ·simp[Value.ownBlock]
 ·simp[Value.ownBlock]
 ·simp
 ·simp
 ·intro w' hw';refine(Im ρ w' yy _ (HA.out.did.at_.later hw')).mono ?_;rintro e w'' ⟨x,y,rfl,hx,hd,hv⟩;exact⟨y,rfl,x,hx,hd,hv⟩
 ·rintro y w' w'' ⟨x,hx,hd,hv⟩;exact hd.grown
 ·intro y s v' w4 XS w5 Wa eU hp hl2 mC eB iz lz jW;obtain⟨A,n,c,x,rfl,zx,Oh,hI⟩:=CC.first (E:=pK) (T:=73) (i:=20) kg aF HA.out.did HA.out.blk HA.out.res HA.out.at_ HA.out.qb eU hp hl2 eB iz lz
  have HI:=hid hI;clear hI iz lz mC hp eU hl2 eB;simp only[Act.put,List.setIfInBounds_toArray,List.set_cons_succ,List.set_cons_zero];go_wp2_with fail;clear zx jW Oh;generalize Wa.setCell ⟨w.heap.size+1,20,none⟩ (.slice A n c)=W7 at*;go_loopg [] 5000 (fun k wr=>∃bU acc u,CC pK 73 (fun _=>false) oJ ρ w (big || St.long { kind:=6,name:=name }) yy (w.heap.size) (w.heap.size+1) 20 (cx { kind:=6,name:=name }).toArray { kind:=6,name:=name } { kind:=6,name:=name } k u wr bU acc);case atStart=>exact⟨_,_,_,HI.out⟩
  case round=>
   obtain⟨bU,acc,u,hE⟩:=hrel;obtain⟨⟨A2,n2,c2⟩,fE,nO,_⟩:=hE.row.sl (B':=w.heap.size) (by omega);replace fE:u=.slice A2 n2 c2:=fE;replace nO:n2=acc.length:=nO;subst fE;have mM:0 < n2:=by have:=hE.pos;omega
   have mA:n2≤5001:=by have:=hE.few;omega
   have x0:wr.cell? ⟨w.heap.size+1,20,none⟩=some (.slice A2 n2 c2):=by rw[hE.blk.cell];rfl
   clear gi;have gi:=hE.blk.lt;have yi:=hid nO;have HE:=hid hE;clear hE nO HI;go_wp2_with fail;refine(nN ρ wr bU _ HE.out.did.at_ n2 (by omega)).mono ?_;rintro e w8 ⟨rfl,d8⟩;cases hh:bU.head ax
   ·rw[aG hh] at d8;obtain⟨sl,hS⟩:=CC.done (big:=big) kg HE.out aF yi.out hh d8 HA.out.todo (m':=fun sl=> { kind:=6,name:=name,ej:=sl }) (d':= { kind:=6,name:=name,ej:=acc }) (fun _=>rfl) (fun sl hl hat=> { hat with ej:=hl }) (by simp[St.long,Qu.long,any_false,Bool.or_assoc]);clear HA;have HA:=hid hS;clear hS d8 hh HE yi x0 gi mM mA;go_wp2_with fail;refine(wz ρ _ bU _ HA.out.did.at_ ⟨#[119,104,101,114,101]⟩).mono ?_;rintro e w8 ⟨bK,sw,rfl,hsw,d2,eh⟩;have hs7:=HA.out.did.size;have hq7:=HA.out.blk.lt;have bh:=HA.out.jh (p:=cL eO) (f:=fun bK=>(pure { kind:=6,name:=name,ej:=acc,bK:=bK }:Ps St)) (x:=bK) aF d2 eh;clear HA d2 eh;generalize Ue:ae (cL eO) bU=VZ at*;clear Ue;have dw:=bh.set (m':= { kind:=6,name:=name,ej:=sl,bK:=sw }) (d':= { kind:=6,name:=name,ej:=acc,bK:=bK }) aF 21 (eP sw) rfl rfl { bh.at_ with bK:=El.lies.more hsw (by omega)};have hf:=bh.blk.frozen 21;have hc:=bh.blk.cell 21;have HA:=hid dw;clear bh dw hsw hs7 hq7;obtain⟨rB,rC,rD⟩:=sw;unfold eP at*;go_upto_region 59 with fail
    clear hf hc;generalize w8.setCell ⟨w.heap.size+1,21,none⟩ (.slice rB rC rD)=Zl at*;refine wp_region_lit ?_;refine wpList_load_row rfl 35 (.tmp 3) rfl (w.heap.size+1) rfl 35 (cx { kind:=6,name:=name,ej:=sl,bK:=⟨rB,rC,rD⟩}).toArray (0,0) _ HA.out.blk Tryz.underlying35 rfl (by rw[aZ];exact aS) ?_;refine wpList_store_row rfl 35 (.tmp 2) (.tmp 164) rfl w.heap.size (cx { kind:=6,name:=name,ej:=sl,bK:=⟨rB,rC,rD⟩}).toArray rfl rfl 35 eV HA.out.res (by rw[aZ];exact aS) rfl (ep _) ?_;refine wpList_nil ?_;simp only[Act.put,List.setIfInBounds_toArray,List.set_cons_succ,List.set_cons_zero];have HR:=HA.out.res.row (cx { kind:=6,name:=name,ej:=sl,bK:=⟨rB,rC,rD⟩}).toArray;have gf:=HA.out.post aF;have jy:=hid HR;have py:=hid gf;clear HR gf HA;generalize Zl.setRow w.heap.size _=WF at*;go_wp2_with fail;refine bodyPost_ret (v:=np { kind:=6,name:=name,ej:=sl,bK:=⟨rB,rC,rD⟩}) ?_ rfl py.out;exact results_cell_row Tryz.results22 _ _ w.heap.size 35 (cx { kind:=6,name:=name,ej:=sl,bK:=⟨rB,rC,rD⟩}).toArray (0,0) _ rfl jy.out Tryz.underlying35 rfl (by rw[aZ];exact aS)
   ·rw[aP hh] at d8;have lB:=hid hh;clear hh;obtain⟨xi,zE,hown,hw8,(ys:List (ByteArray×Ex)),ho,OT,Ba,ha⟩:=HE.out.more aF d8;replace Ba:(ys:List (ByteArray×Ex)).length≤5001:=Ba;clear OT;go_wp2_with fail;refine fJ (P:=Tryz.prog) (f:=M9) (val:=X7) (e:=73) (size:=8) (base:=w.heap.size+1+1) (l:=ys) (lv:=.slice A2 n2 c2) (Post:=pW pK (fun _=>false) ρ oJ (.good bU.words.tail) ((((big || St.long { kind:=6,name:=name })|| decide (64 < acc.length - 1))|| acc.any (fun _=>false))|| decide (64 < n2))) (w0:=w8) (q:=3) (d0:=101) (d1:=102) (d2:=103) (d3:=104) (d4:=105) (d5:=106) (d6:=107) (qb:=w.heap.size+1) (k:=20) (g:=ρ.g) (pq:=.pointer (some ⟨w.heap.size+1,0,none⟩)) (ptr:=ρ.ptr) (F:=54) (args:= #[ρ.ptr]) 31 31 _ 104 (by kernel_rfl) (by kernel_rfl) (by kernel_rfl) (by kernel_rfl) (by kernel_rfl) rfl rfl ?_ ?_ ?_ ?_ ?_ ?_ ?_ Tryz.underlying31 Jk rfl (by omega) (fun _=>rfl) (by intro y u hu;simp[M9,bl] at hu;rcases hu with rfl | rfl | rfl | rfl | rfl | rfl | rfl | rfl <;> rfl) ho ?_ (by omega) ?_ ?_ ?_ ?_ (by omega) ?_ ?_ ?_
    ·intro ρ' w' h';simp[go_sem,h']
    ·intro ρ' w' h';simp[go_sem,h']
    ·intro ρ' w' h' hc';simp[go_sem,h',hc']
    ·intro ρ' w' h';simp[go_sem,h']
    ·intro ρ' w' hc' h';simp[go_sem,h',hc'.const,hc'.func]
    ·intro ρ' w' y' h';simp[go_sem,h',X7,M9,bl]
    ·intro ρ' w' s' v' Co kB jH gO;simp only[execOp,resolve,invoke,builtin,Sem.run_bind,Sem.run_pure,Result.andThen_ok,List.map_toArray,List.map_cons,List.map_nil,kB,jH,gO]
    ·exact(by rw[zE.cell];rfl)
    ·intro e';have:=hown _ e';omega
    ·intro e';have:=hown _ e';omega
    ·omega
    ·omega
    ·intro w' hw';refine(Im ρ w' (.good bU.words.tail) _ (xi.at_.later hw')).mono ?_;rintro e w'' ⟨x,y,rfl,hx,hd,hv⟩;exact⟨y,rfl,x,hx,hd,hv⟩
    ·rintro y w' w'' ⟨x,hx,hd,hv⟩;exact hd.grown
    ·intro y9 s9 v9 w4 XS w5 W9 eU hp hl2 mC eB iz lz jW;obtain⟨A9,n9,c9,x9,rfl,zx,Oh,hlt,hI⟩:=CC.next kg HE.out aF yi.out lB.out d8 ha eU hp hl2 eB iz lz;have XT:=hid hI;have HLT:=hid hlt;clear hI hlt iz lz mC hp eU hl2 eB ha ho hown zE xi;simp only[Act.put,List.setIfInBounds_toArray,List.set_cons_succ,List.set_cons_zero];go_wp2_with fail;go_roundg (ae oJ (aW.good bU.words.tail)).left;case measure=>exact HLT.out
     case rel=>exact⟨_,_,_,XT.out⟩
end Go.Proofs.YtcneefmaghoejaaGreatDoor
