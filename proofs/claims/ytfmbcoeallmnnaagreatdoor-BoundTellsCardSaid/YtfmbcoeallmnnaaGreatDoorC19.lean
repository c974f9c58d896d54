/- Parts of the proof. -/
import Derived.LaidMore
import Derived.Stop.Joined
import Derived.HandedShaped
import Derived.Lay
import Derived.Lib.LaidTab
import Derived.Test.YtfmbcoeallmnnaaGreatDoorC18
namespace Go.Proofs.YtfmbcoeallmnnaaGreatDoor
open Go.Lib (hid)
open Go.ChangeShapes Go.WideShapes Go.ChangeAt Go.RowKit
set_option linter.unusedVariables false
set_option linter.unusedSimpArgs false
theorem Tr.MR (aq:ByteArray)(t:Tr)(y:Ex)(w:World)(aS:t.ok)(hf:Sub t)(hat:t.at_ w (Old w) y):∀W,Below w.heap.size w W→Calls Tryz.prog 17 #[Ig y,.string aq] W (dv (t.value aq) W):=by
 refine Tr.tell (Tr.value aq) Sub (fun W y s=>Calls Tryz.prog 17 #[Ig y,.string aq] W (dv s W)) (fun op v name width ts h=>(jA op v name width ts h).1) ?_ t y w aS hf hat;intro op v name width ts A c args w aS hs hlen hm hA hall hE;obtain⟨_,hfn⟩:=jA op v name width ts hs;obtain⟨hf2,OC⟩:=mP hfn;unfold Tr.value;rw[qh,← hm];unfold Tr.ok at aS;by_cases h1:op=16∨op=17∨op=10
 ·obtain⟨t1,t2,a,b,rfl,rfl,ha,hb⟩:=qZ (hf2 (by omega) (by omega)) hlen hm hall;have ca:cW 17 aq w a (t1.value aq):=fun W hW=>hE (a,_) (by simp) W hW
  have cb:cW 17 aq w b (t2.value aq):=fun W hW=>hE (b,_) (by simp) W hW
  rcases h1 with rfl | rfl | rfl
  ·exact Jx v name width A c aq w a b _ _ hA ca cb
  ·exact MG v name width A c aq w a b _ _ hA ca cb
  ·have k:=MH v name width A c aq w a b hA;unfold yM at k;rw[qi ha hb] at k;exact k
 ·have rI:(op==16)=false:=by simp;omega
  have rJ:(op==17)=false:=by simp;omega
  have Xo:(op==10)=false:=by simp;omega
  unfold Qa;rw[if_neg (by omega),if_neg (by omega),if_neg (by omega)];exact Gp op v name width A args.length c aq w rI rJ Xo
theorem Tr.MS (aq:ByteArray)(t:Tr)(y:Ex)(w:World)(aS:t.ok)(hf:Sub t)(hat:t.at_ w (Old w) y):∀W,Below w.heap.size w W→Calls Tryz.prog 19 #[Ig y,.string aq] W (dv (t.value aq) W):=by
 refine Tr.tell (Tr.value aq) Sub (fun W y s=>Calls Tryz.prog 19 #[Ig y,.string aq] W (dv s W)) (fun op v name width ts h=>(jA op v name width ts h).1) ?_ t y w aS hf hat;intro op v name width ts A c args w aS hs hlen hm hA hall hE;obtain⟨_,hfn⟩:=jA op v name width ts hs;obtain⟨hf2,OC⟩:=mP hfn;unfold Tr.value;rw[qh,← hm];unfold Tr.ok at aS;by_cases h1:op=16∨op=17∨op=10
 ·obtain⟨t1,t2,a,b,rfl,rfl,ha,hb⟩:=qZ (hf2 (by omega) (by omega)) hlen hm hall;have ca:cW 19 aq w a (t1.value aq):=fun W hW=>hE (a,_) (by simp) W hW
  have cb:cW 19 aq w b (t2.value aq):=fun W hW=>hE (b,_) (by simp) W hW
  rcases h1 with rfl | rfl | rfl
  ·exact JA v name width A c aq w a b _ _ hA ca cb
  ·exact MN v name width A c aq w a b _ _ hA ca cb
  ·have k:=MO v name width A c aq w a b hA;unfold yM at k;rw[qi ha hb] at k;exact k
 ·have rI:(op==16)=false:=by simp;omega
  have rJ:(op==17)=false:=by simp;omega
  have Xo:(op != 10)=true:=by simp;omega
  unfold Qa;rw[if_neg (by omega),if_neg (by omega),if_neg (by omega)];exact Gr op v name width A args.length c aq w rI rJ Xo
theorem RE.one {w:World} {B:Nat} {A:Option Addr} {a:Ex}(h:RE w B A [a]):∃q off,A=some ⟨q,off,none⟩∧q < B∧bp w q off a:=by
 rcases h with h |⟨q,off,h1,h2,h3⟩
 ·cases h
 ·exact⟨q,off,h1,h2,h3 0 a rfl⟩
structure iH (w:World) (ts:List Tr) (A:Option Addr) (n:Nat):Prop where
 n:n=ts.length
 lies:∃ys,LV w (Old w) A ys∧Tr.bL w (Old w) ts ys
theorem iH.later {w w':World} {ts:List Tr} {A:Option Addr} {n:Nat}(h:iH w ts A n)(hb:Below w.heap.size w w'):iH w' ts A n:=by obtain⟨h1,ys,h2,h3⟩:=h;exact⟨h1,ys,h2.keep fun b hS=>⟨fun o=>hb.cell (p:=⟨b,o,none⟩) hS,Nat.lt_of_lt_of_le hS hb.size⟩,h3.later hb⟩
theorem iH.one {w:World} {t:Tr} {A:Option Addr} {n:Nat}(h:iH w [t] A n):n=1∧∃y,RE w w.heap.size A [y]∧t.at_ w (Old w) y:=by obtain⟨h1,ys,h2,h3⟩:=h;unfold Tr.bL at h3;obtain⟨y,ys',rfl,h4,h5⟩:=h3;unfold Tr.bL at h5;subst h5;exact⟨h1,y,h2.old,h4⟩
set_option maxHeartbeats 1000000
set_option maxRecDepth 100000
theorem JH (A:Option Addr)(n c:Nat)(w:World)(hn:((n:Int)==1)=false):Calls Tryz.prog 16 #[.slice A n c] w fun e w'=>e=.returned (.bool false)∧Below w.heap.size w w':=by have hb:=Below.refl w.heap.size w;go_enter Tryz.func16,Tryz.ntmps16;go_wp2_with fail;go_ret;exact⟨rfl,hb⟩
theorem QG (A:Option Addr)(c:Nat)(w:World)(y:Ex)(d:Int)(f s:Bool)(hA:RE w w.heap.size A [y])(hd:rS 27 w y d)(hf:ie 28 w y f)(hs:ie 29 w y s):
  Calls Tryz.prog 16 #[.slice A 1 c] w fun e w'=>e=.returned (.bool (decide (d≤32)&&(f && s)))∧Below w.heap.size w w':=by
 obtain⟨q,off,rfl,hq,hx⟩:=hA.one;have HX:=hid hx;clear hA;have hx0:=hx;unfold bp at hx;go_enter Tryz.func16,Tryz.ntmps16;go_wp2_with fail;refine(hd _ (Below.refl _ _)).mono ?_;rintro e w1 ⟨rfl,b1⟩;have hB:=b1;have hx1:=HX.out.keep fun o=>b1.cell (p:=⟨q,o,none⟩) hq
 clear hx b1 hx0;unfold bp at hx1;cases h1:decide (d≤32)
 ·go_wp2_with fail;go_ret;exact⟨by rw[h1];rfl,hB⟩
 go_wp2_with fail;refine(hf _ hB).mono ?_;rintro e w2 ⟨rfl,b2⟩;replace hB:=ae.then hB b2
 have hx2:=HX.out.keep fun o=>hB.cell (p:=⟨q,o,none⟩) hq
 clear hx1 b2;unfold bp at hx2;cases f
 ·go_wp2_with fail;go_ret;exact⟨by rw[h1];rfl,hB⟩
 go_wp2_with fail;refine(hs _ hB).mono ?_;rintro e w3 ⟨rfl,b2⟩;replace hB:=ae.then hB b2
 clear hx2 b2;go_wp2_with fail;go_ret;exact⟨by rw[h1];rfl,hB⟩
theorem vo (ts:List Tr)(A:Option Addr)(n c:Nat)(w:World)(aS:Tr.iW ts)(h:iH w ts A n):Calls Tryz.prog 16 #[.slice A n c] w fun e w'=>e=.returned (.bool (pG ts))∧Below w.heap.size w w':=by
 match ts,h,aS with
 | [],h,aS=>exact JH A n c w (by have:=h.n;simp at this;simp;omega)
 | t::u::r,h,aS=>exact JH A n c w (by have:=h.n;simp at this;simp;omega)
 | [t],h,aS=>obtain⟨rfl,y,h2,h3⟩:=h.one;unfold Tr.iW at aS;exact QG A c w y _ _ _ h2 (Tr.Gx t y w aS.1 h3) (Tr.Gz t y w aS.1 h3) (Tr.Ey t y w aS.1 h3)
theorem JI (A:Option Addr)(n c:Nat)(w:World)(hn:((n:Int)==1)=false):Calls Tryz.prog 18 #[.slice A n c] w fun e w'=>e=.returned (.bool false)∧Below w.heap.size w w':=by have hb:=Below.refl w.heap.size w;go_enter Tryz.func18,Tryz.ntmps18;go_wp2_with fail;go_ret;exact⟨rfl,hb⟩
theorem QH (A:Option Addr)(c:Nat)(w:World)(y:Ex)(d:Int)(f s:Bool)(hA:RE w w.heap.size A [y])(hd:rS 31 w y d)(hf:ie 32 w y f)(hs:ie 33 w y s):
  Calls Tryz.prog 18 #[.slice A 1 c] w fun e w'=>e=.returned (.bool (decide (d≤32)&&(f && s)))∧Below w.heap.size w w':=by
 obtain⟨q,off,rfl,hq,hx⟩:=hA.one;have HX:=hid hx;clear hA;have hx0:=hx;unfold bp at hx;go_enter Tryz.func18,Tryz.ntmps18;go_wp2_with fail;refine(hd _ (Below.refl _ _)).mono ?_;rintro e w1 ⟨rfl,b1⟩;have hB:=b1;have hx1:=HX.out.keep fun o=>b1.cell (p:=⟨q,o,none⟩) hq
 clear hx b1 hx0;unfold bp at hx1;cases h1:decide (d≤32)
 ·go_wp2_with fail;go_ret;exact⟨by rw[h1];rfl,hB⟩
 go_wp2_with fail;refine(hf _ hB).mono ?_;rintro e w2 ⟨rfl,b2⟩;replace hB:=ae.then hB b2
 have hx2:=HX.out.keep fun o=>hB.cell (p:=⟨q,o,none⟩) hq
 clear hx1 b2;unfold bp at hx2;cases f
 ·go_wp2_with fail;go_ret;exact⟨by rw[h1];rfl,hB⟩
 go_wp2_with fail;refine(hs _ hB).mono ?_;rintro e w3 ⟨rfl,b2⟩;replace hB:=ae.then hB b2
 clear hx2 b2;go_wp2_with fail;go_ret;exact⟨by rw[h1];rfl,hB⟩
theorem vp (ts:List Tr)(A:Option Addr)(n c:Nat)(w:World)(aS:Tr.iW ts)(h:iH w ts A n):Calls Tryz.prog 18 #[.slice A n c] w fun e w'=>e=.returned (.bool (pG ts))∧Below w.heap.size w w':=by
 match ts,h,aS with
 | [],h,aS=>exact JI A n c w (by have:=h.n;simp at this;simp;omega)
 | t::u::r,h,aS=>exact JI A n c w (by have:=h.n;simp at this;simp;omega)
 | [t],h,aS=>obtain⟨rfl,y,h2,h3⟩:=h.one;unfold Tr.iW at aS;exact QH A c w y _ _ _ h2 (Tr.Gy t y w aS.1 h3) (Tr.GA t y w aS.1 h3) (Tr.uO t y w aS.1 h3)
theorem oK {ts:List Tr}(h:pG ts=true):∃t,ts=[t]∧Sub t:=by
 match ts,h with
 | [t],h=>unfold pG at h;rw[Bool.and_eq_true,Bool.and_eq_true] at h;exact⟨t,rfl,h.2.1⟩
theorem oL (ts:List Tr)(A:Option Addr)(n c:Nat)(aq:ByteArray)(w:World)(aS:Tr.iW ts)(h:iH w ts A n)(hE:gj w):Calls Tryz.prog 10 #[.slice A n c,.string aq] w (cv (lj ts aq) w):=by
 have HL:=hid h;have vh:=hid aS;clear h aS;have HZ:=ah.new w 30 #[.int .i64 0,.int .i64 0];have hB:=aa w (.cells #[.int .i64 0,.int .i64 0] 30);have hz:w.heap.size≤w.heap.size:=Nat.le_refl _;go_enter Tryz.func10,Tryz.ntmps10;go_upto_region 1 with fail
 generalize w.alloc _=W at*;obtain⟨gz,dF⟩:∃gz,gz=w.heap.size:=⟨_,rfl⟩;rw[← dF] at HZ ⊢;replace hz:w.heap.size≤gz:=by omega
 clear dF;replace HL:=hid (HL.out.later hB);go_wp2_with fail;refine(vo ts A n c W vh.out HL.out).mono ?_;rintro e w1 ⟨rfl,b1⟩;replace HL:=hid (HL.out.later b1);replace hB:=ae.then hB b1
 replace HZ:=HZ.later b1;clear b1;cases hg:pG ts
 ·have HS:=hid (show lj ts aq=aP by unfold lj;rw[if_neg (by rw[hg];decide)]);clear hg;have E:=hE.later hB;have e0:=E.c0;have e1:=E.c1;have bB:=ai HZ;have cX:=ah.frozen HZ;clear HZ;go_wp2_with fail;exact bodyPost_ret (v:=aM aP) (by simp[results,Tryz.results10,go_sem,bB,aM,aw,aP,cP,bo]) rfl ⟨by rw[HS.out],(hB.setCell hz _).setCell hz _⟩
 ·obtain⟨t,rfl,nE⟩:=oK hg;have HS:=hid (show lj [t] aq=t.span aq by unfold lj;rw[if_pos hg];rfl);obtain⟨rfl,y,h2,h3⟩:=HL.out.one;have mq:=vh.out;unfold Tr.iW at mq;have hcon:=Tr.QE aq t y w1 mq.1 nE h3 w1 (Below.refl _ _) (hE.later hB);obtain⟨q,off,rfl,hq,hx⟩:=h2.one;have tS:=hid hcon;clear hcon h2 h3 nE mq vh HL;unfold bp at hx;go_wp2_with fail;refine tS.out.mono ?_;rintro e w2 ⟨rfl,b1⟩;replace hB:=ae.then hB b1
  replace HZ:=HZ.later b1;clear hg hx b1;generalize t.span aq=z at*;unfold aM;have bB:=ai HZ;have cX:=ah.frozen HZ;clear HZ;go_wp2_with fail;exact bodyPost_ret (v:=aM z) (by simp[results,Tryz.results10,go_sem,bB,aM,aw,aP,cP,bo]) rfl ⟨by rw[HS.out],(hB.setCell hz _).setCell hz _⟩
theorem GC (ts:List Tr)(A:Option Addr)(n c:Nat)(aq:ByteArray)(w:World)(aS:Tr.iW ts)(h:iH w ts A n):Calls Tryz.prog 11 #[.slice A n c,.string aq] w (cv (lj ts aq) w):=by
 have HL:=hid h;have vh:=hid aS;clear h aS;have HZ:=ah.new w 30 #[.int .i64 0,.int .i64 0];have hB:=aa w (.cells #[.int .i64 0,.int .i64 0] 30);have hz:w.heap.size≤w.heap.size:=Nat.le_refl _;go_enter Tryz.func11,Tryz.ntmps11;go_upto_region 1 with fail
 generalize w.alloc _=W at*;obtain⟨gz,dF⟩:∃gz,gz=w.heap.size:=⟨_,rfl⟩;rw[← dF] at HZ ⊢;replace hz:w.heap.size≤gz:=by omega
 clear dF;replace HL:=hid (HL.out.later hB);go_wp2_with fail;refine(vp ts A n c W vh.out HL.out).mono ?_;rintro e w1 ⟨rfl,b1⟩;replace HL:=hid (HL.out.later b1);replace hB:=ae.then hB b1
 replace HZ:=HZ.later b1;clear b1;cases hg:pG ts
 ·have HS:=hid (show lj ts aq=aP by unfold lj;rw[if_neg (by rw[hg];decide)]);clear hg;go_wp2_with fail;refine(cS _).mono ?_;rintro e w2 ⟨rfl,b1⟩;replace hB:=ae.then hB b1
  replace HZ:=HZ.later b1;have bB:=ai HZ;have cX:=ah.frozen HZ;clear HZ;go_wp2_with fail;exact bodyPost_ret (v:=aM aP) (by simp[results,Tryz.results11,go_sem,bB,aM,aw,aP,cP,bo]) rfl ⟨by rw[HS.out],(hB.setCell hz _).setCell hz _⟩
 ·obtain⟨t,rfl,nE⟩:=oK hg;have HS:=hid (show lj [t] aq=t.span aq by unfold lj;rw[if_pos hg];rfl);obtain⟨rfl,y,h2,h3⟩:=HL.out.one;have mq:=vh.out;unfold Tr.iW at mq;have hcon:=Tr.QF aq t y w1 mq.1 nE h3 w1 (Below.refl _ _);obtain⟨q,off,rfl,hq,hx⟩:=h2.one;have tS:=hid hcon;clear hcon h2 h3 nE mq vh HL;unfold bp at hx;go_wp2_with fail;refine tS.out.mono ?_;rintro e w2 ⟨rfl,b1⟩;replace hB:=ae.then hB b1
  replace HZ:=HZ.later b1;clear hg hx b1;generalize t.span aq=z at*;unfold aM;have bB:=ai HZ;have cX:=ah.frozen HZ;clear HZ;go_wp2_with fail;exact bodyPost_ret (v:=aM z) (by simp[results,Tryz.results11,go_sem,bB,aM,aw,aP,cP,bo]) rfl ⟨by rw[HS.out],(hB.setCell hz _).setCell hz _⟩
theorem ql (ts:List Tr)(A:Option Addr)(n c:Nat)(aq:ByteArray)(w:World)(aS:Tr.iW ts)(h:iH w ts A n):Calls Tryz.prog 8 #[.slice A n c,.string aq] w (dv (iD ts aq) w):=by
 have HL:=hid h;have vh:=hid aS;clear h aS;have HZ:=ah.new w 26 #[.int .u8 0,.int .i64 0,.string ⟨#[]⟩];have hB:=aa w (.cells #[.int .u8 0,.int .i64 0,.string ⟨#[]⟩] 26);have hz:w.heap.size≤w.heap.size:=Nat.le_refl _;go_enter Tryz.func8,Tryz.ntmps8;go_upto_region 1 with fail
 generalize w.alloc _=W at*;obtain⟨gz,dF⟩:∃gz,gz=w.heap.size:=⟨_,rfl⟩;rw[← dF] at HZ ⊢;replace hz:w.heap.size≤gz:=by omega
 clear dF;replace HL:=hid (HL.out.later hB);go_wp2_with fail;refine(vo ts A n c W vh.out HL.out).mono ?_;rintro e w1 ⟨rfl,b1⟩;replace HL:=hid (HL.out.later b1);replace hB:=ae.then hB b1
 replace HZ:=HZ.later b1;clear b1;cases hg:pG ts
 ·have HS:=hid (show iD ts aq=none by unfold iD;rw[if_neg (by rw[hg];decide)]);clear hg;have r0:=HZ.cell 0;have r1:=HZ.cell 1;have r2:=HZ.cell 2;have cX:=ah.frozen HZ;have lz:=HZ.lt;simp only[List.getElem?_toArray,List.getElem?_cons_zero,List.getElem?_cons_succ] at r0 r1 r2;clear HZ;go_wp2_with fail;exact bodyPost_ret (v:=.tuple #[.agg #[.int .u8 (0),.int .i64 (0),.string (⟨#[]⟩)],.bool false]) (by simp[results,Tryz.results8,go_sem,r0,r1,r2,aL];done) rfl ⟨by rw[HS.out];rfl,((hB.setCell hz _).setCell hz _).setCell hz _⟩
 ·obtain⟨t,rfl,nE⟩:=oK hg;have HS:=hid (show iD [t] aq=t.value aq by unfold iD;rw[if_pos hg];rfl);obtain⟨rfl,y,h2,h3⟩:=HL.out.one;have mq:=vh.out;unfold Tr.iW at mq;have hcon:=Tr.MR aq t y w1 mq.1 nE h3 w1 (Below.refl _ _);unfold dv at hcon;obtain⟨⟨zk,zn,zs⟩,Jr⟩:∃z,z=iX (t.value aq):=⟨_,rfl⟩;obtain⟨zb,hzb⟩:∃z,z=(t.value aq).isSome:=⟨_,rfl⟩;rw[← Jr,← hzb] at hcon;have HV:=hid Jr;have TK:=hid hzb;obtain⟨q,off,rfl,hq,hx⟩:=h2.one;have tS:=hid hcon;clear hcon h2 h3 nE mq vh HL Jr hzb;unfold bp at hx;go_wp2_with fail;refine tS.out.mono ?_;rintro e w2 ⟨rfl,b1⟩;replace hB:=ae.then hB b1
  replace HZ:=HZ.later b1;clear hg hx b1 tS;unfold fQ;dsimp only;have r0:=HZ.cell 0;have r1:=HZ.cell 1;have r2:=HZ.cell 2;have cX:=ah.frozen HZ;have lz:=HZ.lt;simp only[List.getElem?_toArray,List.getElem?_cons_zero,List.getElem?_cons_succ] at r0 r1 r2;clear HZ;go_wp2_with fail;exact bodyPost_ret (v:=.tuple #[.agg #[.int .u8 (zk),.int .i64 (zn),.string (zs)],.bool zb]) (by simp[results,Tryz.results8,go_sem,r0,r1,r2,aL];done) rfl ⟨by rw[HS.out,TK.out,← HV.out];rfl,((hB.setCell hz _).setCell hz _).setCell hz _⟩
theorem CZ (ts:List Tr)(A:Option Addr)(n c:Nat)(aq:ByteArray)(w:World)(aS:Tr.iW ts)(h:iH w ts A n):Calls Tryz.prog 9 #[.slice A n c,.string aq] w (dv (iD ts aq) w):=by
 have HL:=hid h;have vh:=hid aS;clear h aS;have HZ:=ah.new w 26 #[.int .u8 0,.int .i64 0,.string ⟨#[]⟩];have hB:=aa w (.cells #[.int .u8 0,.int .i64 0,.string ⟨#[]⟩] 26);have hz:w.heap.size≤w.heap.size:=Nat.le_refl _;go_enter Tryz.func9,Tryz.ntmps9;go_upto_region 1 with fail
 generalize w.alloc _=W at*;obtain⟨gz,dF⟩:∃gz,gz=w.heap.size:=⟨_,rfl⟩;rw[← dF] at HZ ⊢;replace hz:w.heap.size≤gz:=by omega
 clear dF;replace HL:=hid (HL.out.later hB);go_wp2_with fail;refine(vp ts A n c W vh.out HL.out).mono ?_;rintro e w1 ⟨rfl,b1⟩;replace HL:=hid (HL.out.later b1);replace hB:=ae.then hB b1
 replace HZ:=HZ.later b1;clear b1;cases hg:pG ts
 ·have HS:=hid (show iD ts aq=none by unfold iD;rw[if_neg (by rw[hg];decide)]);clear hg;have r0:=HZ.cell 0;have r1:=HZ.cell 1;have r2:=HZ.cell 2;have cX:=ah.frozen HZ;have lz:=HZ.lt;simp only[List.getElem?_toArray,List.getElem?_cons_zero,List.getElem?_cons_succ] at r0 r1 r2;clear HZ;go_wp2_with fail;exact bodyPost_ret (v:=.tuple #[.agg #[.int .u8 (0),.int .i64 (0),.string (⟨#[]⟩)],.bool false]) (by simp[results,Tryz.results9,go_sem,r0,r1,r2,aL];done) rfl ⟨by rw[HS.out];rfl,((hB.setCell hz _).setCell hz _).setCell hz _⟩
 ·obtain⟨t,rfl,nE⟩:=oK hg;have HS:=hid (show iD [t] aq=t.value aq by unfold iD;rw[if_pos hg];rfl);obtain⟨rfl,y,h2,h3⟩:=HL.out.one;have mq:=vh.out;unfold Tr.iW at mq;have hcon:=Tr.MS aq t y w1 mq.1 nE h3 w1 (Below.refl _ _);unfold dv at hcon;obtain⟨⟨zk,zn,zs⟩,Jr⟩:∃z,z=iX (t.value aq):=⟨_,rfl⟩;obtain⟨zb,hzb⟩:∃z,z=(t.value aq).isSome:=⟨_,rfl⟩;rw[← Jr,← hzb] at hcon;have HV:=hid Jr;have TK:=hid hzb;obtain⟨q,off,rfl,hq,hx⟩:=h2.one;have tS:=hid hcon;clear hcon h2 h3 nE mq vh HL Jr hzb;unfold bp at hx;go_wp2_with fail;refine tS.out.mono ?_;rintro e w2 ⟨rfl,b1⟩;replace hB:=ae.then hB b1
  replace HZ:=HZ.later b1;clear hg hx b1 tS;unfold fQ;dsimp only;have r0:=HZ.cell 0;have r1:=HZ.cell 1;have r2:=HZ.cell 2;have cX:=ah.frozen HZ;have lz:=HZ.lt;simp only[List.getElem?_toArray,List.getElem?_cons_zero,List.getElem?_cons_succ] at r0 r1 r2;clear HZ;go_wp2_with fail;exact bodyPost_ret (v:=.tuple #[.agg #[.int .u8 (zk),.int .i64 (zn),.string (zs)],.bool zb]) (by simp[results,Tryz.results9,go_sem,r0,r1,r2,aL];done) rfl ⟨by rw[HS.out,TK.out,← HV.out];rfl,((hB.setCell hz _).setCell hz _).setCell hz _⟩
theorem GD {H:Type} {enc:TypeId×Value→H} {C:Checked} {os:Os} {f:FuncId} {fn:Func} {s:ChangeSpec} {conds:List PathCond} {apart fresh handsOn again:Bool} {X:World→Array Value→Prop}
  (hX:∀(w w':World) (args:Array Value),w.heap=w'.heap→X w args→X w' args)
  (own:ownKnob C.prog.godebug=none) (started:os.Started) (QI:C.prog.inits.idxOf? f=none) (hfn:C.prog.funcs[f]?=some fn)
  (witness:∃(w:World) (tape:Tape) (i:Input),w.os=os∧(w.forCall tape i).Shaped C.prog∧i.vars=[]∧Input.okWide C.prog (w.forCall tape i) .any w.heap.size f i∧
    ((s.pre enc C.prog fn conds apart (w.forCall tape i).memory i.args∧X (w.forCall tape i).memory i.args)∧sizedMet enc C.prog fn (OpenSpec.ofChange s) apart (w.forCall tape i).memory i.args)∧({}:Assume).holds C.prog (lone (Frame.enter C.prog f i.args .normal) [] (w.forCall tape i)))
  (contract:∀(W:World) (base:Nat) (args:Array Value) (ds gs:List (DataW H)) (before:List MemPlace),
    (∀(j:Nat) t v,fn.params[j]?=some t→args[j]?=some v→Value.okWide C.prog W .any base t v)→
    DataW.Whole enc C.prog fn.params.toList s.vars apart W args.toList ds gs before→
    (DataW.weightsEach C.prog (fn.params.toList++s.plain.varTypes C.prog) (ds++gs)).all (· ≤reachBytes)=true→X W args→W.ShapedOpen C.prog→
    Calls C.prog f args W fun e W'=>∃v,e=.returned v∧s.post enc C.prog fn apart fresh handsOn again W args v W'):
  ReturnsInHanded {} C os f .any (fun w args=>(s.pre enc C.prog fn conds apart w args∧X w args)∧sizedMet enc C.prog fn (OpenSpec.ofChange s) apart w args) (s.post enc C.prog fn apart fresh handsOn again):=by
 refine returnsInHanded_of_calls own started QI witness ?_;intro w tape i _ OD _ aS Mr Xp;obtain⟨_,_,_,K4,Xq,_,_,_,_,hval⟩:=aS;have e:K4=fn:=Option.some.inj (Xq.symm.trans hfn);subst e;obtain⟨⟨⟨ds,gs,before,hw,hc⟩,hx⟩,hz⟩:=Mr;have hw':=DataW.Whole.of_heap (w':=w.forCall tape i) (by rfl) hw;refine(contract (w.forCall tape i) w.heap.size i.args ds gs before hval hw' (hz.weights hw) (hX _ _ _ (by rfl) hx) OD).mono fun e W' ⟨v,he,hp⟩=>?_
 subst he;exact ChangeSpec.post_blind hp
section
variable {H:Type} {enc:TypeId×Value→H} {W:World} {base:Nat} {v:Value} {d:DataW H} {p:List MemPlace}
theorem Da (ok:Value.okWide Tryz.prog W .any base 22 v)(k:DataW.Trod enc Tryz.prog W 0 (fun _=>true) true 22 v d p)(hw:jT 22 d):
  ∃ts A n c,v=.slice A n c∧iH W ts A n∧Tr.iW ts∧ts.length≤1599289640356:=by
 obtain⟨a,len,cap,rfl⟩:=okWide_slice Tryz.underlying22 ok;obtain⟨fuel,hf⟩:=k;obtain⟨A,l,c,q,hP,hby,gR⟩:=uR (fun p:Ex×Tr=>uQ p.1) (fun p=>p.2.at_ W (Old W) p.1∧p.2.ok) 7 Tryz.underlying22 pZ (by omega) (fun _=>rfl) (fun m hm cs x h1 h2=>FW m cs x h1 h2) hf hw;rw[uP] at hby;have Tt:l.length≤1599289640356:=by unfold reachBytes at hby;omega
 simp[Value.cells] at q;obtain⟨rfl,rfl,rfl⟩:=q;refine⟨l.map (·.2),_,_,_,rfl,⟨by simp,l.map (·.1),?_,nN l fun p hp=>(hP p hp).1⟩,nO l fun p hp=>(hP p hp).2,by simpa using Tt⟩;rcases gR with gR |⟨b,off,rfl,hb,gR⟩
 ·exact .inl (by simp[gR])
 ·refine .inr ⟨b,off,rfl,hb,fun i y hy=>?_⟩;obtain⟨p,hp,rfl⟩:∃p,l[i]?=some p∧p.1=y:=by simpa [List.getElem?_map] using hy
  have k:=fun j u hu=>gR i p j u hp hu
  exact⟨k 0 _ rfl,k 1 _ rfl,k 2 _ rfl,k 3 _ rfl,k 4 _ rfl,k 5 _ rfl,k 6 _ rfl⟩
end
def xE:List (String×DataW Unit):=Rows.boundTellsRow.laid
noncomputable def EH (os:Os):World:=World.laidAll Tryz.prog os xE
theorem MT (os:Os):(EH os).os=os:=World.laidAll_os _ _ _
theorem JJ (os:Os)(args:Array Value):laidMetH Tryz.prog xE ((EH os).forCall (fun _ _=>0) ⟨#[],args,[]⟩).memory:=by rw[MakeChecks.laidMetH_plain _ _ _ (by kernel_rfl)];exact laidMet_laidAll _ (by kernel_rfl) (by kernel_rfl)
theorem AK (os:Os)(args:Array Value):((EH os).forCall (fun _ _=>0) ⟨#[],args,[]⟩).Shaped Tryz.prog:=World.shaped_of_ZipB (by kernel_rfl) (by kernel_rfl)
theorem Db:Tryz.prog.cellsOf 30=2:=by kernel_rfl
theorem QJ {W:World}(h:laidMetH Tryz.prog xE W):gj W:=by
 rw[MakeChecks.laidMetH_plain _ _ _ (by kernel_rfl)] at h;obtain⟨ps,⟨g',t',cs,fuel,p,q,Cv,PS,Uc,hd,_,_⟩,_⟩:=h;obtain rfl:=Option.some.inj ((show Tryz.prog.globalNamed "tideline/bound.whole" =some 0 by kernel_rfl).symm.trans Cv);obtain rfl:=Option.some.inj ((show(Tryz.prog.globals[0]?).map (·.type)=some 30 by kernel_rfl).symm.trans PS);obtain⟨xs,n,hn,hx,hl,hlen,hf⟩:=DataW.trod_struct Tryz.underlying30 hd;rw[Db] at hl;have hx1:=congrArg Prod.fst hx;obtain⟨cs⟩:=cs
 match cs,hl with
 | [c0,c1],_=>
   have get:∀i,i < 2→∃y,xs[i]?=some y:=fun i hi=>⟨xs[i]'(by simp at hlen;omega),List.getElem?_eq_getElem _⟩
   obtain⟨y0,e0⟩:=get 0 (by omega);obtain⟨y1,e1⟩:=get 1 (by omega);have t0:DataW.trod _ Tryz.prog W 0 _ _ n 2 (([c0,c1].drop 0).take (Tryz.prog.cellsOf 2))=some y0:=(hf 0 _ rfl).trans e0;have t1:DataW.trod _ Tryz.prog W 0 _ _ n 2 (([c0,c1].drop 1).take (Tryz.prog.cellsOf 2))=some y1:=(hf 1 _ rfl).trans e1;rw[rR] at t0 t1;simp only[List.drop_succ_cons,List.drop_zero,List.take_succ_cons,List.take_zero] at t0 t1;obtain⟨n0,q0,z0,_⟩:=DataW.trod_int Tryz.underlying2 t0;obtain⟨n1,q1,z1,_⟩:=DataW.trod_int Tryz.underlying2 t1;have hm:xs.map (·.1)=[(.lit (.int .i64 (-4611687117939015680)):DataW Unit),.lit (.int .i64 4611687117939015679)]:=(DataW.agg.inj hx1).symm;have a0:=congrArg (·[0]?) hm;have a1:=congrArg (·[1]?) hm;simp[e0,e1,z0,z1] at a0 a1;subst a0 a1;simp at q0 q1;subst q0 q1;have k0:=World.var?_cell (show Tryz.prog.globalNamed "tideline/bound.whole" =some 0 by kernel_rfl) Uc 0;have k1:=World.var?_cell (show Tryz.prog.globalNamed "tideline/bound.whole" =some 0 by kernel_rfl) Uc 1;exact⟨(ji k0).1,k0,k1⟩
end Go.Proofs.YtfmbcoeallmnnaaGreatDoor
