/- Parts of the proof. -/
import Derived.Laws.EntriesVeiled
import Derived.Test.YtfmbcoeallmnnaaGreatDoorD4
namespace Go.Proofs.YtfmbcoeallmnnaaGreatDoor
open Go.Lib (hid)
open Go.ChangeShapes Go.WideShapes Go.ChangeAt Go.RowKit
set_option linter.unusedVariables false
set_option linter.unusedSimpArgs false
set_option maxHeartbeats 2000000
set_option maxRecDepth 100000
theorem Cz (x:Ex)(A:Option Addr)(c q:Nat)(is:Bool)(a:Val)(w:World)(h:RV w w.heap.size A [a])(hq:ag w q 4 #[.bool is]):Calls Tryz.prog 121 #[.agg #[.int .u8 x.op,.int .u8 x.v.k,.int .i64 x.v.n,.string x.v.s,.string x.name,.int .i64 x.width,.slice x.A x.n x.c],.slice A 1 c,.pointer (some ⟨q,0,none⟩)] w fun e w'=>e=.returned (cI (aL ((a.k==0)==is)) 0)∧Below w.heap.size w w':=by
 obtain⟨b,off,rfl,hb,hv⟩:=h.one;go_enter Tryz.func121,Tryz.ntmps121;go_wp2_with fail;have hB:=ae.then (aa w (.cells #[.int .u8 x.op,.int .u8 x.v.k,.int .i64 x.v.n,.string x.v.s,.string x.name,.int .i64 x.width,.slice x.A x.n x.c] 34)) (aa _ (.cells #[.int .u8 0,.int .i64 0,.string ⟨#[]⟩] 26))
 have hR:=ag.new (w.alloc (.cells #[.int .u8 x.op,.int .u8 x.v.k,.int .i64 x.v.n,.string x.v.s,.string x.name,.int .i64 x.width,.slice x.A x.n x.c] 34)) 26 #[.int .u8 0,.int .i64 0,.string ⟨#[]⟩];have hX:=(ag.new w 34 #[.int .u8 x.op,.int .u8 x.v.k,.int .i64 x.v.n,.string x.v.s,.string x.name,.int .i64 x.width,.slice x.A x.n x.c]).alloc (.cells #[.int .u8 0,.int .i64 0,.string ⟨#[]⟩] 26);rw[World.size_alloc] at hR;generalize rU:(w.alloc (.cells #[.int .u8 x.op,.int .u8 x.v.k,.int .i64 x.v.n,.string x.v.s,.string x.name,.int .i64 x.width,.slice x.A x.n x.c] 34)).alloc (.cells #[.int .u8 0,.int .i64 0,.string ⟨#[]⟩] 26)=W at*;clear rU;replace hv:=hv.keep (w':=W) fun o=>hB.cell (p:=⟨b,o,none⟩) hb
 have hb2:b < W.heap.size:=Nat.lt_of_lt_of_le hb hB.size;have cV:=fun y:Ext W.heap.size W=>hv.keep (w':=y.w) fun o=>y.cell (p:=⟨b,o,none⟩) hb2
 unfold eE at cV;have oh:ag W q 4 #[.bool is]:=hq.later hB;have cQ:=fun y:Ext W.heap.size W=>(oh.later y.h).cell 0
 simp only[List.getElem?_toArray,List.getElem?_cons_zero] at cQ;have bo:w.heap.size≤w.heap.size+1:=by omega
 generalize w.heap.size+1=g at*;refine bD 10 W.heap.size W (Below.refl _ _) (by kernel_rfl) (by kernel_rfl) (by kernel_rfl) (by kernel_rfl) ?_;simp only[List.take_succ_cons,List.take_zero,List.drop_succ_cons,List.drop_zero];repeat (go_big_quiet_step (first
  |(go_at_call 80;exact aT (Nat.le_refl _) (jr _ _))))
 refine wpQuiet_nil ?_;rintro W2 ⟨y2,iq⟩;have hW:=y2.h;rw[← iq] at hW;clear iq y2 cV cQ;replace hR:=hR.later hW;replace hB:=ae.then hB hW
 generalize hr:aL _=r at*;have HE:Hid ((r,(0:Int))=(aL ((a.k==0)==is),0)):=by rw[← hr];exact rfl
 clear hr;have bK:=ay hR;have dn:=ag.frozen hR;clear hR;go_wp2_with fail;exact bodyPost_ret (v:=.tuple #[.agg #[.int .u8 (r,(0:Int)).1.k,.int .i64 (r,(0:Int)).1.n,.string (r,(0:Int)).1.s],.int .i64 (r,(0:Int)).2]) (by simp[results,Tryz.results121,go_sem,bK]) rfl ⟨by have:=HE.out;injection this with h1 h2;rw[← h1];rfl,((hB.setCell (bo) _).setCell (bo) _).setCell (bo) _⟩
def rW (n wd:Int):Int:=n % wd
def rX (n wd:Int):Val×Int:=eT (wrap64 (n - rW n wd)) (decide (-9223372036854775808+rW n wd≤n))
theorem Qw (n wd:Int)(h1:1≤wd):Int.tmod (Int.tmod n wd+wd) wd=rW n wd∧ -wd < Int.tmod n wd∧Int.tmod n wd < wd∧0≤rW n wd∧rW n wd < wd:=by have b1:=Int.tmod_lt_of_pos n (show 0 < wd by omega);have b2:=Int.lt_tmod_of_pos n (show 0 < wd by omega);have b3:=Int.emod_nonneg n (show wd≠0 by omega);have b4:=Int.emod_lt_of_pos n (show 0 < wd by omega);refine⟨?_,b2,b1,b3,b4⟩;rw[Int.tmod_eq_emod_of_nonneg (show 0≤Int.tmod n wd+wd by omega)];unfold rW;rw[Int.add_emod_right];have e:=Int.tmod_add_mul_tdiv n wd;have h2:(Int.tmod n wd+wd*Int.tdiv n wd)% wd=Int.tmod n wd % wd:=Int.add_mul_emod_self_left _ _ _;rw[e] at h2;exact h2.symm
theorem JG (x:Ex)(A:Option Addr)(c:Nat)(a:Val)(w:World)(h:RV w w.heap.size A [a])(hw1:1≤x.width)(hw2:x.width≤1099511627776)(hn:a.Ok):Calls Tryz.prog 97 #[.agg #[.int .u8 x.op,.int .u8 x.v.k,.int .i64 x.v.n,.string x.v.s,.string x.name,.int .i64 x.width,.slice x.A x.n x.c],.slice A 1 c] w fun e w'=>e=.returned (cI (rX a.n x.width).1 (rX a.n x.width).2)∧Below w.heap.size w w':=by
 obtain⟨b,off,rfl,hb,hv⟩:=h.one;obtain⟨n1,n2⟩:=hn;obtain⟨r1,r2,r3,r4,r5⟩:=Qw a.n x.width hw1;have HBT:Hid (rX a.n x.width=eT (wrap64 (a.n - rW a.n x.width)) (decide (-9223372036854775808+rW a.n x.width≤a.n))):=rfl;have hz:(x.width==0)=false:=by rw[beq_eq_false_iff_ne];omega
 generalize rW a.n x.width=rs at*;have hv':=hv.keep (w':=(w.alloc (.cells #[.int .u8 x.op,.int .u8 x.v.k,.int .i64 x.v.n,.string x.v.s,.string x.name,.int .i64 x.width,.slice x.A x.n x.c] 34)).alloc (.cells #[.int .u8 0,.int .i64 0,.string ⟨#[]⟩] 26)) fun o=>(ae.then (aa w (.cells #[.int .u8 x.op,.int .u8 x.v.k,.int .i64 x.v.n,.string x.v.s,.string x.name,.int .i64 x.width,.slice x.A x.n x.c] 34)) (aa _ (.cells #[.int .u8 0,.int .i64 0,.string ⟨#[]⟩] 26))).cell (p:=⟨b,o,none⟩) hb
 unfold eE at hv';go_enter Tryz.func97,Tryz.ntmps97;go_wp2_with fail;have hB:=ae.then (aa w (.cells #[.int .u8 x.op,.int .u8 x.v.k,.int .i64 x.v.n,.string x.v.s,.string x.name,.int .i64 x.width,.slice x.A x.n x.c] 34)) (aa _ (.cells #[.int .u8 0,.int .i64 0,.string ⟨#[]⟩] 26))
 have hR:=ag.new (w.alloc (.cells #[.int .u8 x.op,.int .u8 x.v.k,.int .i64 x.v.n,.string x.v.s,.string x.name,.int .i64 x.width,.slice x.A x.n x.c] 34)) 26 #[.int .u8 0,.int .i64 0,.string ⟨#[]⟩];have hX:=(ag.new w 34 #[.int .u8 x.op,.int .u8 x.v.k,.int .i64 x.v.n,.string x.v.s,.string x.name,.int .i64 x.width,.slice x.A x.n x.c]).alloc (.cells #[.int .u8 0,.int .i64 0,.string ⟨#[]⟩] 26);rw[World.size_alloc] at hR;generalize rU:(w.alloc (.cells #[.int .u8 x.op,.int .u8 x.v.k,.int .i64 x.v.n,.string x.v.s,.string x.name,.int .i64 x.width,.slice x.A x.n x.c] 34)).alloc (.cells #[.int .u8 0,.int .i64 0,.string ⟨#[]⟩] 26)=W at*;clear rU;have bo:w.heap.size≤w.heap.size+1:=by omega
 generalize w.heap.size+1=g at*;have cX:=fun y:Ext W.heap.size W=>(hX.later y.h).cell 5
 simp only[List.getElem?_toArray,List.getElem?_cons_zero,List.getElem?_cons_succ] at cX;refine bD 11 W.heap.size W (Below.refl _ _) (by kernel_rfl) (by kernel_rfl) (by kernel_rfl) (by kernel_rfl) ?_;simp only[List.take_succ_cons,List.take_zero,List.drop_succ_cons,List.drop_zero];repeat (go_big_quiet_step (fail))
 refine wpQuiet_nil ?_;rintro W2 ⟨y2,iq⟩;have hW:=y2.h;rw[← iq] at hW;clear iq y2 cX;replace hR:=hR.later hW;replace hB:=ae.then hB hW
 go_wp2_with fail;refine(iE _ _ _).mono ?_;rintro e w' ⟨rfl,b1⟩;replace hR:=hR.later b1;replace hB:=ae.then hB b1
 clear b1 hv';generalize hr:eT _ _=r;have he:rX a.n x.width=r:=by rw[← hr,HBT.out]
 have HE:=hid he;clear he hr HBT;unfold cI;have bK:=ay hR;have dn:=ag.frozen hR;clear hR;go_wp2_with fail;exact bodyPost_ret (v:=.tuple #[.agg #[.int .u8 r.1.k,.int .i64 r.1.n,.string r.1.s],.int .i64 r.2]) (by simp[results,Tryz.results97,go_sem,bK]) rfl ⟨by rw[HE.out];rfl,((hB.setCell (bo) _).setCell (bo) _).setCell (bo) _⟩
def fw (v x:Val):Bool:=v.k==x.k && v.n==x.n && v.s.toList==x.s.toList
def AY (v:Val)(l:List Val):Bool:=l.any (fw v)
def Qx (l:List Val)(v:Val)(w:World)(e:Ending)(w':World):Prop:=∃i:Int,e=.returned (.int .i64 i)∧decide (0≤i)=AY v l∧Below w.heap.size w w'
theorem JH (A:Option Addr)(c:Nat)(l:List Val)(v:Val)(w:World)(h:RV w w.heap.size A l)(hl:l.length≤1000000):Calls Tryz.prog 138 #[.slice A l.length c,.agg #[.int .u8 v.k,.int .i64 v.n,.string v.s]] w (Qx l v w):=by
 have HH:=hid h;clear h;go_enter Tryz.func138,Tryz.ntmps138;go_wp2_with fail;have hV:=ag.new w 26 #[.int .u8 v.k,.int .i64 v.n,.string v.s];have hB:=aa w (.cells #[.int .u8 v.k,.int .i64 v.n,.string v.s] 26);generalize w.alloc (.cells #[.int .u8 v.k,.int .i64 v.n,.string v.s] 26)=W at*;go_loopw [8] (fun i wr=>∃k:Nat,k≤l.length∧i=.int .i64 k∧(∀x∈l.take k,fw v x=false)∧Below W.heap.size W wr) (fun i _=>l.length - (intOf i).toNat);case atStart=>exact⟨0,Nat.zero_le _,rfl,by simp,Below.refl _ _⟩
 case round=>
  obtain⟨k,hk,rfl,hno,SJ⟩:=hrel;have HNO:=hid hno;clear hno;by_cases hlt:k < l.length
  ·obtain⟨b,off,rfl,hb,hval⟩:=((HH.out.below hB).more hB.size |>.below SJ).at_ hlt;have HT:=hid (show l.take (k+1)=l.take k++ [l[k]] by rw[List.take_add_one,List.getElem?_eq_getElem hlt];rfl);have HM:=hid (List.getElem_mem hlt);generalize l[k]=x at*;go_wp2_with fail;have cS:=fun y:Ext wr.heap.size wr=>hval.keep (w':=y.w) fun o=>y.cell (p:=⟨b,o,none⟩) (Nat.lt_of_lt_of_le hb SJ.size)
   have cV:=fun y:Ext wr.heap.size wr=>ay (hV.later (ae.then SJ y.h))
   unfold eE at cS;refine bD 5 wr.heap.size wr (Below.refl _ _) (by kernel_rfl) (by kernel_rfl) (by kernel_rfl) (by kernel_rfl) ?_;simp only[List.take_succ_cons,List.take_zero,List.drop_succ_cons,List.drop_zero];repeat (go_big_quiet_step (fail))
   refine wpQuiet_nil ?_;rintro W2 ⟨x2,hx2⟩;have hW:=x2.h;rw[← hx2] at hW;clear hx2 x2 cS cV hval;have bW:=ae.then hB (ae.then SJ hW)
   have XT:fw v x=false→∀y∈l.take (k+1),fw v y=false:=by
    intro heq y hy;rw[HT.out] at hy;rcases List.mem_append.1 hy with hy | hy
    ·exact HNO.out y hy
    ·simp at hy;subst hy;exact heq
   have J9:=hid XT;clear XT HT;obtain⟨xk,xn,xs⟩:=x;dsimp only;by_cases h1:v.k=xk
   ·subst h1;by_cases h2:v.n=xn
    ·subst h2;by_cases h3:v.s.toList=xs.toList
     ·have wz:fw v ⟨v.k,v.n,xs⟩=true:=by simp[fw,h3]
      have Fv:=hid wz;clear wz;go_wp2_with fail;go_ret;exact⟨_,rfl,by rw[show AY v l=true from List.any_eq_true.2 ⟨_,HM.out,Fv.out⟩];simp,bW⟩
     ·have wz:fw v ⟨v.k,v.n,xs⟩=false:=by simp[fw,h3]
      have Fv:=hid wz;clear wz;go_wp2_with fail;go_roundw;case rel=>exact⟨k+1,hlt,by go_num,J9.out Fv.out,ae.then SJ hW⟩
      case measure=>simp[intOf];omega
    ·have wz:fw v ⟨v.k,xn,xs⟩=false:=by simp[fw,h2]
     have Fv:=hid wz;clear wz;go_wp2_with fail;go_roundw;case rel=>exact⟨k+1,hlt,by go_num,J9.out Fv.out,ae.then SJ hW⟩
     case measure=>simp[intOf];omega
   ·have wz:fw v ⟨xk,xn,xs⟩=false:=by simp[fw,h1]
    have Fv:=hid wz;clear wz;go_wp2_with fail;go_roundw;case rel=>exact⟨k+1,hlt,by go_num,J9.out Fv.out,ae.then SJ hW⟩
    case measure=>simp[intOf];omega
  ·have hall:AY v l=false:=by have:=HNO.out;rw[List.take_of_length_le (by omega)] at this;unfold AY;rw[List.any_eq_false];intro x hx;rw[this x hx];simp
   have yS:=hid hall;clear hall;go_wp2_with fail;go_ret;exact⟨_,rfl,by rw[yS.out];rfl,ae.then hB SJ⟩
theorem rY (A:Option Addr)(c:Nat)(l:List Val)(v:Val)(w:World)(h:RV w w.heap.size A l)(hl:l.length≤1000000):Calls Tryz.prog 120 #[.slice A l.length c,.agg #[.int .u8 v.k,.int .i64 v.n,.string v.s]] w fun e w'=>e=.returned (.bool (AY v l))∧Below w.heap.size w w':=by have HH:=hid h;clear h;go_enter Tryz.func120,Tryz.ntmps120;have hB:=aa w (.cells #[.int .u8 v.k,.int .i64 v.n,.string v.s] 26);go_wp2_with fail;refine(JH A c l v _ ((HH.out.below hB).more hB.size) hl).mono ?_;rintro e w' ⟨i,rfl,hi,b1⟩;go_wp2_with fail;go_ret;exact⟨rfl,ae.then hB b1⟩
def js (short:Bool)(l:List Val):Val:=if AY (aL short) l then aL short else if AY ah l then ah else aL (!short)
set_option maxHeartbeats 4000000
theorem CB (x:Ex)(A:Option Addr)(c q:Nat)(short:Bool)(l:List Val)(w:World)(h:RV w w.heap.size A l)(hl:l.length≤1000000)(hq:ag w q 4 #[.bool short]):Calls Tryz.prog 119 #[.agg #[.int .u8 x.op,.int .u8 x.v.k,.int .i64 x.v.n,.string x.v.s,.string x.name,.int .i64 x.width,.slice x.A x.n x.c],.slice A l.length c,.pointer (some ⟨q,0,none⟩)] w fun e w'=>e=.returned (cI (js short l) 0)∧Below w.heap.size w w':=by
 have HH:=hid h;clear h;have hB:=ae.then (aa w (.cells #[.int .u8 x.op,.int .u8 x.v.k,.int .i64 x.v.n,.string x.v.s,.string x.name,.int .i64 x.width,.slice x.A x.n x.c] 34)) (aa _ (.cells #[.int .u8 0,.int .i64 0,.string ⟨#[]⟩] 26))
 have hR:=ag.new (w.alloc (.cells #[.int .u8 x.op,.int .u8 x.v.k,.int .i64 x.v.n,.string x.v.s,.string x.name,.int .i64 x.width,.slice x.A x.n x.c] 34)) 26 #[.int .u8 0,.int .i64 0,.string ⟨#[]⟩];rw[World.size_alloc] at hR;replace hq:=hq.later hB;have cQ:=hq.cell 0;simp only[List.getElem?_toArray,List.getElem?_cons_zero] at cQ;go_enter Tryz.func119,Tryz.ntmps119;go_wp2_with fail;clear cQ;generalize (w.alloc (.cells #[.int .u8 x.op,.int .u8 x.v.k,.int .i64 x.v.n,.string x.v.s,.string x.name,.int .i64 x.width,.slice x.A x.n x.c] 34)).alloc (.cells #[.int .u8 0,.int .i64 0,.string ⟨#[]⟩] 26)=W at*;have bo:w.heap.size≤w.heap.size+1:=by omega
 generalize w.heap.size+1=g at*;refine(pJ short _).mono ?_;rintro e w1 ⟨rfl,b1⟩;unfold cI;replace hR:=hR.later (ae.then b1 (aa w1 (.cells #[.int .u8 (aL short).k,.int .i64 (aL short).n,.string (aL short).s] 26)));replace hq:=hq.later (ae.then b1 (aa w1 (.cells #[.int .u8 (aL short).k,.int .i64 (aL short).n,.string (aL short).s] 26)));replace hB:=ae.then hB (ae.then b1 (aa w1 (.cells #[.int .u8 (aL short).k,.int .i64 (aL short).n,.string (aL short).s] 26)))
 have hV:=ag.new w1 26 #[.int .u8 (aL short).k,.int .i64 (aL short).n,.string (aL short).s];clear b1;have cV:=ay hV;go_wp2_with fail;clear cV;generalize w1.alloc (.cells #[.int .u8 (aL short).k,.int .i64 (aL short).n,.string (aL short).s] 26)=W1 at*;generalize w1.heap.size=g1 at*;refine(rY A c l (aL short) _ ((HH.out.below hB).more hB.size) hl).mono ?_;rintro e w2 ⟨rfl,b2⟩;replace hR:=hR.later b2;replace hq:=hq.later b2;replace hB:=ae.then hB b2
 replace hV:=hV.later b2;clear b2;cases h1:AY (aL short) l
 ·go_wp2_with fail;refine(rY A c l ah _ ((HH.out.below hB).more hB.size) hl).mono ?_;rintro e w3 ⟨rfl,b3⟩;replace hR:=hR.later b3;replace hq:=hq.later b3;replace hB:=ae.then hB b3
  clear b3 hV;have bK:=ay hR;have dn:=ag.frozen hR;cases h2:AY ah l
  ·have cQ:=hq.cell 0;simp only[List.getElem?_toArray,List.getElem?_cons_zero] at cQ;have HL:=hid (show js short l=aL (!short) by simp[js,h1,h2]);go_wp2_with fail;refine(pJ _ _).mono ?_;rintro e w4 ⟨rfl,b4⟩;unfold cI;replace hR:=hR.later b4;replace hB:=ae.then hB b4
   clear b4 bK dn cQ;have bK:=ay hR;have dn:=ag.frozen hR;clear hR;generalize hr:aL (!short)=r at*;go_wp2_with fail;exact bodyPost_ret (v:=.tuple #[.agg #[.int .u8 r.k,.int .i64 r.n,.string r.s],.int .i64 0]) (by simp[results,Tryz.results119,go_sem,bK]) rfl ⟨by rw[HL.out];rfl,((hB.setCell bo _).setCell bo _).setCell bo _⟩
  ·have HL:=hid (show js short l=ah by simp[js,h1,h2]);clear hR;go_wp2_with fail;exact bodyPost_ret (v:=.tuple #[.agg #[.int .u8 0,.int .i64 0,.string ByteArray.empty],.int .i64 0]) (by simp[results,Tryz.results119,go_sem,bK];try rfl) rfl ⟨by rw[HL.out];rfl,((hB.setCell bo _).setCell bo _).setCell bo _⟩
 ·have HL:=hid (show js short l=aL short by simp[js,h1]);have bK:=ay hR;have dn:=ag.frozen hR;have cV:=ay hV;clear hR hV;generalize hr:aL short=r at*;go_wp2_with fail;exact bodyPost_ret (v:=.tuple #[.agg #[.int .u8 r.k,.int .i64 r.n,.string r.s],.int .i64 0]) (by simp[results,Tryz.results119,go_sem,bK]) rfl ⟨by rw[HL.out];rfl,((hB.setCell bo _).setCell bo _).setCell bo _⟩
def eP (args wants gives:Int)(alike XU:Bool)(d:Value):Value:=.agg #[.int .i64 args,.int .u8 wants,.int .u8 gives,.bool alike,.bool XU,d]
def ij (w:World):Nat→Value→Prop
 | 3,v=>v=eP 1 2 2 false false (.func (.func 77) #[] #[])
 | 4,v=>v=eP 1 1 1 false false (.func (.func 79) #[] #[])
 | 5,v=>∃q,v=eP 2 2 2 false false (.func (.func 115) #[] #[.pointer (some ⟨q,0,none⟩)])∧ag w q 121 #[(.func (.func 82) #[] #[])]
 | 6,v=>∃q,v=eP 2 2 2 false false (.func (.func 115) #[] #[.pointer (some ⟨q,0,none⟩)])∧ag w q 121 #[(.func (.func 83) #[] #[])]
 | 7,v=>∃q,v=eP 2 2 2 false false (.func (.func 115) #[] #[.pointer (some ⟨q,0,none⟩)])∧ag w q 121 #[(.func (.func 84) #[] #[])]
 | 8,v=>∃q q2,v=eP 2 2 2 false false (.func (.func 115) #[] #[.pointer (some ⟨q,0,none⟩)])∧ag w q 121 #[(.func (.func 116) #[] #[.pointer (some ⟨q2,0,none⟩)])]∧ag w q2 121 #[(.func (.func 86) #[] #[])]
 | 9,v=>∃q q2,v=eP 2 2 2 false false (.func (.func 115) #[] #[.pointer (some ⟨q,0,none⟩)])∧ag w q 121 #[(.func (.func 116) #[] #[.pointer (some ⟨q2,0,none⟩)])]∧ag w q2 121 #[(.func (.func 87) #[] #[])]
 | 10,v=>∃q,v=eP 2 0 1 true false (.func (.func 117) #[] #[.pointer (some ⟨q,0,none⟩)])∧ag w q 123 #[(.func (.func 89) #[] #[])]
 | 11,v=>∃q,v=eP 2 0 1 true false (.func (.func 117) #[] #[.pointer (some ⟨q,0,none⟩)])∧ag w q 123 #[(.func (.func 90) #[] #[])]
 | 12,v=>∃q,v=eP 2 0 1 true false (.func (.func 117) #[] #[.pointer (some ⟨q,0,none⟩)])∧ag w q 123 #[(.func (.func 91) #[] #[])]
 | 13,v=>∃q,v=eP 2 0 1 true false (.func (.func 117) #[] #[.pointer (some ⟨q,0,none⟩)])∧ag w q 123 #[(.func (.func 92) #[] #[])]
 | 14,v=>∃q,v=eP 2 0 1 true false (.func (.func 117) #[] #[.pointer (some ⟨q,0,none⟩)])∧ag w q 123 #[(.func (.func 93) #[] #[])]
 | 15,v=>∃q,v=eP 2 0 1 true false (.func (.func 117) #[] #[.pointer (some ⟨q,0,none⟩)])∧ag w q 123 #[(.func (.func 94) #[] #[])]
 | 16,v=>∃q,v=eP 2 1 1 false true (.func (.func 119) #[] #[.pointer (some ⟨q,0,none⟩)])∧ag w q 4 #[.bool false]
 | 17,v=>∃q,v=eP 2 1 1 false true (.func (.func 119) #[] #[.pointer (some ⟨q,0,none⟩)])∧ag w q 4 #[.bool true]
 | 18,v=>∃q,v=eP 1 0 1 false true (.func (.func 121) #[] #[.pointer (some ⟨q,0,none⟩)])∧ag w q 4 #[.bool true]
 | 19,v=>∃q,v=eP 1 0 1 false true (.func (.func 121) #[] #[.pointer (some ⟨q,0,none⟩)])∧ag w q 4 #[.bool false]
 | 20,v=>v=eP 1 2 2 false false (.func (.func 97) #[] #[])
 | _,_=>False
theorem ij.keep {w w':World}(hk:∀(q:Nat) (t:TypeId) (cs:Array Value),ag w q t cs→ag w' q t cs):∀(k:Nat) (v:Value),ij w k v→ij w' k v:=by
 intro k v h;unfold ij at*;split at h
 ·exact h
 ·exact h
 ·obtain⟨q,h1,h2⟩:=h;exact⟨q,h1,hk _ _ _ h2⟩
 ·obtain⟨q,h1,h2⟩:=h;exact⟨q,h1,hk _ _ _ h2⟩
 ·obtain⟨q,h1,h2⟩:=h;exact⟨q,h1,hk _ _ _ h2⟩
 ·obtain⟨q,q2,h1,h2,h3⟩:=h;exact⟨q,q2,h1,hk _ _ _ h2,hk _ _ _ h3⟩
 ·obtain⟨q,q2,h1,h2,h3⟩:=h;exact⟨q,q2,h1,hk _ _ _ h2,hk _ _ _ h3⟩
 ·obtain⟨q,h1,h2⟩:=h;exact⟨q,h1,hk _ _ _ h2⟩
 ·obtain⟨q,h1,h2⟩:=h;exact⟨q,h1,hk _ _ _ h2⟩
 ·obtain⟨q,h1,h2⟩:=h;exact⟨q,h1,hk _ _ _ h2⟩
 ·obtain⟨q,h1,h2⟩:=h;exact⟨q,h1,hk _ _ _ h2⟩
 ·obtain⟨q,h1,h2⟩:=h;exact⟨q,h1,hk _ _ _ h2⟩
 ·obtain⟨q,h1,h2⟩:=h;exact⟨q,h1,hk _ _ _ h2⟩
 ·obtain⟨q,h1,h2⟩:=h;exact⟨q,h1,hk _ _ _ h2⟩
 ·obtain⟨q,h1,h2⟩:=h;exact⟨q,h1,hk _ _ _ h2⟩
 ·obtain⟨q,h1,h2⟩:=h;exact⟨q,h1,hk _ _ _ h2⟩
 ·obtain⟨q,h1,h2⟩:=h;exact⟨q,h1,hk _ _ _ h2⟩
 ·exact h
 ·exact h
def kT (w:World)(g:Nat)(es:Array MapEntry)(c:Nat):Prop:=w.heap[g]?=some (.map es c)∧∀e∈es.toList,∃k:Nat,e.key=.int .u8 k∧ij w k e.val
theorem kT.lt {w:World} {g:Nat} {es:Array MapEntry} {c:Nat}(h:kT w g es c):g < w.heap.size:=by
 rcases Nat.lt_or_ge g w.heap.size with hlt | AW
 ·exact hlt
 ·have:=h.1;rw[Array.getElem?_eq_none AW] at this;cases this
theorem kT.later {w w':World} {g:Nat} {es:Array MapEntry} {c:Nat}(h:kT w g es c)(hb:Below w.heap.size w w'):kT w' g es c:=
 ⟨(hb.block g h.lt).trans h.1,fun e he=>by obtain⟨k,h1,h2⟩:=h.2 e he;exact⟨k,h1,h2.keep (fun q t cs hq=>hq.later hb) _ _⟩⟩
def aK (w:World)(g:Nat)(es:Array MapEntry)(c:Nat):World:= { w with heap:=w.heap.setIfInBounds g (.map es c)}
theorem bQ {B:Nat} {w0 w:World}(h:Below B w0 w)(g:Nat)(hg:B≤g)(es:Array MapEntry)(c:Nat):Below B w0 (aK w g es c):=by
 refine⟨h.os,h.tape,h.output,?_,fun k hk=>?_⟩
 ·have:=h.size;simp[aK];exact this
 ·rw[← h.block k hk];simp only[aK,Array.getElem?_setIfInBounds];rw[if_neg (by omega)]
theorem kT.push {w:World} {g:Nat} {es:Array MapEntry} {c:Nat}(h:kT w g es c)(k:Nat)(v:Value)(hv:ij w k v):kT (aK w g (es.push ⟨.int .u8 k,v,c⟩) (c+1)) g (es.push ⟨.int .u8 k,v,c⟩) (c+1):=by
 have hlt:=h.lt;have keep:∀(q:Nat) (t:TypeId) (cs:Array Value),ag w q t cs→ag (aK w g (es.push ⟨.int .u8 k,v,c⟩) (c+1)) q t cs:=by
  intro q t cs hq;have hne:g≠q:=by intro e;subst e;have h1:=h.1;unfold ag at hq;rw[hq] at h1;cases h1
  unfold ag at*;simp only[aK,Array.getElem?_setIfInBounds];rw[if_neg hne];exact hq
 refine⟨by simp[aK,hlt],fun e he=>?_⟩;rw[Array.toList_push] at he;rcases List.mem_append.1 he with he | he
 ·obtain⟨k',h1,h2⟩:=h.2 e he;exact⟨k',h1,h2.keep keep _ _⟩
 ·simp at he;subst he;exact⟨k,rfl,hv.keep keep _ _⟩
theorem wB (e:Bool)(k:Int)(w:World):(Instr.checkKey e 10000 5 (.int .u8 k)).run Tryz.prog w=.ok () w:=
 MapKept.run_checkKey Tryz.underlying5 (by simp[MapKept.IsKey]) e 9999
theorem fE (w:World)(g:Nat)(es:Array MapEntry)(c:Nat)(hg:w.heap[g]?=some (.map es c))(k:Int)(v:Value)(hf:Instr.findNow (.int .u8) (.int .u8 k) es.toList 0=some none):
  (Instr.mapUpdate 94 (.map (some g)) (.int .u8 k) v).run Tryz.prog w=.ok () (aK w g (es.push ⟨.int .u8 k,v,c⟩) (c+1)):=by
 unfold Instr.mapUpdate;simp only[Sem.run_bind,run_underlying Tryz.underlying94,Result.andThen_ok,MapKept.run_getObj_map hg,wB,Instr.findKey,run_underlying Tryz.underlying5,hf,Sem.run_pure,MapKept.run_setObj_map _ hg];rfl
def AZ (fv:Value)(w:World)(e:Ending)(w':World):Prop:=∃q,e=.returned (.agg #[.int .i64 2,.int .u8 2,.int .u8 2,.bool false,.bool false,(.func (.func 115) #[] #[.pointer (some ⟨q,0,none⟩)])])∧ag w' q 121 #[fv]∧Below w.heap.size w w'
theorem lV (F0:Fn)(C0:Array Value)(w:World):Calls Tryz.prog 81 #[.func F0 #[] C0] w (AZ (.func F0 #[] C0) w):=by
 have XV:∀(fn:Fn) (first cap:Array Value) (w:World),(Instr.makeFunc fn first cap).run Tryz.prog w=.ok (.func fn first cap) w:=fun _ _ _ _=>rfl
 go_enter Tryz.func81,Tryz.ntmps81;go_wp2;refine bodyPost_ret (v:=.agg #[.int .i64 2,.int .u8 2,.int .u8 2,.bool false,.bool false,(.func (.func 115) #[] #[.pointer (some ⟨w.heap.size,0,none⟩)])]) ?_ rfl ?_
 ·simp[results,Tryz.results81,go_sem];try rfl
 ·exact⟨w.heap.size,rfl,(ag.new w 121 #[.func F0 #[] C0]).alloc _,by go_grown⟩
def Fw (fv:Value)(w:World)(e:Ending)(w':World):Prop:=∃q,e=.returned (.agg #[.int .i64 2,.int .u8 0,.int .u8 1,.bool true,.bool false,(.func (.func 117) #[] #[.pointer (some ⟨q,0,none⟩)])])∧ag w' q 123 #[fv]∧Below w.heap.size w w'
theorem iL (F0:Fn)(C0:Array Value)(w:World):Calls Tryz.prog 88 #[.func F0 #[] C0] w (Fw (.func F0 #[] C0) w):=by
 have XV:∀(fn:Fn) (first cap:Array Value) (w:World),(Instr.makeFunc fn first cap).run Tryz.prog w=.ok (.func fn first cap) w:=fun _ _ _ _=>rfl
 go_enter Tryz.func88,Tryz.ntmps88;go_wp2;refine bodyPost_ret (v:=.agg #[.int .i64 2,.int .u8 0,.int .u8 1,.bool true,.bool false,(.func (.func 117) #[] #[.pointer (some ⟨w.heap.size,0,none⟩)])]) ?_ rfl ?_
 ·simp[results,Tryz.results88,go_sem];try rfl
 ·exact⟨w.heap.size,rfl,(ag.new w 123 #[.func F0 #[] C0]).alloc _,by go_grown⟩
def Fx (fv:Bool)(w:World)(e:Ending)(w':World):Prop:=∃q,e=.returned (.agg #[.int .i64 2,.int .u8 1,.int .u8 1,.bool false,.bool true,(.func (.func 119) #[] #[.pointer (some ⟨q,0,none⟩)])])∧ag w' q 4 #[.bool fv]∧Below w.heap.size w w'
theorem zB (fv:Bool)(w:World):Calls Tryz.prog 95 #[.bool fv] w (Fx fv w):=by
 have XV:∀(fn:Fn) (first cap:Array Value) (w:World),(Instr.makeFunc fn first cap).run Tryz.prog w=.ok (.func fn first cap) w:=fun _ _ _ _=>rfl
 go_enter Tryz.func95,Tryz.ntmps95;go_wp2;refine bodyPost_ret (v:=.agg #[.int .i64 2,.int .u8 1,.int .u8 1,.bool false,.bool true,(.func (.func 119) #[] #[.pointer (some ⟨w.heap.size,0,none⟩)])]) ?_ rfl ?_
 ·simp[results,Tryz.results95,go_sem];try rfl
 ·exact⟨w.heap.size,rfl,(ag.new w 4 #[.bool fv]).alloc _,by go_grown⟩
def Fy (fv:Bool)(w:World)(e:Ending)(w':World):Prop:=∃q,e=.returned (.agg #[.int .i64 1,.int .u8 0,.int .u8 1,.bool false,.bool true,(.func (.func 121) #[] #[.pointer (some ⟨q,0,none⟩)])])∧ag w' q 4 #[.bool fv]∧Below w.heap.size w w'
theorem zC (fv:Bool)(w:World):Calls Tryz.prog 96 #[.bool fv] w (Fy fv w):=by
 have XV:∀(fn:Fn) (first cap:Array Value) (w:World),(Instr.makeFunc fn first cap).run Tryz.prog w=.ok (.func fn first cap) w:=fun _ _ _ _=>rfl
 go_enter Tryz.func96,Tryz.ntmps96;go_wp2;refine bodyPost_ret (v:=.agg #[.int .i64 1,.int .u8 0,.int .u8 1,.bool false,.bool true,(.func (.func 121) #[] #[.pointer (some ⟨w.heap.size,0,none⟩)])]) ?_ rfl ?_
 ·simp[results,Tryz.results96,go_sem];try rfl
 ·exact⟨w.heap.size,rfl,(ag.new w 4 #[.bool fv]).alloc _,by go_grown⟩
def Qy (F0:Fn)(C0:Array Value)(w:World)(e:Ending)(w':World):Prop:=∃q q2,e=.returned (.agg #[.int .i64 2,.int .u8 2,.int .u8 2,.bool false,.bool false,(.func (.func 115) #[] #[.pointer (some ⟨q,0,none⟩)])])∧ag w' q 121 #[.func (.func 116) #[] #[.pointer (some ⟨q2,0,none⟩)]]∧ag w' q2 121 #[.func F0 #[] C0]∧Below w.heap.size w w'
theorem HY (F0:Fn)(C0:Array Value)(w:World):Calls Tryz.prog 85 #[.func F0 #[] C0] w (Qy F0 C0 w):=by
 have XV:∀(fn:Fn) (first cap:Array Value) (w:World),(Instr.makeFunc fn first cap).run Tryz.prog w=.ok (.func fn first cap) w:=fun _ _ _ _=>rfl
 go_enter Tryz.func85,Tryz.ntmps85;go_wp2_with fail;have h2:=(ag.new w 121 #[.func F0 #[] C0]).alloc (.cells #[.int .i64 0,.int .u8 0,.int .u8 0,.bool false,.bool false,.nilFunc] 76);have hR:=ag.new (w.alloc (.cells #[.func F0 #[] C0] 121)) 76 #[.int .i64 0,.int .u8 0,.int .u8 0,.bool false,.bool false,.nilFunc];rw[World.size_alloc] at hR;have hB:=ae.then (aa w (.cells #[.func F0 #[] C0] 121)) (aa _ (.cells #[.int .i64 0,.int .u8 0,.int .u8 0,.bool false,.bool false,.nilFunc] 76))
 generalize (w.alloc (.cells #[.func F0 #[] C0] 121)).alloc (.cells #[.int .i64 0,.int .u8 0,.int .u8 0,.bool false,.bool false,.nilFunc] 76)=W at*;have bo:w.heap.size≤w.heap.size+1:=by omega
 have hne:w.heap.size≠w.heap.size+1:=by omega
 generalize w.heap.size+1=g at*;refine(lV _ _ _).mono ?_;rintro e w1 ⟨q,rfl,hq,b1⟩;replace h2:=h2.later b1;replace hR:=hR.later b1;replace hB:=ae.then hB b1
 clear b1;have PR:q≠g:=fun e=>by subst e;unfold ag at hq hR;rw[hq] at hR;injection hR with hR;injection hR with _ hR _;revert hR;decide
 have cR:∀i,i < 6→∃u,w1.cell? ⟨g,i,none⟩=some u:=fun i hi=>⟨_,(hR.cell i).trans (Array.getElem?_eq_getElem (by simpa using hi))⟩
 have c0:=hR.cell 0;have c1:=hR.cell 1;have c2:=hR.cell 2;have c3:=hR.cell 3;have c4:=hR.cell 4;have c5:=hR.cell 5;simp only[List.getElem?_toArray,List.getElem?_cons_zero,List.getElem?_cons_succ] at c0 c1 c2 c3 c4 c5;have fR:=hR.frozen;clear cR hR;go_wp2_with fail;refine bodyPost_ret (v:=.agg #[.int .i64 2,.int .u8 2,.int .u8 2,.bool false,.bool false,(.func (.func 115) #[] #[.pointer (some ⟨q,0,none⟩)])]) ?_ rfl ?_
 ·simp[results,Tryz.results85,go_sem,c0,c1,c2,c3,c4,c5]
 ·exact⟨q,w.heap.size,rfl,(((((hq.far (p:=⟨g,0,none⟩) PR _).far (p:=⟨g,1,none⟩) PR _).far (p:=⟨g,2,none⟩) PR _).far (p:=⟨g,3,none⟩) PR _).far (p:=⟨g,4,none⟩) PR _).far (p:=⟨g,5,none⟩) PR _,(((((h2.far (p:=⟨g,0,none⟩) hne _).far (p:=⟨g,1,none⟩) hne _).far (p:=⟨g,2,none⟩) hne _).far (p:=⟨g,3,none⟩) hne _).far (p:=⟨g,4,none⟩) hne _).far (p:=⟨g,5,none⟩) hne _,(((((hB.setCell bo _).setCell bo _).setCell bo _).setCell bo _).setCell bo _).setCell bo _⟩
end Go.Proofs.YtfmbcoeallmnnaaGreatDoor
