/- Parts of the proof. -/
import Derived.Test.YtfmbcoeallmnnaaGreatDoorD9
import Derived.Test.YtfmbcoeallmnnaaGreatDoorD10
namespace Go.Proofs.YtfmbcoeallmnnaaGreatDoor
open Go.Lib (hid)
open Go.ChangeShapes Go.WideShapes Go.ChangeAt Go.RowKit
set_option linter.unusedVariables false
set_option linter.unusedSimpArgs false
def vK (w:World)(cV:Value)(y:Ex)(t e:Int):Prop:=∀W,Below w.heap.size w W→Calls Tryz.prog 53 #[.agg #[.int .u8 y.op,.int .u8 y.v.k,.int .i64 y.v.n,.string y.v.s,.string y.name,.int .i64 y.width,.slice y.A y.n y.c],cV] W fun en w'=>en=.returned (.tuple #[.int .u8 t,.int .i64 e])∧Below W.heap.size W w'
set_option maxHeartbeats 3000000
set_option maxRecDepth 100000
theorem MI (op:Int)(xv:Val)(name:ByteArray)(width:Int)(A:Option Addr)(n c:Nat)(cV:Value)(args:List (Ex×Int))(bad:Ex)(bt er:Int)(post:List Ex)(hn:args.length+1+post.length=n)(w:World)(hl:args.length≤1599289640356)(Co:n≤1599289640356)(hA:RE w w.heap.size A (args.map (·.1)++bad::post))(hE:∀a∈args,MG w cV a.1 a.2)(sf:vK w cV bad bt er)(her:er≠0):
  Calls Tryz.prog 53 #[.agg #[.int .u8 op,.int .u8 xv.k,.int .i64 xv.n,.string xv.s,.string name,.int .i64 width,.slice A n c],cV] w fun en w'=>en=.returned (.tuple #[.int .u8 0,.int .i64 er])∧Below w.heap.size w w':=by
 have HN:=hid hn;have UB:=hid sf;have L4:=hid her;clear hn sf her;have HA:=hid hA;have HE:=hid hE;clear hA hE;go_enter Tryz.func53,Tryz.ntmps53;have hX:=ag.new w 34 #[.int .u8 op,.int .u8 xv.k,.int .i64 xv.n,.string xv.s,.string name,.int .i64 width,.slice A n c];have x6:=hX.cell 6;simp only[List.getElem?_toArray,List.getElem?_cons_zero,List.getElem?_cons_succ] at x6;go_wp2_with fail;have hB:=aa w (.cells #[.int .u8 op,.int .u8 xv.k,.int .i64 xv.n,.string xv.s,.string name,.int .i64 width,.slice A n c] 34);clear x6;generalize w.alloc (.cells #[.int .u8 op,.int .u8 xv.k,.int .i64 xv.n,.string xv.s,.string name,.int .i64 width,.slice A n c] 34)=W at*;go_loopw [6,17] (fun kv i wr=>∃k:Nat,k≤args.length∧i=.int .i64 k∧aQ gu 5 1 wr W.heap.size kv ((args.take k).map (·.2))∧Below W.heap.size W wr) (fun _ i _=>args.length - (intOf i).toNat);case atStart=>exact⟨0,Nat.zero_le _,rfl,aQ.nil,Below.refl _ _⟩
 case round=>
  obtain⟨k,hk,rfl,hK,hb⟩:=hrel;have HK:=hid hK;clear hK;rcases Nat.lt_or_ge k args.length with hlt | AW
  ·have L5:k < n:=by have:=HN.out;omega
   obtain⟨b,off,rfl,Fe,hex⟩:=(HA.out.below (hB.trans (hb.mono hB.size))).at_ (show k <(args.map (·.1)++bad::post).length by simp;omega);have oO:(args.map (·.1)++bad::post)[k]'(by simp;omega)=args[k].1:=by rw[List.getElem_append_left (by simpa using hlt)];simp
   rw[oO] at hex;clear oO;have mC:=HE.out args[k] (List.getElem_mem hlt);have HT:=hid (show args.take (k+1)=args.take k++ [args[k]] by rw[List.take_add_one,List.getElem?_eq_getElem hlt];rfl);generalize args[k]=yv at*;obtain⟨y,v⟩:=yv;dsimp only at*;unfold cw at hex;go_wp2_with fail;have bY:=aa wr (.cells #[.int .u8 y.op,.int .u8 y.v.k,.int .i64 y.v.n,.string y.v.s,.string y.name,.int .i64 y.width,.slice y.A y.n y.c] 34);refine(mC _ (hB.trans ((ae.then hb bY).mono hB.size))).mono ?_;rintro e w1 ⟨rfl,b1⟩;have hb1:=ae.then bY b1
   have bN:=aa w1 (.cells #[.int .u8 v] 5);have hG:=ag.new w1 5 #[.int .u8 v];have hb2:=ae.then hb1 bN
   replace HK:=hid (HK.out.later hb2);replace hb:=ae.then hb hb2
   have MC:((args.take k).map (·.2)).length≤1599289640356:=by simp;omega
   generalize Ig:(args.take k).map (·.2)=ks at*;have UC:=hid Ig;have HG:=hid hG;have hbase:=hb.size;clear Ig hG hb2 hb1 b1 bY bN mC hex;go_wp2_with (first
    |(at_builtin
      refine dm rfl (.tmp 30) (.tmp 32) 73 rfl _ 1 Tryz.underlying73 se rfl (by omega) v rfl (by simp[gu,Value.oneCell']) rfl HK.out w1.heap.size rfl HG.out (by omega) (by omega) hbase ?_
      intro v4 w4 o4 g4
      have b4:=eR HK.out g4 hbase
      have O4:=hid o4
      clear o4 g4 HK HG))
   go_roundw;case rel=>refine⟨k+1,hlt,by go_num,?_,hb.trans b4⟩;rw[HT.out,List.map_append,UC.out];exact O4.out
   case measure=>simp[intOf];omega
  ·have Yp:k=args.length:=by omega
   have L5:k < n:=by have:=HN.out;omega
   obtain⟨b,off,rfl,Fe,hex⟩:=(HA.out.below (hB.trans (hb.mono hB.size))).at_ (show k <(args.map (·.1)++bad::post).length by simp;omega);have oO:(args.map (·.1)++bad::post)[k]'(by simp;omega)=bad:=by rw[List.getElem_append_right (by simp;omega)];simp[Yp]
   rw[oO] at hex;clear oO Yp HK;have mC:=UB.out;unfold cw at hex;go_wp2_with fail;have bY:=aa wr (.cells #[.int .u8 bad.op,.int .u8 bad.v.k,.int .i64 bad.v.n,.string bad.v.s,.string bad.name,.int .i64 bad.width,.slice bad.A bad.n bad.c] 34);refine(mC _ (hB.trans ((ae.then hb bY).mono hB.size))).mono ?_;rintro e w1 ⟨rfl,b1⟩;have bZ:=ae.then hB (ae.then hb (ae.then bY b1))
   have te:(er != 0)=true:=by have:=L4.out;simpa using this
   clear mC hex bY b1 hX hB hb;go_wp2_with fail;exact bodyPost_ret (v:=.tuple #[.int .u8 0,.int .i64 er]) (by simp[results,Tryz.results53,go_sem]) rfl ⟨rfl,bZ⟩
def kH (cols:List ik)(name:ByteArray):Int×Int:=if bE name cols < cols.length then((cols.getD (bE name cols) ⟨ByteArray.empty,0⟩).t,0)else(0,41)
theorem MJ (xv:Val)(name:ByteArray)(width:Int)(A:Option Addr)(c:Nat)(cols:List ik)(CA:Option Addr)(cc:Nat)(w:World)(hC:RC w w.heap.size CA cols)(hl:cols.length≤140737488355328):
  Calls Tryz.prog 53 #[.agg #[.int .u8 2,.int .u8 xv.k,.int .i64 xv.n,.string xv.s,.string name,.int .i64 width,.slice A 0 c],.slice CA cols.length cc] w fun en w'=>en=.returned (.tuple #[.int .u8 (kH cols name).1,.int .i64 (kH cols name).2])∧Below w.heap.size w w':=by
 have HC:=hid hC;clear hC;go_enter Tryz.func53,Tryz.ntmps53;have bp:=ag.new w 34 #[.int .u8 2,.int .u8 xv.k,.int .i64 xv.n,.string xv.s,.string name,.int .i64 width,.slice A 0 c];have x6:=bp.cell 6;simp only[List.getElem?_toArray,List.getElem?_cons_zero,List.getElem?_cons_succ] at x6;go_wp2_with fail;have bZ:=aa w (.cells #[.int .u8 2,.int .u8 xv.k,.int .i64 xv.n,.string xv.s,.string name,.int .i64 width,.slice A 0 c] 34);replace HC:=hid (HC.out.later bZ);clear x6;generalize w.alloc (.cells #[.int .u8 2,.int .u8 xv.k,.int .i64 xv.n,.string xv.s,.string name,.int .i64 width,.slice A 0 c] 34)=W at*;go_loopw [6,17] (fun kv i wr=>kv=.slice none 0 0∧i=.int .i64 0∧wr=W) (fun _ _ _=>0);case atStart=>exact⟨rfl,rfl,rfl⟩
 case round=>
  obtain⟨rfl,rfl,rfl⟩:=hrel;have x0:=bp.cell 0;have x1:=bp.cell 1;have x2:=bp.cell 2;have x3:=bp.cell 3;have x4:=bp.cell 4;have x5:=bp.cell 5;have x6:=bp.cell 6;simp only[List.getElem?_toArray,List.getElem?_cons_zero,List.getElem?_cons_succ] at x0 x1 x2 x3 x4 x5 x6;go_wp2_with fail;refine(rZ ⟨2,xv,name,width,A,0,c⟩ _).mono ?_;rintro e w1 ⟨oo,rfl,JM,b1⟩;obtain rfl:oo=jt:=by
   rcases JM with ⟨h,_⟩|⟨_,h⟩
   ·exact absurd h (by simp[gp])
   ·exact h
  have Bd:bc ⟨2,xv,name,width,A,0,c⟩=0:=by unfold bc;rw[if_pos (by simp)]
  rw[Bd];clear Bd JM;clear x0 x1 x2 x3 x4 x5 x6;have b2:=ae.then b1 (aa w1 (.cells #[.int .i64 0,.int .u8 0,.int .u8 0,.bool false,.bool false,.nilFunc] 76))
  replace bp:=bp.later b2;replace bZ:=ae.then bZ b2
  replace HC:=hid (HC.out.later b2);clear b1 b2;have hst:=fun(u:Addr) (m:Mode) (w:World)=>run_store Tryz.prog w u .nilFunc m rfl
  unfold jt;have x0:=bp.cell 0;have x1:=bp.cell 1;have x2:=bp.cell 2;have x3:=bp.cell 3;have x4:=bp.cell 4;have x5:=bp.cell 5;have x6:=bp.cell 6;simp only[List.getElem?_toArray,List.getElem?_cons_zero,List.getElem?_cons_succ] at x0 x1 x2 x3 x4 x5 x6;go_wp2_with fail;clear hst;clear x0 x1 x2 x3 x4 x5 x6;refine(zM cols CA cc name _ HC.out hl).mono ?_;rintro e w2 ⟨rfl,b2⟩;replace bp:=bp.later b2;replace bZ:=ae.then bZ b2
  replace HC:=hid (HC.out.later b2);clear b2;by_cases hp:bE name cols < cols.length
  ·have HP:=hid (show ko name cols=(bE name cols:Int) by unfold ko;rw[if_pos hp]);rw[HP.out];have LV:=hid (show kH cols name=((cols.getD (bE name cols) ⟨ByteArray.empty,0⟩).t,0) by unfold kH;rw[if_pos hp]);clear HP;generalize bE name cols=k at*;have hk2:(k:Int)≤140737488355328:=by omega
   have t0:decide (0≤(k:Int))=true:=decide_eq_true (by omega);obtain⟨b,off,rfl,Fe,QH⟩:=HC.out.at_ hp;have HG:=hid (show cols.getD k ⟨ByteArray.empty,0⟩=cols[k] by rw[List.getD_eq_getElem?_getD,List.getElem?_eq_getElem hp];rfl);have HQ:=LV;rw[HG.out] at HQ;clear LV;generalize cols[k]=x at*;unfold si at QH;have x0:=bp.cell 0;have x1:=bp.cell 1;have x2:=bp.cell 2;have x3:=bp.cell 3;have x4:=bp.cell 4;have x5:=bp.cell 5;have x6:=bp.cell 6;simp only[List.getElem?_toArray,List.getElem?_cons_zero,List.getElem?_cons_succ] at x0 x1 x2 x3 x4 x5 x6;go_wp2_with fail;exact bodyPost_ret (v:=.tuple #[.int .u8 x.t,.int .i64 0]) (by simp[results,Tryz.results53,go_sem]) rfl ⟨by rw[HQ.out],bZ⟩
  ·have HP:=hid (show ko name cols= -1 by unfold ko;rw[if_neg hp]);rw[HP.out];have HQ:=hid (show kH cols name=(0,41) by unfold kH;rw[if_neg hp]);clear hp;have x0:=bp.cell 0;have x1:=bp.cell 1;have x2:=bp.cell 2;have x3:=bp.cell 3;have x4:=bp.cell 4;have x5:=bp.cell 5;have x6:=bp.cell 6;simp only[List.getElem?_toArray,List.getElem?_cons_zero,List.getElem?_cons_succ] at x0 x1 x2 x3 x4 x5 x6;go_wp2_with fail;exact bodyPost_ret (v:=.tuple #[.int .u8 0,.int .i64 41]) (by simp[results,Tryz.results53,go_sem]) rfl ⟨by rw[HQ.out],bZ⟩
def iG:List (Int×Int)→Int
 | []=>0
 | r::rs=>if r.2≠0 then r.2 else iG rs
def mK (cols:List ik)(x:Ex)(rs:List (Int×Int)):Int×Int:=
 if iG rs≠0 then(0,iG rs)else if bc x≠0 then(0,bc x)else if x.op=1 then(x.v.k,0)else if x.op=2 then kH cols x.name else if fq x.op (rs.map (·.1))=false then(0,40)else(lj x.op,0)
mutual
def Tr.type (cols:List ik):Tr→Int×Int
 | .mk op v name width args=>mK cols ⟨op,v,name,width,none,args.length,0⟩ (Tr.types cols args)
def Tr.types (cols:List ik):List Tr→List (Int×Int)
 | []=> []
 | t::ts=>t.type cols::Tr.types cols ts
end
theorem Tr.sr (cols:List ik):∀ts,(Tr.types cols ts).length=ts.length
 | []=>by simp[Tr.types]
 | t::ts=>by simp[Tr.types,Tr.sr cols ts]
theorem su:∀(l:List (Ex×(Int×Int))),(∀a∈l,a.2.2=0)∨∃pre bad post,l=pre++bad::post∧(∀a∈pre,a.2.2=0)∧bad.2.2≠0
 | []=> .inl (by simp)
 | a::l=>by
   by_cases h:a.2.2=0
   ·rcases su l with h1 |⟨pre,bad,post,h1,h2,h3⟩
    ·exact .inl (by intro x hx;rcases List.mem_cons.1 hx with rfl | hx;exact h;exact h1 x hx)
    ·refine .inr ⟨a::pre,bad,post,by rw[h1];rfl,?_,h3⟩;intro x hx;rcases List.mem_cons.1 hx with rfl | hx
     ·exact h
     ·exact h2 x hx
   ·exact .inr ⟨[],a,l,rfl,by simp,h⟩
theorem uL:∀ {l:List (Int×Int)},(∀a∈l,a.2=0)→iG l=0
 | [],_=>rfl
 | a::l,h=>by unfold iG;rw[if_neg (by simp[h a (by simp)])];exact uL fun x hx=>h x (by simp[hx])
theorem zN:∀ {pre post:List (Int×Int)} {bad:Int×Int},(∀a∈pre,a.2=0)→bad.2≠0→iG (pre++bad::post)=bad.2
 | [],post,bad,_,hb=>by unfold iG;simp[hb]
 | a::pre,post,bad,h,hb=>by show iG (a::(pre++bad::post))=_;unfold iG;rw[if_neg (by simp[h a (by simp)])];exact zN (fun x hx=>h x (by simp[hx])) hb
section
variable (cols:List ik) (CA:Option Addr) (cc:Nat)
theorem MK (op:Int)(xv:Val)(name:ByteArray)(width:Int)(A:Option Addr)(c:Nat)(args:List (Ex×(Int×Int)))(w:World)(hl:args.length≤1599289640356)(hA:RE w w.heap.size A (args.map (·.1)))
  (hC:RC w w.heap.size CA cols) (dT:cols.length≤140737488355328) (hE:∀a∈args,vK w (.slice CA cols.length cc) a.1 a.2.1 a.2.2):
  Calls Tryz.prog 53 #[.agg #[.int .u8 op,.int .u8 xv.k,.int .i64 xv.n,.string xv.s,.string name,.int .i64 width,.slice A args.length c],.slice CA cols.length cc] w fun en w'=>en=.returned (.tuple #[.int .u8 (mK cols ⟨op,xv,name,width,none,args.length,0⟩ (args.map (·.2))).1,.int .i64 (mK cols ⟨op,xv,name,width,none,args.length,0⟩ (args.map (·.2))).2])∧Below w.heap.size w w':=by
 rcases su args with h0 |⟨pre,bad,post,rfl,FH,sf⟩
 ·have hf:iG (args.map (·.2))=0:=uL fun a ha=>by obtain⟨z,hz,rfl⟩:=List.mem_map.1 ha;exact h0 z hz
  by_cases h2:op=2∧args=[]
  ·obtain⟨rfl,rfl⟩:=h2;have k:=MJ xv name width A c cols CA cc w hC dT;have e:mK cols ⟨2,xv,name,width,none,0,0⟩ []=kH cols name:=by unfold mK;rw[if_neg (by simp[iG]),if_neg (by simp[bc]),if_neg (by simp),if_pos (by rfl)]
   show Calls _ _ _ _ fun en w'=>en=.returned (.tuple #[.int .u8 (mK cols ⟨2,xv,name,width,none,0,0⟩ []).1,.int .i64 (mK cols ⟨2,xv,name,width,none,0,0⟩ []).2])∧_
   rw[e];exact k
  ·have k:=MH op xv name width A c (.slice CA cols.length cc) (args.map fun a=>(a.1,a.2.1)) (by
    by_cases ho:op=2
    ·right;intro h;exact h2 ⟨ho,by simpa using h⟩
    ·exact .inl ho) w (by simpa using hl) (by simpa [Function.comp_def] using hA) (fun a ha=>by
    obtain⟨z,hz,rfl⟩:=List.mem_map.1 ha
    have:=hE z hz
    rw[h0 z hz] at this
    exact this)
   rw[List.length_map] at k;have hm:(args.map fun a=>(a.1,a.2.1)).map (·.2)=(args.map (·.2)).map (·.1):=by simp[Function.comp_def]
   rw[hm] at k;have e:mK cols ⟨op,xv,name,width,none,args.length,0⟩ (args.map (·.2))=qB ⟨op,xv,name,width,A,args.length,c⟩ ((args.map (·.2)).map (·.1)):=by
    have UK:bc ⟨op,xv,name,width,A,args.length,c⟩=bc ⟨op,xv,name,width,none,args.length,0⟩:=rfl;unfold mK qB;rw[if_neg (by rw[hf];simp),UK];dsimp only;by_cases Bd:bc ⟨op,xv,name,width,none,args.length,0⟩=0
    ·simp only[Bd,ne_eq,not_true_eq_false,↓reduceIte];by_cases h1:op=1
     ·simp only[h1,↓reduceIte]
     ·simp only[h1,↓reduceIte];rw[if_neg];intro ho;exact h2 ⟨ho,pM (l:=args) Bd ho⟩
    ·simp only[Bd,ne_eq,not_false_eq_true,↓reduceIte]
   rw[e];exact k
 ·have F5:=hE bad (by simp);have k:=MI op xv name width A (pre++bad::post).length c (.slice CA cols.length cc) (pre.map fun a=>(a.1,a.2.1)) bad.1 bad.2.1 bad.2.2 (post.map (·.1)) (by simp;omega) w (by simp at hl ⊢;omega) hl (by simpa [Function.comp_def] using hA) (fun a ha=>by
   obtain⟨z,hz',rfl⟩:=List.mem_map.1 ha
   have:=hE z (by simp[hz'])
   rw[FH z hz'] at this
   exact this) F5 sf
  have hf:iG ((pre++bad::post).map (·.2))=bad.2.2:=by rw[List.map_append,List.map_cons];exact zN (fun a ha=>by obtain⟨z,hz',rfl⟩:=List.mem_map.1 ha;exact FH z hz') sf
  have e:mK cols ⟨op,xv,name,width,none,(pre++bad::post).length,0⟩ ((pre++bad::post).map (·.2))=(0,bad.2.2):=by unfold mK;rw[if_pos (by rw[hf];exact sf),hf]
  rw[e];exact k
mutual
theorem Tr.Ik (dT:cols.length≤140737488355328):∀(t:Tr) (y:Ex) (w:World),t.ok→t.at_ w (Old w) y→RC w w.heap.size CA cols→vK w (.slice CA cols.length cc) y (t.type cols).1 (t.type cols).2
 | .mk op v name width args,y,w,aZ,hat,hC=>by
   intro W hb;have kI:=hat.later hb;unfold Tr.at_ at kI;obtain⟨h1,h2,h3,h4,h5,ys,h6,h7⟩:=kI;unfold Tr.ok at aZ;obtain⟨l,dN,hl2,yX⟩:=Tr.CS dT args ys W aZ.2.2.2.2.2 h7 (hC.later hb);obtain⟨nD,yv,fI,dO,yA,yn,yc⟩:=y;dsimp only at h1 h2 h3 h4 h5 h6;subst h1 h2 h3 h4 h5;have hlen:l.length=args.length:=by
    have:(l.map (·.2)).length=(Tr.types cols args).length:=by rw[hl2]
    rw[List.length_map,Tr.sr] at this;exact this
   have k:=MK cols CA cc nD yv fI dO yA yc l W (by rw[hlen];exact aZ.2.1) (by rw[dN];exact h6.old) (hC.later hb) dT yX;rw[hl2,hlen] at k;unfold Tr.type;exact k
theorem Tr.CS (dT:cols.length≤140737488355328):∀(ts:List Tr) (ys:List Ex) (w:World),Tr.iO ts→Tr.bJ w (Old w) ts ys→RC w w.heap.size CA cols→∃l:List (Ex×(Int×Int)),l.map (·.1)=ys∧l.map (·.2)=Tr.types cols ts∧∀a∈l,vK w (.slice CA cols.length cc) a.1 a.2.1 a.2.2
 | [],ys,w,_,hat,_=>by unfold Tr.bJ at hat;subst hat;exact⟨[],rfl,by simp[Tr.types],by simp⟩
 | t::ts,ys,w,aZ,hat,hC=>by
   unfold Tr.bJ at hat;unfold Tr.iO at aZ;obtain⟨y,ys',rfl,h2,h3⟩:=hat;obtain⟨l,dN,hl2,yX⟩:=Tr.CS dT ts ys' w aZ.2 h3 hC;refine⟨(y,t.type cols)::l,by simp[dN],by simp[hl2,Tr.types],fun a ha=>?_⟩;rcases List.mem_cons.1 ha with rfl | ha
   ·exact Tr.Ik dT t y w aZ.1 h2 hC
   ·exact yX a ha
end
end
theorem JQ (w:World)(g:Nat)(es:Array MapEntry)(c:Nat)(hg:w.heap[g]?=some (.map es c))(k:Int)(i:Nat)(v:Value)(hf:Instr.findNow (.int .u8) (.int .u8 k) es.toList 0=some (some (i,v))):
  (Instr.lookup 94 (.map (some g)) (.int .u8 k) false).run Tryz.prog w=.ok v w:=by
 unfold Instr.lookup;simp only[Sem.run_bind,run_underlying Tryz.underlying94,Result.andThen_ok,MapKept.run_getObj_map hg,wB,Instr.findKey,run_underlying Tryz.underlying5,hf,Sem.run_pure];rfl
theorem ML (w:World)(g:Nat)(es:Array MapEntry)(c:Nat)(hg:w.heap[g]?=some (.map es c))(k:Int)(hf:Instr.findNow (.int .u8) (.int .u8 k) es.toList 0=some none):
  (Instr.lookup 94 (.map (some g)) (.int .u8 k) false).run Tryz.prog w=.ok (.agg jt) w:=by
 unfold Instr.lookup;simp only[Sem.run_bind,run_underlying Tryz.underlying94,Result.andThen_ok,MapKept.run_getObj_map hg,wB,Instr.findKey,run_underlying Tryz.underlying5,hf,Sem.run_pure,Ib];rfl
def Il (B gx:Nat)(op:Int):Nat→World→Value→Prop
 | 0=>fun w v=>Found w op v
 | 1=>fun _ v=>v=.pointer (some ⟨gx,0,none⟩)
 | 2=>fun _ v=>v=.int .u8 op
 | 3=>fun w v=>∃o,v=.agg o∧qQ w op o
 | 4=>fun w v=>∃g,v=.pointer (some ⟨g,0,none⟩)∧B≤g∧∃cs,ag w g 76 cs∧cs.size=6
 | _=>fun _ _=>True
theorem CT (B gx:Nat)(op:Int)(i:Nat)(w w':World)(v:Value)(h:Il B gx op i w v)(hr:FR op B w w'):Il B gx op i w' v:=by
 unfold Il at*;split at h
 ·exact h.fr hr
 ·exact h
 ·exact h
 ·obtain⟨o,h1,h2⟩:=h;exact⟨o,h1,h2.fr hr⟩
 ·obtain⟨g,h1,h2,cs,h3,h4⟩:=h;refine⟨g,h1,h2,?_⟩;rcases hr.blk _ _ _ h3 with h5 |⟨_,_,o,h5,h6⟩
  ·exact⟨cs,h5,h4⟩
  ·obtain⟨a,wa,gi,al,nu,d,rfl,_⟩:=h5.shape;exact⟨_,h6,rfl⟩
 ·trivial
def MM (B:Nat)(op:Int)(i:Nat)(w:World)(ρ:Operand→Value):Prop:=
 i=5→∃g o,ρ (.tmp 3)=.pointer (some ⟨g,0,none⟩)∧B≤g∧qQ w op o∧ag w g 76 o
theorem CU (B:Nat)(op:Int) {w w':World} {ρ ρ':Operand→Value}(i:Nat)(h:MM B op i w ρ)(hr:FR op B w w')(he:i=5→ρ' (.tmp 3)=ρ (.tmp 3)):MM B op i w' ρ':=by
 intro hi;obtain⟨g,o,h1,h2,h3,h4⟩:=h hi;rcases hr.blk _ _ _ h4 with h5 |⟨_,_,o',h6,h7⟩
 ·exact⟨g,o,(he hi).trans h1,h2,h3.fr hr,h5⟩
 ·exact⟨g,o',(he hi).trans h1,h2,h6,h7⟩
def tM (w:World)(y:Ex)(b:Bool):Prop:=∀W,Below w.heap.size w W→Calls Tryz.prog 29 #[.agg #[.int .u8 y.op,.int .u8 y.v.k,.int .i64 y.v.n,.string y.v.s,.string y.name,.int .i64 y.width,.slice y.A y.n y.c]] W fun e w'=>e=.returned (.bool b)∧Below W.heap.size W w'
theorem MN (y:Ex)(b:Bool)(w:World)(h:tM w y b)(W:World)(hW:Below w.heap.size w W):Calls Tryz.prog 56 #[.agg #[.int .u8 y.op,.int .u8 y.v.k,.int .i64 y.v.n,.string y.v.s,.string y.name,.int .i64 y.width,.slice y.A y.n y.c]] W fun e w'=>e=.returned (.bool (!b))∧Below W.heap.size W w':=by
 have H:=hid h;clear h;have bb:=aa W (.cells #[.int .u8 y.op,.int .u8 y.v.k,.int .i64 y.v.n,.string y.v.s,.string y.name,.int .i64 y.width,.slice y.A y.n y.c] 34);go_enter Tryz.func56,Tryz.ntmps56;go_wp2_with fail;refine(H.out _ (ae.then hW bb)).mono ?_;rintro e w1 ⟨rfl,b1⟩;have hb:=ae.then bb b1
 clear bb b1;go_wp2_with fail;go_ret;exact⟨rfl,hb⟩
def tN:List (Ex×Bool)→Bool
 | []=>true
 | a::l=>a.2 && tN l
def QK (all:Bool)(w:World)(e:Ending)(w':World):Prop:=∃i:Int,e=.returned (.int .i64 i)∧(all=true→i= -1)∧(all=false→0≤i)∧Below w.heap.size w w'
theorem yY (A:Option Addr)(c:Nat)(args:List (Ex×Bool))(w:World)(hl:args.length≤1599289640356)(hA:RE w w.heap.size A (args.map (·.1)))(hE:∀a∈args,tM w a.1 a.2):
  Calls Tryz.prog 60 #[.slice A args.length c,.func (.func 56) #[] #[]] w (QK (tN args) w):=by
 have HA:=hid hA;have HE:=hid hE;clear hA hE;go_enter Tryz.func60,Tryz.ntmps60;go_wp2_with fail;go_loopw [5,8] (fun _ i wr=>∃k:Nat,k≤args.length∧i=.int .i64 k∧tN args=tN (args.drop k)∧Below w.heap.size w wr) (fun _ i _=>args.length - (intOf i).toNat);case atStart=>exact⟨0,Nat.zero_le _,rfl,rfl,Below.refl _ _⟩
 case round=>
  obtain⟨k,hk,rfl,hp,hb⟩:=hrel;have HP:=hid hp;clear hp;by_cases hlt:k < args.length
  ·obtain⟨b,off,rfl,Fe,hex⟩:=(HA.out.below hb).at_ (show k <(args.map (·.1)).length by simpa using hlt);have oO:(args.map (·.1))[k]'(by simpa using hlt)=args[k].1:=by simp
   rw[oO] at hex;clear oO;have mC:=HE.out args[k] (List.getElem_mem hlt);have HD:=hid (show args.drop k=args[k]::args.drop (k+1)from List.drop_eq_getElem_cons hlt);generalize args[k]=yb at*;obtain⟨y,sb⟩:=yb;dsimp only at*;unfold cw at hex;go_wp2_with fail;refine(MN y sb w mC _ hb).mono ?_;rintro e w1 ⟨rfl,b1⟩;have hb1:=ae.then hb b1
   clear hex mC b1 hb;cases sb
   ·go_wp2_with fail;go_ret;exact⟨k,rfl,fun h=>by rw[HP.out,HD.out] at h;exact absurd h (by simp[tN]),fun _=>by omega,hb1⟩
   ·go_wp2_with fail;go_roundw;case rel=>refine⟨k+1,hlt,by go_num,?_,hb1⟩;rw[HP.out,HD.out];simp[tN]
    case measure=>simp[intOf];omega
  ·go_wp2_with fail;go_ret;exact⟨-1,rfl,fun _=>rfl,fun h=>by rw[HP.out,List.drop_eq_nil_of_le (by omega)] at h;exact absurd h (by simp[tN]),hb⟩
theorem tO (A:Option Addr)(c:Nat)(args:List (Ex×Bool))(w:World)(hl:args.length≤1599289640356)(hA:RE w w.heap.size A (args.map (·.1)))(hE:∀a∈args,tM w a.1 a.2):
  Calls Tryz.prog 36 #[.slice A args.length c,.func (.func 56) #[] #[]] w fun e w'=>e=.returned (.bool (!tN args))∧Below w.heap.size w w':=by
 have hi:=yY A c args w hl hA hE;clear hA hE;go_enter Tryz.func36,Tryz.ntmps36;go_wp2_with fail;refine hi.mono ?_;rintro e w1 ⟨i,rfl,h1,h2,b1⟩;cases ha:tN args
 ·have h3:0≤i:=h2 ha;have t1:=decide_eq_true h3;clear h1 h2 hi;go_wp2_with fail;go_ret;exact⟨by rw[ha];rfl,b1⟩
 ·have h3:i= -1:=h1 ha;clear h1 h2 hi;subst h3;go_wp2_with fail;go_ret;exact⟨by rw[ha];rfl,b1⟩
def qC (op:Int):Bool:=(gp op && lj op==2)|| decide (0≤gj op)
theorem qQ.gives {w:World} {op a wa gi:Int} {al nu:Bool} {d:Value}(h:qQ w op (cu a wa gi al nu d)):(gi==2)=(gp op && lj op==2):=by
 rcases h with ⟨h1,h2⟩|⟨h1,h2⟩
 ·have h3:3≤op∧op≤20:=by simpa [gp] using h1
  have:=h2.fields.2.1;rw[show((op.toNat:Nat):Int)=op by omega] at this;rw[h1,this];rfl
 ·rw[h1];simp[cu,jt] at h2;rw[h2.2.2.1];rfl
theorem JR (op:Int)(v:Val)(name:ByteArray)(width:Int)(A:Option Addr)(c:Nat)(args:List (Ex×Bool))(w:World)(hl:args.length≤1599289640356)(hA:RE w w.heap.size A (args.map (·.1)))(hE:∀a∈args,tM w a.1 a.2):
  Calls Tryz.prog 29 #[.agg #[.int .u8 op,.int .u8 v.k,.int .i64 v.n,.string v.s,.string name,.int .i64 width,.slice A args.length c]] w fun e w'=>e=.returned (.bool (!qC op && tN args))∧Below w.heap.size w w':=by
 have HA:=hid hA;have HE:=hid hE;clear hA hE;go_enter Tryz.func29,Tryz.ntmps29;go_wp2_with fail;have hX:=ag.new w 34 #[.int .u8 op,.int .u8 v.k,.int .i64 v.n,.string v.s,.string name,.int .i64 width,.slice A args.length c];have hB:=aa w (.cells #[.int .u8 op,.int .u8 v.k,.int .i64 v.n,.string v.s,.string name,.int .i64 width,.slice A args.length c] 34);have hgx:=hX.lt;generalize w.alloc (.cells #[.int .u8 op,.int .u8 v.k,.int .i64 v.n,.string v.s,.string name,.int .i64 width,.slice A args.length c] 34)=W at*;refine wD 6 (FR op W.heap.size) (FR.refl _ _) (fun _ _ _=>FR.trans) (fun u=>?_) (Il W.heap.size w.heap.size op) (MM W.heap.size op) ?_ (fun i u u' v h hr=>CT _ _ _ _ _ _ _ h hr) (by kernel_rfl) (by kernel_rfl) (by kernel_rfl) ?_ ?_
 ·exact⟨(Below.refl _ _).drew,fun g t cs h=> .inl h,fun g es c h=>h⟩
 ·intro i o u u' ρ ρ' hi hu hr hk;refine CU _ _ i hu hr fun e=>?_
  subst e;simp only[List.take_succ_cons,List.take_zero] at hi hk;refine hk 4 ?_ _ 3 rfl rfl;injection hi with hi;subst hi;decide
 ·simp only[List.take_succ_cons,List.take_zero];refine⟨?_,?_,?_,?_,?_,?_,trivial⟩
  ·intro ρ w1 hc hL hr;have e1:=hc.func 54;refine fZ (f:=54) (args:= #[]) (w':=w1) (by simp[go_sem,e1]) ?_;refine(zG op w1).mono ?_;rintro e w2 ⟨v,he,hf,hb⟩;exact⟨v,he,FR.later hb hL.below.size,hf,fun h=>by cases h⟩
  ·intro ρ w1 hc hL hr;have h1:ρ (.tmp 1)=.pointer (some ⟨w.heap.size,0,none⟩):=hr.1;exact ai (w':=w1) (by simp[go_sem,h1]) ⟨FR.refl _ _ _,rfl,fun h=>by cases h⟩
  ·intro ρ w1 hc hL hr;have h1:ρ (.tmp 5)=.pointer (some ⟨w.heap.size,0,none⟩):=hr.1;have c0:=(hX.below hL.below hgx).cell 0;simp only[List.getElem?_toArray,List.getElem?_cons_zero] at c0;exact ai (w':=w1) (by simp[go_sem,h1,c0]) ⟨FR.refl _ _ _,rfl,fun h=>by cases h⟩
  ·intro ρ w1 hc hL hr;obtain⟨g,es,h1,hg,Uv⟩:Found w1 op (ρ (.tmp 4)):=hr.1;have h2:ρ (.tmp 6)=.int .u8 op:=hr.2.1;rcases Uv with ⟨ho,i,o,Uw,hoi⟩|⟨ho,Uw⟩
   ·have hl:=JQ _ _ _ _ hg op i _ Uw;exact ai (v:=.agg o) (w':=w1) (by simp[execOp,h1,h2,hl]) ⟨FR.refl _ _ _,⟨o,rfl,.inl ⟨ho,hoi⟩⟩,fun h=>by cases h⟩
   ·have hl:=ML _ _ _ _ hg op Uw;exact ai (v:=.agg jt) (w':=w1) (by simp[execOp,h1,h2,hl]) ⟨FR.refl _ _ _,⟨jt,rfl,.inr ⟨ho,rfl⟩⟩,fun h=>by cases h⟩
  ·intro ρ w1 hc hL hr;refine ai (w':=w1.alloc (.cells #[.int .i64 0,.int .u8 0,.int .u8 0,.bool false,.bool false,.nilFunc] 76)) (by simp[go_sem]) ⟨FR.later (aa w1 _) hL.below.size,⟨w1.heap.size,rfl,hL.below.size,_,ag.new w1 _ _,rfl⟩,fun h=>by cases h⟩
  ·intro ρ w1 hc hL hr;obtain⟨g,h1,Mu,cs,hcs,hsz⟩:∃g,ρ (.tmp 3)=.pointer (some ⟨g,0,none⟩)∧W.heap.size≤g∧∃cs,ag w1 g 76 cs∧cs.size=6:=hr.1;obtain⟨o,h2,ho⟩:∃o,ρ (.tmp 7)=.agg o∧qQ w1 op o:=hr.2.1;obtain⟨a,wa,gi,al,nu,d,rfl,_,hd⟩:=ho.shape;obtain⟨f1,f2⟩:=dA hcs hsz Mu ho;have Mv:=qR hcs hsz a wa gi al nu d;have c':∀i,(hi:i < 6)→w1.cell? ⟨g,i,none⟩=some (cs[i]'(by omega)):=fun i hi=>(hcs.cell i).trans (Array.getElem?_eq_getElem (by omega))
   have fz:=hcs.frozen;have c0:=c' 0 (by omega);have c1:=c' 1 (by omega);have c2:=c' 2 (by omega);have c3:=c' 3 (by omega);have c4:=c' 4 (by omega);have c5:=c' 5 (by omega);refine wy (w':=oK w1 g a wa gi al nu d) ?_ ⟨f1,trivial,fun _=>⟨g,_,h1,Mu,f2,Mv⟩⟩;unfold oK;rcases hd with rfl |⟨F,C,rfl⟩
   ·simp[go_sem,h1,h2,cu,c0,c1,c2,c3,c4,c5,fz]
   ·simp[go_sem,h1,h2,cu,c0,c1,c2,c3,c4,c5,fz]
 ·intro w1 hL;simp only[List.take_succ_cons,List.take_zero,List.drop_succ_cons,List.drop_zero];rintro _ ⟨gm,es,rfl,K9,Uv⟩ _ rfl _ rfl _ ⟨o3,rfl,h3⟩ _ ⟨g4,rfl,hg4,cs,hcs,hsz⟩ hu;obtain⟨g,o,hg,Mu,ho,vJ⟩:=hu 5 _ rfl rfl;have dh:g4=g:=by simpa [Act.put,Act.eval] using hg
  subst dh;clear hu hg hcs hsz cs Uv K9 es h3 hg4;replace hX:=hX.below hL.below hgx;replace hB:=hB.trans (hL.below.mono hB.size);clear hL hgx;obtain⟨a,wa,gi,al,nu,d,rfl,_,_⟩:=ho.shape;have Yv:=hid ho.gives;have x0:=hX.cell 0;have x6:=hX.cell 6;have o2:=vJ.cell 2;unfold cu at o2;simp only[List.getElem?_toArray,List.getElem?_cons_zero,List.getElem?_cons_succ] at x0 x6 o2;clear ho;simp only[cN,Act.put,List.setIfInBounds_toArray,List.set_cons_succ,List.set_cons_zero];cases hg2:(gi==2)
  ·have HR:=hid (show qC op=decide (0≤gj op) by unfold qC;rw[← Yv.out,hg2];rfl);go_wp2_with fail;refine(eL op _).mono ?_;rintro e w2 ⟨rfl,rfl⟩;by_cases ha:0≤gj op
   ·have FI:=hid (HR.out.trans (decide_eq_true ha));have t1:=decide_eq_true ha;go_wp2_with fail;go_ret;exact⟨by rw[FI.out];rfl,hB⟩
   ·have FI:=hid (HR.out.trans (decide_eq_false ha));have t1:=decide_eq_false ha;go_wp2_with fail;refine(tO A c args _ hl ((HA.out.below hB).more hB.size) (fun z hz W hW=>HE.out z hz W (ae.then hB hW))).mono ?_;rintro e w2 ⟨rfl,b2⟩;go_wp2_with fail;go_ret;exact⟨by rw[FI.out];simp,ae.then hB b2⟩
  ·have HR:=hid (show qC op=true by unfold qC;rw[← Yv.out,hg2];rfl);go_wp2_with fail;go_ret;exact⟨by rw[HR.out];rfl,hB⟩
mutual
def Tr.safe:Tr→Bool
 | .mk op v name width args=> !qC op && Tr.wN args
def Tr.wN:List Tr→Bool
 | []=>true
 | t::ts=>t.safe && Tr.wN ts
end
mutual
theorem Tr.Im:∀(t:Tr) (y:Ex) (w:World),t.ok→t.at_ w (Old w) y→tM w y t.safe
 | .mk op v name width args,y,w,aZ,hat=>by
   intro W hb;have kI:=hat.later hb;unfold Tr.at_ at kI;obtain⟨h1,h2,h3,h4,h5,ys,h6,h7⟩:=kI;unfold Tr.ok at aZ;obtain⟨l,dN,hl2,yX⟩:=Tr.CV args ys W aZ.2.2.2.2.2 h7;obtain⟨nD,yv,fI,dO,yA,yn,yc⟩:=y;dsimp only at h1 h2 h3 h4 h5 h6;subst h1 h2 h3 h4 h5;have hlen:l.length=args.length:=by
    have:(l.map (·.1)).length=ys.length:=by rw[dN]
    rw[List.length_map,h7.length] at this;exact this
   have k:=JR nD yv fI dO yA yc l W (by rw[hlen];exact aZ.2.1) (by rw[dN];exact h6.old) yX;rw[hl2,hlen] at k;unfold Tr.safe;exact k
theorem Tr.CV:∀(ts:List Tr) (ys:List Ex) (w:World),Tr.iO ts→Tr.bJ w (Old w) ts ys→∃l:List (Ex×Bool),l.map (·.1)=ys∧tN l=Tr.wN ts∧∀a∈l,tM w a.1 a.2
 | [],ys,w,_,hat=>by unfold Tr.bJ at hat;subst hat;exact⟨[],rfl,by simp[Tr.wN,tN],by simp⟩
 | t::ts,ys,w,aZ,hat=>by
   unfold Tr.bJ at hat;unfold Tr.iO at aZ;obtain⟨y,ys',rfl,h2,h3⟩:=hat;obtain⟨l,dN,hl2,yX⟩:=Tr.CV ts ys' w aZ.2 h3;refine⟨(y,t.safe)::l,by simp[dN],by simp[hl2,Tr.wN,tN],fun a ha=>?_⟩;rcases List.mem_cons.1 ha with rfl | ha
   ·exact Tr.Im t y w aZ.1 h2
   ·exact yX a ha
end
end Go.Proofs.YtfmbcoeallmnnaaGreatDoor
