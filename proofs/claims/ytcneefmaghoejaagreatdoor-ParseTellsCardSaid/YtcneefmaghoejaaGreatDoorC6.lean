/- Parts of the proof. -/
import Derived.Test.YtcneefmaghoejaaGreatDoorC5
namespace Go.Proofs.YtcneefmaghoejaaGreatDoor
open Go.Lib (hid)
open Go.ChangeShapes Go.WideShapes Go.ChangeAt Go.RowKit Go.Shelf
set_option linter.unusedVariables false
set_option linter.unusedSimpArgs false
def more (acc:List UInt8)(x:Option (List UInt8×List UInt8)):Option (List UInt8×List UInt8):=x.map fun y=>(acc++y.1,y.2)
theorem GH (x:Option (List UInt8×List UInt8)):more [] x=x:=by cases x <;> rfl
theorem Ae {c:UInt8}(h:c≠39)(r acc:List UInt8):more acc (eW (c::r))=more (acc++ [c]) (eW r):=by
 cases r with
 | nil=>simp[eW,h,more]
 | cons d r=>simp only[eW,if_neg h,more];cases eW (d::r)<;> simp
theorem GI (r acc:List UInt8):more acc (eW (39::39::r))=more (acc++ [39]) (eW r):=by simp only[eW,more,if_true];cases eW r <;> simp
theorem vM {r:List UInt8}(h:r.head?≠some 39)(acc:List UInt8):more acc (eW (39::r))=some (acc,r):=by
 cases r with
 | nil=>simp[eW,more]
 | cons d r=>
   have:d≠39:=fun e=>h (by rw[e];rfl)
   simp[eW,this,more]
theorem rS (B b:Nat)(l:List UInt8)(w:World)(h:GG B b l w)(hB:B≤w.heap.size):Calls Tryz.prog 97 #[.pointer (some ⟨b,0,none⟩)] w fun e w'=>e=.returned (.string ⟨l.toArray⟩)∧Below B w w':=Tryz.Builder_String_any B b l w h hB
structure uL (s:ByteArray) (g at_:Nat) (w:World) (acc:List UInt8) (w':World):Prop where
 at_:At s g w at_ w'
 buf:GG (w.heap.size+1) (w.heap.size+1) acc w'
 res:au w' w.heap.size 46 #[.int .u8 0,.string ⟨#[]⟩,.int .i64 0,.int .i64 0]
theorem At.under {s:ByteArray} {g a B:Nat} {w w1 w2:World}(h:At s g w a w1)(hb:Below B w1 w2)(hg:g < B)(hB:w.heap.size≤B):At s g w a w2:=
 ⟨h.1.below hb hg,hb.os.trans h.2.os,hb.tape.trans h.2.tape,hb.output.trans h.2.output,Nat.le_trans h.2.size hb.size,fun k hk Wk=>(hb.block k (by omega)).trans (h.2.block k hk Wk)⟩
theorem uL.size {s:ByteArray} {g at_:Nat} {w w':World} {acc:List UInt8}(h:uL s g at_ w acc w'):w.heap.size+1≤w'.heap.size:=h.res.lt
theorem uL.next {s:ByteArray} {g at_:Nat} {w w' w'':World} {acc aaq:List UInt8}(h:uL s g at_ w acc w')(hg:g < w.heap.size)(hb:Below (w.heap.size+1) w' w'')(afe:GG (w.heap.size+1) (w.heap.size+1) aaq w''):uL s g at_ w aaq w'':=
 ⟨h.at_.under hb (by omega) (by omega),afe,h.res.below hb (by omega)⟩
set_option maxHeartbeats 4000000
set_option maxRecDepth 100000
theorem Rq (s:ByteArray)(g at_:Nat)(w:World)(hL:au w g 77 (rh s at_))(r:List UInt8)(hd:s.data.toList.drop at_=39::r)(hs:s.size≤4294967280):
  Calls Tryz.prog 64 #[.pointer (some ⟨g,0,none⟩)] w (Gu s g at_ w (eR (39::r))):=by
 have ha:at_ < s.size:=by
  rcases Nat.lt_or_ge at_ s.size with h | h
  ·exact h
  ·rw[List.drop_eq_nil_of_le (by simpa using h)] at hd;cases hd
 have hr:r=s.data.toList.drop (at_+1):=by rw[← List.drop_drop,hd];rfl
 subst hr;have kQ:eR (39::s.data.toList.drop (at_+1))=match more [] (eW (s.data.toList.drop (at_+1)))with
   | some (t,rest)=> .ok (⟨3,t,0⟩,rest)
   | none=> .error 30:=by
  rw[GH];have h1:dr 39=false:=by decide
  have h2:bp 39=false:=by decide
  simp only[eR,h1,h2];rfl
 obtain⟨c0,c1⟩:=dT hL;have hlt:=hL.lt;have hne:w.heap.size≠g:=by omega
 generalize eR (39::s.data.toList.drop (at_+1))=R at*;have lR:=hid kQ;have ya:=hid hd;clear kQ hd;go_enter Tryz.func64,Tryz.ntmps64;go_wp2_with fail;have hT:uL s g at_ w [] ((w.alloc (.cells #[.int .u8 0,.string ⟨#[]⟩,.int .i64 0,.int .i64 0] 46)).alloc (.cells #[.pointer none,.slice none 0 0] 124)):=by refine⟨(At.refl hL).later (((Below.refl _ _).alloc (Nat.le_refl _) _).alloc (by simp) _),.inl ⟨Nat.le_refl _,.slice none 0 0,?_,⟨rfl,.inl ⟨rfl,rfl⟩⟩,by simp[Value.ownBlock]⟩,(au.new w _ _).alloc _⟩;have:=heap_alloc_new (w.alloc (.cells #[.int .u8 0,.string ⟨#[]⟩,.int .i64 0,.int .i64 0] 46)) (.cells #[.pointer none,.slice none 0 0] 124);simpa using this
 generalize (w.alloc (.cells #[.int .u8 0,.string ⟨#[]⟩,.int .i64 0,.int .i64 0] 46)).alloc (.cells #[.pointer none,.slice none 0 0] 124)=W at*;clear c0 c1;obtain⟨c0,c1⟩:=dT hT.at_.1;have HT:=hid hT;clear hT;go_wp2_with fail;go_loopw [5] (fun u wr=>∃(k:Nat) (acc:List UInt8),k≤s.size∧acc.length≤k∧u=.int .i64 k∧uL s g at_ w acc wr∧more [] (eW (s.data.toList.drop (at_+1)))=more acc (eW (s.data.toList.drop k))) (fun u _=>s.size - (intOf u).toNat);case atStart=>exact⟨at_+1,[],ha,by simp,by go_num,HT.out,rfl⟩
 case round=>
  obtain⟨k,acc,hk,oL,rfl,hT,hm⟩:=hrel;have HM:=hid hm;clear hm c0 c1;obtain⟨c0,c1⟩:=dT hT.at_.1;have hsz:=hT.size;have vN:=hid hT;clear hT;have HLEN:=hid (show s.data.toList.length=s.size by simp);by_cases hks:k < s.size
  ·have HB:=hid (ft s k hks);by_cases hq:s[k]=39
   ·have HQ:=hid hq;have t1:(((s[k].toNat:Nat):Int)==39)=true:=by rw[hq];rfl
    clear hq;by_cases Af:k+1 < s.size
    ·have ry:=hid (ft s (k+1) Af);have n1:¬((k:Int)+1=s.size):=by omega
     have n2:(((k:Int)+1)==(s.size:Int))=false:=by simpa using n1
     by_cases vO:s[k+1]=39
     ·have jd:=hid vO;have t2:(((s[k+1].toNat:Nat):Int)==39)=true:=by rw[vO];rfl
      have t3:(((s[k+1].toNat:Nat):Int) != 39)=false:=by rw[vO];rfl
      clear vO;go_wp2_with fail;rw[jd.out];refine(Ad _ _ acc 39 _ vN.out.buf (by omega) hsz).mono ?_;rintro e w1 ⟨rfl,hb,b1⟩;go_wp2_with fail;go_roundw;case rel=>refine⟨k+2,acc++ [39],by omega,by simp;omega,by go_num,vN.out.next hlt b1 hb,?_⟩;rw[HM.out,drop_at HB.out,drop_at ry.out,HQ.out,jd.out,GI]
      case measure=>simp[intOf];omega
     ·have t2:(((s[k+1].toNat:Nat):Int)==39)=false:=by rw[beq_eq_false_iff_ne];intro h;exact vO (UInt8.toNat_inj.1 (by simpa using(by omega:s[k+1].toNat=39)))
      have t3:(((s[k+1].toNat:Nat):Int) != 39)=true:=by simpa [bne] using t2
      have Kb:=hid (show(s.data.toList.drop (k+1)).head?≠some 39 by rw[drop_at ry.out];simpa using vO);clear vO;go_wp2_with fail;refine(rS _ _ acc _ vN.out.buf hsz).mono ?_;rintro e w1 ⟨rfl,b1⟩;have hat:=vN.out.at_.under b1 (by omega) (by omega);have Gb:=hid (vN.out.res.below b1 (by omega));have je:=hid hat;go_wp2_with fail;refine(nM s g at_ (k+1) 3 ⟨acc.toArray⟩ 0 0 _ je.out.1).mono ?_;rintro e w2 ⟨rfl,kC⟩;obtain⟨z0,z1,z2,z3,y0,y1,y2,y3⟩:=aT (kC.other Gb.out hne);go_wp2_with fail;refine bodyPost_ret (v:=.tuple #[.agg #[.int .u8 3,.string ⟨acc.toArray⟩,.int .i64 0,.int .i64 at_],.int .i64 0]) ?_ rfl ?_
      ·simp[results,Tryz.results64,go_sem,z0,z1,z2,z3]
      ·rw[lR.out,HM.out,drop_at HB.out,HQ.out,vM Kb.out];refine⟨rfl,?_⟩;show At s g w (s.size - _) _;have e:s.size - (s.data.toList.drop (k+1)).length=k+1:=by rw[List.length_drop,HLEN.out];omega
       rw[e];exact(((je.out.trans kC).far (Nat.le_refl _) hne 0 _).far (Nat.le_refl _) hne 1 _ |>.far (Nat.le_refl _) hne 2 _ |>.far (Nat.le_refl _) hne 3 _)
    ·have n1:((k:Int)+1=s.size):=by omega
     have n2:(((k:Int)+1)==(s.size:Int))=true:=by simpa using n1
     have n3:s.size=k+1:=by omega
     have Kb:=hid (show(s.data.toList.drop (k+1)).head?≠some 39 by rw[List.drop_eq_nil_of_le (by rw[HLEN.out];omega)];simp);have HN3:=hid n3;clear n3 n1;go_wp2_with fail;refine(rS _ _ acc _ vN.out.buf hsz).mono ?_;rintro e w1 ⟨rfl,b1⟩;have hat:=vN.out.at_.under b1 (by omega) (by omega);have Gb:=hid (vN.out.res.below b1 (by omega));have je:=hid hat;go_wp2_with fail;refine(nM s g at_ (k+1) 3 ⟨acc.toArray⟩ 0 0 _ je.out.1).mono ?_;rintro e w2 ⟨rfl,kC⟩;obtain⟨z0,z1,z2,z3,y0,y1,y2,y3⟩:=aT (kC.other Gb.out hne);go_wp2_with fail;refine bodyPost_ret (v:=.tuple #[.agg #[.int .u8 3,.string ⟨acc.toArray⟩,.int .i64 0,.int .i64 at_],.int .i64 0]) ?_ rfl ?_
     ·simp[results,Tryz.results64,go_sem,z0,z1,z2,z3]
     ·rw[lR.out,HM.out,drop_at HB.out,HQ.out,vM Kb.out];refine⟨rfl,?_⟩;show At s g w (s.size - _) _;have e:s.size - (s.data.toList.drop (k+1)).length=k+1:=by rw[List.length_drop,HLEN.out];omega
      rw[e];exact(((je.out.trans kC).far (Nat.le_refl _) hne 0 _).far (Nat.le_refl _) hne 1 _ |>.far (Nat.le_refl _) hne 2 _ |>.far (Nat.le_refl _) hne 3 _)
   ·have HQ:=hid hq;have t1:(((s[k].toNat:Nat):Int)==39)=false:=by rw[beq_eq_false_iff_ne];intro h;exact hq (UInt8.toNat_inj.1 (by simpa using(by omega:s[k].toNat=39)))
    clear hq;go_wp2_with fail;refine(Ad _ _ acc s[k] _ vN.out.buf (by omega) hsz).mono ?_;rintro e w1 ⟨rfl,hb,b1⟩;go_wp2_with fail;go_roundw;case rel=>refine⟨k+1,acc++ [s[k]],by omega,by simp;omega,by go_num,vN.out.next hlt b1 hb,?_⟩;rw[HM.out,drop_at HB.out,Ae HQ.out]
    case measure=>simp[intOf];omega
  ·have Kc:=hid (show s.data.toList.drop k=[] by rw[List.drop_eq_nil_of_le (by rw[HLEN.out];omega)]);obtain⟨z0,z1,z2,z3,y0,y1,y2,y3⟩:=aT vN.out.res;go_wp2_with fail;refine bodyPost_ret (v:=.tuple #[.agg #[.int .u8 0,.string ⟨#[]⟩,.int .i64 0,.int .i64 0],.int .i64 30]) ?_ rfl ?_
   ·simp[results,Tryz.results64,go_sem,z0,z1,z2,z3]
   ·rw[lR.out,HM.out,Kc.out];exact⟨rfl,(((vN.out.at_.far (Nat.le_refl _) hne 0 _).far (Nat.le_refl _) hne 1 _ |>.far (Nat.le_refl _) hne 2 _ |>.far (Nat.le_refl _) hne 3 _))⟩
theorem Rs (s:ByteArray)(g at_:Nat)(w:World)(hL:au w g 77 (rh s at_))(c:UInt8)(r:List UInt8)(hd:s.data.toList.drop at_=c::r)(hc:dr c=true)(hs:s.size≤4294967280):
  Calls Tryz.prog 61 #[.pointer (some ⟨g,0,none⟩)] w (Gu s g at_ w (eR (c::r))):=by
 have ha:at_≤s.size:=by
  rcases Nat.lt_or_ge s.size at_ with h | h
  ·rw[List.drop_eq_nil_of_le (by simp;omega)] at hd;cases hd
  ·exact h
 have kQ:eR (c::r)=if ((c::r).takeWhile dD).length≤32 then .ok (⟨1,((c::r).takeWhile dD).map rJ,0⟩,(c::r).dropWhile dD)else .error 2:=by simp only[eR,if_pos hc]
 rw[kQ,← hd,← LS];have ya:=hid hd;clear hd kQ;obtain⟨c0,c1⟩:=dT hL;have hlt:=hL.lt;have hle:=oY dD s.data.toList at_ (by simpa using ha);have JA:=qA dD s.data.toList at_;have HE:=hid (lj dD s at_);have HR:=hid (pI dD s ha);simp at hle;by_cases hl:fp dD s.data.toList at_ - at_≤32
 ·rw[if_pos hl];go_enter Tryz.func61,Tryz.ntmps61;go_wp2_with fail;refine(nv CL s at_ at_ g _ (hL.alloc _) ha hs).mono ?_;rintro e w' ⟨rfl,rfl⟩;generalize hk:fp dD s.data.toList at_=k at*;have HK:=hid hk;clear hk;have g1:=decide_eq_false (show¬(32:Int)<(k:Int) - at_ by omega);go_wp2_with fail;have HX1:=hid (show(s.extract at_ k).size≤4294967280 by rw[ByteArray.size_extract];omega);have kR:=hid (show∀c∈(s.extract at_ k).data.toList,dD c=true by rw[HE.out];exact yZ _);have HA:=hid (hL.alloc (.cells #[.int .u8 0,.string ⟨#[]⟩,.int .i64 0,.int .i64 0] 46));have bb:=aa w (.cells #[.int .u8 0,.string ⟨#[]⟩,.int .i64 0,.int .i64 0] 46);have HZ:=hid (au.new w 46 #[.int .u8 0,.string ⟨#[]⟩,.int .i64 0,.int .i64 0]);have hne:w.heap.size≠g:=by omega
  go_region_with (first
   |(go_at_call 95;refine(Eu HX1.out kR.out _).mono ?_;rintro e w1 ⟨rfl,b1⟩)
   |(go_at_call 94;refine(nM s g at_ k _ _ _ _ _ (HA.out.drew.later b1)).mono ?_;rintro e w2 ⟨rfl,hat⟩;obtain⟨z0,z1,z2,z3,y0,y1,y2,y3⟩:=aT (hat.other (HZ.out.drew.later b1) hne)))
  all_goals
   go_wp2_with fail;refine bodyPost_ret (v:=.tuple #[.agg #[.int .u8 1,.string ⟨((s.extract at_ k).data.toList.map rJ).toArray⟩,.int .i64 0,.int .i64 at_],.int .i64 0]) ?_ rfl ?_
   ·simp[results,Tryz.results61,go_sem,z0,z1,z2,z3]
   ·rw[HE.out];refine⟨rfl,?_⟩;show At s g w (s.size - _) _;rw[HR.out];exact(((((((At.refl hL).later bb).later (Below.refl _ _).drew).later b1).trans hat).far (Nat.le_refl _) hne 0 _).far (Nat.le_refl _) hne 1 _ |>.far (Nat.le_refl _) hne 2 _ |>.far (Nat.le_refl _) hne 3 _)
 ·rw[if_neg hl];go_enter Tryz.func61,Tryz.ntmps61;go_wp2_with fail;refine(nv CL s at_ at_ g _ (hL.alloc _) ha hs).mono ?_;rintro e w' ⟨rfl,rfl⟩;generalize hk:fp dD s.data.toList at_=k at*;have HK:=hid hk;clear hk;have g1:=decide_eq_true (show(32:Int)<(k:Int) - at_ by omega);go_wp2_with fail;refine bodyPost_ret (v:=.tuple #[.agg #[.int .u8 0,.string ⟨#[]⟩,.int .i64 0,.int .i64 0],.int .i64 2]) ?_ rfl ⟨rfl,?_⟩
  ·simp[results,Tryz.results61,go_sem]
  ·exact(At.refl hL).later ((Below.refl _ _).alloc (Nat.le_refl _) _)
theorem Ag (s:ByteArray)(l:List (List UInt8))(hl:Lib.fields s.data.toList=l)(hs:s.size < 4294967281)(zT:s.data.toList.all (fun b=>b.toNat < 128)=true) {B:Nat} {w:World}(hE:Env B w):
  Calls Tryz.prog 99 #[.string s] w fun e w'=>e=.returned (.slice (some ⟨w.heap.size,0,none⟩) l.length l.length)∧w'=w.alloc (.cells (l.map fun l=>Value.string ⟨l.toArray⟩).toArray 9):=by
 refine(Tryz.strings_Fields s w hs (fun j b hb=>of_decide_eq_true (List.all_eq_true.1 zT b (List.mem_of_getElem? hb))) hE.lib.space).mono ?_;rintro e w' ⟨rfl,rfl⟩;rw[hl];exact⟨rfl,rfl⟩
theorem uM (w:World)(a b:Nat):(w.drewN a).drewN b=w.drewN (a+b):=by simp[World.drewN,Nat.add_assoc]
def Rt:ByteArray:=⟨#[60,62,32,60,61,32,62,61,32,40,32,41,32,44,32,42,32,43,32,45,32,47,32,37,32,61,32,60,32,62,32,59]⟩
theorem EL:Lib.fields Rt.data.toList=signs:=by decide+kernel
theorem Mk {i:Nat}(hi:i < 15):∃x,signs[i]?=some x∧signs.drop i=x::signs.drop (i+1)∧1≤x.length∧x.length≤2:=by
 have key:∀i,i < 15→∃x,signs[i]?=some x∧1≤x.length∧x.length≤2:=by
  intro i hi
  match i,hi with
  | 0,_ | 1,_ | 2,_ | 3,_ | 4,_ | 5,_ | 6,_ | 7,_ | 8,_ | 9,_ | 10,_ | 11,_ | 12,_ | 13,_ | 14,_=>exact⟨_,rfl,by decide,by decide⟩
  | n+15,h=>omega
 obtain⟨x,h1,h2,h3⟩:=key i hi;refine⟨x,h1,?_,h2,h3⟩;have hlt:i < signs.length:=hi;rw[List.drop_eq_getElem_cons hlt];rw[List.getElem?_eq_getElem hlt] at h1;injection h1 with h1;rw[h1]
theorem Ru (B:Nat)(s:ByteArray)(g at_:Nat)(w:World)(hE:Env B w)(hB:B≤g)(hL:au w g 77 (rh s at_))(c:UInt8)(r:List UInt8)(hd:s.data.toList.drop at_=c::r)(h1:dr c=false)(h2:bp c=false)(h3:c≠39)(hs:s.size≤4294967280):
  Calls Tryz.prog 65 #[.pointer (some ⟨g,0,none⟩)] w (Gu s g at_ w (eR (c::r))):=by
 have ha:at_ < s.size:=by
  rcases Nat.lt_or_ge at_ s.size with h | h
  ·exact h
  ·rw[List.drop_eq_nil_of_le (by simpa using h)] at hd;cases hd
 have kQ:eR (c::r)=match gj signs (s.data.toList.drop at_)with
   | some x=> .ok (⟨4,x,0⟩,(s.data.toList.drop at_).drop x.length)
   | none=> .error 30:=by
  rw[hd];simp only[eR,h1,h2,if_neg h3];rfl
 obtain⟨c0,c1⟩:=dT hL;have hlt:=hL.lt;have hne:w.heap.size≠g:=by omega
 generalize eR (c::r)=R at*;have lR:=hid kQ;clear kQ hd;go_enter Tryz.func65,Tryz.ntmps65;go_wp2_with fail;have bb:=aa w (.cells #[.int .u8 0,.string ⟨#[]⟩,.int .i64 0,.int .i64 0] 46);refine(Ag Rt signs EL (by decide+kernel) (by decide+kernel) (hE.later bb)).mono ?_;rintro e w1 ⟨rfl,rfl⟩;have HZ:=hid ((au.new w 46 #[.int .u8 0,.string ⟨#[]⟩,.int .i64 0,.int .i64 0]).alloc (.cells (signs.map fun l=>Value.string ⟨l.toArray⟩).toArray 9));have HS:=hid (au.new (w.alloc (.cells #[.int .u8 0,.string ⟨#[]⟩,.int .i64 0,.int .i64 0] 46)) 9 (signs.map fun l=>Value.string ⟨l.toArray⟩).toArray);have hat:At s g w at_ ((w.alloc (.cells #[.int .u8 0,.string ⟨#[]⟩,.int .i64 0,.int .i64 0] 46)).alloc (.cells (signs.map fun l=>Value.string ⟨l.toArray⟩).toArray 9)):=(At.refl hL).later (((Below.refl _ _).alloc (Nat.le_refl _) _).alloc (by simp) _);generalize hb:(w.alloc (.cells #[.int .u8 0,.string ⟨#[]⟩,.int .i64 0,.int .i64 0] 46)).heap.size=b at*;obtain rfl:b=w.heap.size+1:=by rw[← hb];simp
 generalize (w.alloc (.cells #[.int .u8 0,.string ⟨#[]⟩,.int .i64 0,.int .i64 0] 46)).alloc (.cells (signs.map fun l=>Value.string ⟨l.toArray⟩).toArray 9)=W at*;clear c0 c1 hb;have je:=hid hat;have hlen:signs.length=15:=rfl;rw[hlen];clear hlen hat;go_wp2_with fail;go_loopw [8] (fun u wr=>∃i n:Nat,i≤15∧u=.int .i64 i∧wr=W.drewN n∧gj signs (s.data.toList.drop at_)=gj (signs.drop i) (s.data.toList.drop at_)) (fun u _=>15 - (intOf u).toNat);case atStart=>exact⟨0,0,by omega,rfl,rfl,rfl⟩
 case round=>
  obtain⟨i,n,hi,rfl,rfl,Ml⟩:=hrel;have QI:=hid Ml;clear Ml;by_cases Rv:i < 15
  ·obtain⟨x,hx,hdx,hx1,hx2⟩:=Mk Rv;have hcell:(W.drewN n).cell? ⟨w.heap.size+1,i,none⟩=some (.string ⟨x.toArray⟩):=by rw[(HS.out.drewN n).cell i];simp[hx]
   have Wp:=hid (je.out.later (dO W n));have U7:=hid (HZ.out.drewN n);obtain⟨c0,c1⟩:=dT Wp.out.1;generalize hWn:W.drewN n=Wn at*;have HWN:=hid hWn;have HX:=hid hx;have Rw:=hid hdx;clear hWn hx hdx;cases hp:Lib.hasPrefix (s.data.toList.drop at_) x
   ·have HP:=hid hp;clear hp;go_wp2_with fail;go_quiet ((go_at_call 59;exact Calls.quiet_of_same (tA HP.out _)));go_wp2_with fail;go_roundw;case rel=>
     refine⟨i+1,n+nq,by omega,by go_num,?_,?_⟩
     ·rw[← HWN.out];exact uM W n nq
     ·rw[QI.out,Rw.out,gj,if_neg];have:=HP.out;simp only[Lib.hasPrefix] at this;rw[this];decide
    case measure=>simp[intOf];omega
   ·have HP:=hid hp;clear hp;go_wp2_with fail;go_quiet ((go_at_call 59;exact Calls.quiet_of_same (tA HP.out _)));have F0:=hid (Wp.out.later (dO Wn nq));have HZq:=hid (U7.out.drewN nq);generalize Wn.drewN nq=Wq at*;clear c0 c1 hcell;obtain⟨c0,c1⟩:=dT F0.out.1;go_wp2_with fail;have YP:((at_:Int)+(x.length:Int))=((at_+x.length:Nat):Int):=by omega
    rw[YP];refine(nM s g at_ (at_+x.length) 4 ⟨x.toArray⟩ 0 0 _ F0.out.1).mono ?_;rintro e w2 ⟨rfl,kC⟩;obtain⟨z0,z1,z2,z3,y0,y1,y2,y3⟩:=aT (kC.other HZq.out hne);clear YP;go_wp2_with fail;refine bodyPost_ret (v:=.tuple #[.agg #[.int .u8 4,.string ⟨x.toArray⟩,.int .i64 0,.int .i64 at_],.int .i64 0]) ?_ rfl ?_
    ·simp[results,Tryz.results65,go_sem,z0,z1,z2,z3]
    ·have e1:gj signs (s.data.toList.drop at_)=some x:=by rw[QI.out,Rw.out,gj,if_pos];exact HP.out
     rw[lR.out,e1];refine⟨rfl,?_⟩;show At s g w (s.size - _) _;have e2:s.size - ((s.data.toList.drop at_).drop x.length).length=at_+x.length:=by
      have h4:x.length≤(s.data.toList.drop at_).length:=by have:=HP.out;simp only[Lib.hasPrefix,List.isPrefixOf_iff_prefix] at this;exact this.length_le
      rw[List.length_drop] at h4 ⊢;simp at h4 ⊢;omega
     rw[e2];exact(((F0.out.trans kC).far (Nat.le_refl _) hne 0 _).far (Nat.le_refl _) hne 1 _ |>.far (Nat.le_refl _) hne 2 _ |>.far (Nat.le_refl _) hne 3 _)
  ·obtain rfl:i=15:=by omega
   have Wp:=hid (je.out.later (dO W n));have U7:=hid (HZ.out.drewN n);generalize W.drewN n=Wn at*;obtain⟨z0,z1,z2,z3,y0,y1,y2,y3⟩:=aT U7.out;go_wp2_with fail;refine bodyPost_ret (v:=.tuple #[.agg #[.int .u8 0,.string ⟨#[]⟩,.int .i64 0,.int .i64 0],.int .i64 30]) ?_ rfl ?_
   ·simp[results,Tryz.results65,go_sem,z0,z1,z2,z3]
   ·rw[lR.out,QI.out];exact⟨rfl,(((Wp.out.far (Nat.le_refl _) hne 0 _).far (Nat.le_refl _) hne 1 _ |>.far (Nat.le_refl _) hne 2 _ |>.far (Nat.le_refl _) hne 3 _))⟩
def lS (w:World)(g:Nat)(es:Array MapEntry)(c:Nat):World:= { w with heap:=w.heap.setIfInBounds g (.map es c)}
theorem EM {B:Nat} {w0 w:World}(h:Below B w0 w)(g:Nat)(hg:B≤g)(es:Array MapEntry)(c:Nat):Below B w0 (lS w g es c):=by
 refine⟨h.os,h.tape,h.output,?_,fun k hk=>?_⟩
 ·have:=h.size;simp[lS];exact this
 ·rw[← h.block k hk];simp only[lS,Array.getElem?_setIfInBounds];rw[if_neg (by omega)]
theorem CX {w:World} {g:Nat} {es es':Array MapEntry} {c c':Nat}(hg:w.heap[g]?=some (.map es c)):(lS w g es' c').heap[g]?=some (.map es' c'):=by
 rcases Nat.lt_or_ge g w.heap.size with hlt | JA
 ·simp[lS,hlt]
 ·rw[Array.getElem?_eq_none JA] at hg;cases hg
theorem Ah {w:World} {g q:Nat}(es:Array MapEntry)(c:Nat)(h:g≠q):(lS w g es c).heap[q]?=w.heap[q]?:=by simp only[lS,Array.getElem?_setIfInBounds];rw[if_neg h]
def entry (x:List UInt8)(i:Nat):MapEntry:=⟨.string ⟨x.toArray⟩,.bool true,i⟩
def eF:List (List UInt8)→Nat→List MapEntry
 | [],_=> []
 | x::l,i=>entry x i::eF l (i+1)
theorem vP (x:List UInt8):∀(l:List (List UInt8)) (i:Nat),eF (l++ [x]) i=eF l i++ [entry x (i+l.length)]
 | [],i=>rfl
 | y::l,i=>by simp only[List.cons_append,eF,vP x l (i+1),List.length_cons];rw[show i+1+l.length=i+(l.length+1) by omega]
theorem bytes_beq (a b:ByteArray):(a==b)=(a.data.toList==b.data.toList):=by rcases a with ⟨⟨a⟩⟩;rcases b with ⟨⟨b⟩⟩;show((⟨a⟩:Array UInt8)==⟨b⟩)=(a==b);simp
theorem uN (k:ByteArray):∀(l:List (List UInt8)) (i j:Nat),if l.contains k.data.toList=true then∃n,Instr.findNow .string (.string k) (eF l i) j=some (some (n,.bool true))else Instr.findNow .string (.string k) (eF l i) j=some none
 | [],i,j=>by simp[eF,Instr.findNow]
 | x::l,i,j=>by
   have ih:=uN k l (i+1) (j+1);have e:Instr.sameNow .string (.string k) (entry x i).key=some (k.data.toList==x):=by show some (k==(⟨x.toArray⟩:ByteArray))=_;rw[bytes_beq]
   rw[List.contains_cons];cases hx:(k.data.toList==x)
   ·rw[Bool.false_or];have e2:Instr.findNow .string (.string k) (eF (x::l) i) j=Instr.findNow .string (.string k) (eF l (i+1)) (j+1):=by simp only[eF,Instr.findNow,e,hx]
    rw[e2];exact ih
   ·rw[Bool.true_or,if_pos rfl];exact⟨j,by simp only[eF,Instr.findNow,e,hx];rfl⟩
def GJ (w:World)(g:Nat)(l:List (List UInt8)):Prop:=w.heap[g]?=some (.map (eF l 0).toArray l.length)
theorem uO (e:Bool)(k:ByteArray)(w:World):(Instr.checkKey e 10000 9 (.string k)).run Tryz.prog w=.ok () w:=
 MapKept.run_checkKey Tryz.underlying9 (by simp[MapKept.IsKey]) e 9999
theorem EN {w:World} {g:Nat} {l:List (List UInt8)}(hg:GJ w g l) {x:List UInt8}(hx:l.contains x=false):
  (Instr.mapUpdate 103 (.map (some g)) (.string ⟨x.toArray⟩) (.bool true)).run Tryz.prog w=.ok () (lS w g (eF (l++ [x]) 0).toArray (l.length+1)):=by
 have hf:=uN ⟨x.toArray⟩ l 0 0;rw[if_neg (by simpa using hx)] at hf;unfold Instr.mapUpdate;simp only[Sem.run_bind,run_underlying Tryz.underlying103,Result.andThen_ok,MapKept.run_getObj_map hg,uO,Instr.findKey,run_underlying Tryz.underlying9,hf,Sem.run_pure,MapKept.run_setObj_map _ hg];rw[vP];simp[lS,entry]
theorem Ci {w:World} {g:Nat} {l:List (List UInt8)}(hg:GJ w g l)(k:ByteArray):
  (Instr.lookup 103 (.map (some g)) (.string k) false).run Tryz.prog w=.ok (.bool (l.contains k.data.toList)) w:=by
 have hf:=uN k l 0 0;unfold Instr.lookup;cases hc:l.contains k.data.toList
 ·rw[if_neg (by rw[hc];decide)] at hf;simp only[Sem.run_bind,run_underlying Tryz.underlying103,Result.andThen_ok,MapKept.run_getObj_map hg,uO,Instr.findKey,run_underlying Tryz.underlying9,hf,Sem.run_pure,Tryz.zeroValue4];rfl
 ·rw[if_pos hc] at hf;obtain⟨n,hf⟩:=hf;simp only[Sem.run_bind,run_underlying Tryz.underlying103,Result.andThen_ok,MapKept.run_getObj_map hg,uO,Instr.findKey,run_underlying Tryz.underlying9,hf,Sem.run_pure];rfl
def aau:ByteArray:=⟨(([97,110,100,32,97,115,32,98,121,32,99,97,108,108,32,99,114,101,97,116,101,32,100,101,108,101,116,101,32,100,101,115,99,32,100].append [114,111,112,32,102,97,108,115,101,32,102,114,111,109,32,103,114,111,117,112,32,104,97,118,105,110,103,32,105,110,115,101,114,116,32,105]).append ([110,116,111,32,105,115,32,108,105,109,105,116,32,110,111,116,32,110,117,108,108,32,111,110,108,121,32,111,114,32,111,114,100,101,114].append [32,115,101,108,101,99,116,32,115,101,116,32,116,114,117,101,32,117,112,100,97,116,101,32,118,97,108,117,101,115,32,119,104,101,114,101])).toArray⟩
theorem Kd:Lib.fields aau.data.toList=kn:=by decide+kernel
theorem zf:kn.length=27:=by decide+kernel
theorem Rx {i:Nat}(hi:i < 27):∃x,kn[i]?=some x∧kn.take (i+1)=kn.take i++ [x]∧(kn.take i).contains x=false:=by
 have hlt:i < kn.length:=by rw[zf];exact hi
 refine⟨kn[i],List.getElem?_eq_getElem hlt,by rw[List.take_succ_eq_append_getElem hlt],?_⟩;have key:(List.range 27).all (fun i=> !(kn.take i).contains (kn.getD i []))=true:=by decide+kernel
 have:=List.all_eq_true.1 key i (List.mem_range.2 hi);rw[List.getD_eq_getElem?_getD,List.getElem?_eq_getElem hlt] at this;simpa using this
structure YQ (w:World) (i:Nat) (wr:World):Prop where
 map:GJ wr w.heap.size (kn.take i)
 VD:au wr (w.heap.size+1) 9 (kn.map fun l=>Value.string ⟨l.toArray⟩).toArray
 Ke:Below w.heap.size w wr
theorem EO {B:Nat}(w:World)(hE:Env B w):Calls Tryz.prog 66 #[] w fun e w'=>e=.returned (.map (some w.heap.size))∧GJ w' w.heap.size kn∧Below w.heap.size w w':=by
 have hmm:= @run_makeMap Tryz.prog;go_enter Tryz.func66,Tryz.ntmps66;go_wp2_with fail;have b0:=aa w (.map #[] 0);refine(Ag aau kn Kd (by decide+kernel) (by decide+kernel) (hE.later b0)).mono ?_;rintro e w1 ⟨rfl,rfl⟩;rw[zf];have hR:YQ w 0 ((w.alloc (.map #[] 0)).alloc (.cells (kn.map fun l=>Value.string ⟨l.toArray⟩).toArray 9)):=by
  refine⟨?_,?_,b0.trans (((Below.refl _ _).alloc (Nat.le_refl _) _).mono b0.size)⟩
  ·exact(Below.heap_alloc _ _ _ (by simp)).trans (heap_alloc_new w _)
  ·have:=au.new (w.alloc (.map #[] 0)) 9 (kn.map fun l=>Value.string ⟨l.toArray⟩).toArray;simpa using this
 have hs1:(w.alloc (.map #[] 0)).heap.size=w.heap.size+1:=by simp
 rw[hs1];generalize (w.alloc (.map #[] 0)).alloc (.cells (kn.map fun l=>Value.string ⟨l.toArray⟩).toArray 9)=W at*;have HR:=hid hR;clear hR hs1 b0;go_wp2_with fail;go_loopw [7] (fun u wr=>∃i:Nat,i≤27∧u=.int .i64 i∧YQ w i wr) (fun u _=>27 - (intOf u).toNat);case atStart=>exact⟨0,by omega,rfl,HR.out⟩
 case round=>
  obtain⟨i,hi,rfl,hr⟩:=hrel;have xt:=hid hr;clear hr;by_cases hlt:i < 27
  ·obtain⟨x,hx,nk,hc⟩:=Rx hlt;have hcell:=xt.out.VD.cell i;have hx2:(kn.map fun l=>Value.string ⟨l.toArray⟩).toArray[i]?=some (.string ⟨x.toArray⟩):=by simp[hx]
   rw[hx2] at hcell;have hput:=EN xt.out.map hc;have F3:=hid nk;clear hx nk hc hx2;go_wp2_with fail;go_roundw;case rel=>
    refine⟨i+1,by omega,by go_num,?_,?_,?_⟩
    ·rw[F3.out];have:=CX (es':=(eF (kn.take i++ [x]) 0).toArray) (c':=(kn.take i).length+1) xt.out.map;unfold GJ;rw[List.length_append,List.length_singleton];rw[← List.length_take];exact this
    ·exact(Ah _ _ (by omega)).trans xt.out.VD
    ·exact EM xt.out.Ke _ (Nat.le_refl _) _ _
   case measure=>simp[intOf];omega
  ·obtain rfl:i=27:=by omega
   go_wp2_with fail;refine bodyPost_ret (v:=.map (some w.heap.size)) ?_ rfl ⟨rfl,?_,xt.out.Ke⟩
   ·simp[results,Tryz.results66,go_sem]
   ·have:=xt.out.map;rwa [List.take_of_length_le (Nat.le_of_eq zf)] at this
theorem Cj (l:List UInt8):kn.contains l=vC l:=rfl
theorem EP {B:Nat}(s:ByteArray)(w:World)(hE:Env B w):Calls Tryz.prog 33 #[.string s] w fun e w'=>e=.returned (.bool (vC s.data.toList))∧Below w.heap.size w w':=by go_enter Tryz.func33,Tryz.ntmps33;go_wp2_with fail;refine(EO w hE).mono ?_;rintro e w1 ⟨rfl,hm,b1⟩;have hl:=Ci hm s;rw[Cj] at hl;clear hm;go_wp2_with fail;go_ret;exact⟨rfl,b1⟩
theorem Ol (c:UInt8):(Cg c=true∧decide ((65:Int)≤c.toNat)=true∧decide ((c.toNat:Int)≤90)=true)∨(Cg c=false∧decide ((65:Int)≤c.toNat)=true∧decide ((c.toNat:Int)≤90)=false)∨(Cg c=false∧decide ((65:Int)≤c.toNat)=false):=by
 have e:Cg c=(decide ((65:Int)≤c.toNat)&& decide ((c.toNat:Int)≤90)):=by rw[Bool.eq_iff_iff];simp only[Cg,UInt8.le_iff_toNat_le,Bool.and_eq_true,decide_eq_true_eq];simp;omega
 rw[e];by_cases h1:(65:Int)≤c.toNat <;> by_cases h2:(c.toNat:Int)≤90 <;> simp[h1,h2]
def Ai (b:Bool)(w:World)(e:Ending)(w':World):Prop:=e=.returned (.bool b)∧Below w.heap.size w w'
theorem gD:Et 81 dr:=by
 intro c W;rw[zR];have h1:=c.toNat_lt;generalize c.toNat=n at*;go_enter Tryz.func81,Tryz.ntmps81;go_wp2;all_goals
  go_ret;refine⟨?_,rfl⟩;first | rfl |(refine fA ?_;rw[Bool.eq_iff_iff];simp;omega)|(refine fA ?_;rw[Bool.eq_iff_iff];simp;done)
theorem iH:Et 82 bp:=by
 intro c W;rw[CK];have h1:=c.toNat_lt;generalize c.toNat=n at*;go_enter Tryz.func82,Tryz.ntmps82;go_wp2;all_goals
  go_ret;refine⟨?_,rfl⟩;first | rfl |(refine fA ?_;rw[Bool.eq_iff_iff];simp;omega)|(refine fA ?_;rw[Bool.eq_iff_iff];simp;done)
theorem Ck (w:World):Calls Tryz.prog 106 #[] w fun e w'=>e=.returned (.slice (some ⟨w.heap.size,0,none⟩) 27 27)∧w'=w.alloc (.cells (kn.map fun l=>Value.string ⟨l.toArray⟩).toArray 9):=by go_enter Tryz.func106,Tryz.ntmps106;go_wp2_with fail;go_ret;exact⟨rfl,rfl⟩
theorem Ry {i:Nat} {x:List UInt8}(hx:kn[i]?=some x):kn.drop i=x::kn.drop (i+1):=by
 have hlt:i < kn.length:=by
  rcases Nat.lt_or_ge i kn.length with h | h
  ·exact h
  ·rw[List.getElem?_eq_none h] at hx;cases hx
 rw[List.drop_eq_getElem_cons hlt];rw[List.getElem?_eq_getElem hlt] at hx;injection hx with hx;rw[hx]
theorem Om (l:List UInt8):(⟨l.toArray⟩:ByteArray).toList=l:=by rw[ByteArray.toList_eq]
theorem Cl (s:ByteArray)(w:World):Calls Tryz.prog 90 #[.string s] w (Ai (vC s.data.toList) w):=by
 go_enter Tryz.func90,Tryz.ntmps90;go_wp2_with fail;refine(Ck w).mono ?_;rintro e w1 ⟨rfl,rfl⟩;have HB:=hid (au.new w 9 (kn.map fun l=>Value.string ⟨l.toArray⟩).toArray);have b1:=aa w (.cells (kn.map fun l=>Value.string ⟨l.toArray⟩).toArray 9);generalize w.alloc (.cells (kn.map fun l=>Value.string ⟨l.toArray⟩).toArray 9)=W at*;go_wp2_with fail;go_loop [4] (fun u=>∃i:Nat,i≤27∧u=.int .i64 i∧vC s.data.toList=(kn.drop i).contains s.data.toList) (fun u=>27 - (intOf u).toNat);case atStart=>exact⟨0,by omega,rfl,rfl⟩
 case round=>
  obtain⟨i,hi,rfl,E9⟩:=hrel;have jy:=hid E9;clear E9;by_cases hlt:i < 27
  ·obtain⟨x,hx,_,_⟩:=Rx hlt;have hcell:=HB.out.cell i;have hx2:(kn.map fun l=>Value.string ⟨l.toArray⟩).toArray[i]?=some (.string ⟨x.toArray⟩):=by simp[hx]
   rw[hx2] at hcell;have Rw:=hid (Ry hx);have e0:=Om x;have HE0:=hid e0;clear hx hx2 e0;by_cases he:s.data.toList=x
   ·have HE:=hid he;have t2:(x==s.toList)=true:=by rw[ByteArray.toList_eq,he];simp
    clear he;go_wp2_with fail;go_ret;refine⟨fA ?_,b1⟩;rw[jy.out,Rw.out,HE.out];simp
   ·have HE:=hid he;have t2:(x==s.toList)=false:=by rw[ByteArray.toList_eq,beq_eq_false_iff_ne];exact fun e=>he e.symm
    clear he;go_wp2_with fail;go_round;case rel=>
     refine⟨i+1,by omega,by go_num,?_⟩;rw[jy.out,Rw.out,List.contains_cons];have:(s.data.toList==x)=false:=by simpa using HE.out
     rw[this];rfl
    case measure=>simp[intOf];omega
  ·obtain rfl:i=27:=by omega
   go_wp2_with fail;go_ret;refine⟨fA ?_,b1⟩;rw[jy.out,List.drop_eq_nil_of_le (Nat.le_of_eq zf)];rfl
theorem ER (w:World)(g:Nat)(c:UInt8)(h:au w g 5 #[.int .u8 (c.toNat:Int)]):(convert 53 9 (.slice (some ⟨g,0,none⟩) 1 1)).run Tryz.prog w=.ok (.string ⟨#[c]⟩) w:=by
 have:=run_convert_bytes_back (P:=Tryz.prog) w 53 9 5 ⟨g,0,none⟩ 1 [c] Tryz.underlying53 Tryz.underlying5 Tryz.underlying9 (fun j hj=>by
  have:j=0:=by simpa using hj
  subst this
  have h0:=h.cell 0
  simpa [Addr.add] using h0)
 simpa using this
theorem Wt {c:UInt8}(h:Cg c=true):(rJ c).toNat=c.toNat+32:=by unfold rJ;rw[if_pos h];simp[Cg,UInt8.le_iff_toNat_le] at h;rw[UInt8.toNat_add];simp;omega
theorem Mm {c:UInt8}(h:Cg c=false):rJ c=c:=by unfold rJ;rw[h];rfl
theorem oc (l:List UInt8)(c:UInt8):(⟨l.toArray⟩:ByteArray)++⟨#[c]⟩=⟨(l++ [c]).toArray⟩:=by apply ByteArray.ext;simp
theorem CY (s:ByteArray)(w:World)(hs:s.size≤4294967280):Calls Tryz.prog 83 #[.string s] w fun e w'=>e=.returned (.string ⟨(s.data.toList.map rJ).toArray⟩)∧Below w.heap.size w w':=by
 have HLEN:=hid (show s.data.toList.length=s.size by simp);go_enter Tryz.func83,Tryz.ntmps83;go_wp2_with fail;go_loopw [3,4] (fun x u wr=>∃(i:Nat) (l:List UInt8),i≤s.size∧u=.int .i64 i∧x=.string ⟨l.toArray⟩∧l.length=i∧s.data.toList.map rJ=l++(s.data.toList.drop i).map rJ∧Below w.heap.size w wr) (fun _ u _=>s.size - (intOf u).toNat);case atStart=>exact⟨0,[],by omega,rfl,rfl,rfl,rfl,Below.refl _ _⟩
 case round=>
  obtain⟨i,l,hi,rfl,rfl,hl,hm,hb⟩:=hrel;have HM:=hid hm;have hl2:l.length≤s.size:=by omega
  have HL:=hid hl;have HLL:=hid (show l.length≤s.size by omega);clear hm hl;by_cases hlt:i < s.size
  ·have HD:=hid (drop_at (ft s i hlt));rcases Ol s[i] with ⟨hc,t1,t2⟩|⟨hc,t1,t2⟩|⟨hc,t1⟩
   ·have F4:=Wt hc;have hn:s[i].toNat≤90:=by have:=of_decide_eq_true t2;omega
    have hr:=ER _ _ (rJ s[i]) (au.new wr 5 #[.int .u8 ((rJ s[i]).toNat:Int)]);rw[F4] at hr;rw[show((s[i].toNat+32:Nat):Int)=(s[i].toNat:Int)+32 from rfl] at hr;have Wu:=hid F4;clear F4 hc;go_wp2_with fail;go_roundw;case rel=>refine⟨i+1,l++ [rJ s[i]],by omega,by go_num,by rw[oc],by rw[List.length_append,HL.out];rfl,?_,hb.trans ((aa wr _).mono hb.size)⟩;rw[HM.out,HD.out];simp
    case measure=>simp[intOf];omega
   ·have hr:=ER _ _ s[i] (au.new wr 5 #[.int .u8 (s[i].toNat:Int)]);have Wu:=hid (Mm hc);clear hc;go_wp2_with fail;go_roundw;case rel=>refine⟨i+1,l++ [s[i]],by omega,by go_num,by rw[oc],by rw[List.length_append,HL.out];rfl,?_,hb.trans ((aa wr _).mono hb.size)⟩;rw[HM.out,HD.out];simp[Wu.out]
    case measure=>simp[intOf];omega
   ·have hr:=ER _ _ s[i] (au.new wr 5 #[.int .u8 (s[i].toNat:Int)]);have Wu:=hid (Mm hc);clear hc;go_wp2_with fail;go_roundw;case rel=>refine⟨i+1,l++ [s[i]],by omega,by go_num,by rw[oc],by rw[List.length_append,HL.out];rfl,?_,hb.trans ((aa wr _).mono hb.size)⟩;rw[HM.out,HD.out];simp[Wu.out]
    case measure=>simp[intOf];omega
  ·go_wp2_with fail;go_ret;refine⟨?_,hb⟩;rw[HM.out,List.drop_eq_nil_of_le (by rw[HLEN.out];omega)];simp
theorem Aj {s:ByteArray} {a b:Nat}(h:bZ false (s.data.toList.drop a)=bZ false (s.data.toList.drop b)):eT s a=eT s b:=CM s h
theorem tF {s:ByteArray} {a:Nat}(ha:a≤s.size)(h:bZ false (s.data.toList.drop a)=s.data.toList.drop a):eT s a=a:=by unfold eT;rw[h,List.length_drop];simp;omega
theorem CZ (s:ByteArray)(at_:Nat)(w:World)(ha:at_≤s.size)(hs:s.size≤4294967280):Calls Tryz.prog 44 #[.string s,.int .i64 at_] w fun e w'=>e=.returned (.int .i64 (eT s at_))∧w=w':=by
 have HLEN:=hid (show s.data.toList.length=s.size by simp);go_enter Tryz.func44,Tryz.ntmps44;go_wp2_with fail;go_loop [1] (fun u=>∃a:Nat,a≤s.size∧u=.int .i64 a∧eT s at_=eT s a) (fun u=>s.size - (intOf u).toNat);case atStart=>exact⟨at_,ha,rfl,rfl⟩
 case round=>
  obtain⟨a,hle,rfl,hsk⟩:=hrel;have HS:=hid hsk;clear hsk;by_cases hlt:a < s.size
  ·have HD:=hid (drop_at (ft s a hlt));cases hb:eH s[a]
   ·have VE:s[a]=45∨s[a]≠45:=by by_cases h:s[a]=45 <;> simp[h]
    rw[tz] at hb;simp only[Bool.or_eq_false_iff] at hb;obtain⟨⟨⟨b1,b2⟩,b3⟩,b4⟩:=hb;have HB:=hid (show eH s[a]=false by rw[tz,b1,b2,b3,b4];rfl);rcases VE with VE | VE
    ·have t1:(((s[a].toNat:Nat):Int)==45)=true:=by rw[VE];rfl
     have t2:(((s[a].toNat:Nat):Int) != 45)=false:=by rw[VE];rfl
     have H45:=hid VE;clear VE;by_cases afg:a+1 < s.size
     ·have oH:=hid (drop_at (ft s (a+1) afg));have n1:=decide_eq_false (show¬((s.size:Int)≤(a:Int)+1) by omega);by_cases F5:s[a+1]=45
      ·have u1:(((s[a+1].toNat:Nat):Int)==45)=true:=by rw[F5];rfl
       have u2:(((s[a+1].toNat:Nat):Int) != 45)=false:=by rw[F5];rfl
       have HC:=hid (show bZ false (s.data.toList.drop a)=bZ true (s.data.toList.drop a) by
        rw[HD.out,oH.out,F5,H45.out]
        simp[bZ,eH])
       clear F5;go_wp2_with fail;go_loop [1] (fun u=>∃k:Nat,a≤k∧k≤s.size∧u=.int .i64 k∧bZ false (s.data.toList.drop a)=bZ true (s.data.toList.drop k)) (fun u=>s.size - (intOf u).toNat);case atStart=>exact⟨a,Nat.le_refl _,hle,rfl,HC.out⟩
       case round=>
        obtain⟨k,Af,hk2,rfl,hsk⟩:=hrel;have HK:=hid hsk;clear hsk;by_cases Wh:k < s.size
        ·have HDK:=hid (drop_at (ft s k Wh));by_cases h10:s[k]=10
         ·have v1:(((s[k].toNat:Nat):Int)==10)=true:=by rw[h10];rfl
          have v2:(((s[k].toNat:Nat):Int) != 10)=false:=by rw[h10];rfl
          have H10:=hid h10;have hne:a≠k:=by intro e;subst e;have:=H45.out.symm.trans h10;exact absurd this (by decide)
          clear h10;go_wp2_with fail;go_round;case rel=>refine⟨k,hk2,rfl,?_⟩;rw[HS.out];refine Aj ?_;rw[HK.out,HDK.out,H10.out];simp[bZ,eH]
          case measure=>simp[intOf];omega
         ·have v1:(((s[k].toNat:Nat):Int)==10)=false:=by rw[beq_eq_false_iff_ne];intro h;exact h10 (UInt8.toNat_inj.1 (by simpa using(by omega:s[k].toNat=10)))
          have v2:(((s[k].toNat:Nat):Int) != 10)=true:=by simpa [bne] using v1
          have H10:=hid h10;clear h10;go_wp2_with fail;go_round;case rel=>refine⟨k+1,by omega,Wh,by go_num,?_⟩;rw[HK.out,HDK.out,bZ,if_neg H10.out]
          case measure=>simp[intOf];omega
        ·go_wp2_with fail;go_round;case rel=>refine⟨k,hk2,rfl,?_⟩;rw[HS.out];refine Aj ?_;rw[HK.out,List.drop_eq_nil_of_le (by rw[HLEN.out];omega)];simp[bZ]
         case measure=>simp[intOf];omega
      ·have u1:(((s[a+1].toNat:Nat):Int)==45)=false:=by rw[beq_eq_false_iff_ne];intro h;exact F5 (UInt8.toNat_inj.1 (by simpa using(by omega:s[a+1].toNat=45)))
       have u2:(((s[a+1].toNat:Nat):Int) != 45)=true:=by simpa [bne] using u1
       have H46:=hid F5;clear F5;go_wp2_with fail;go_ret;refine⟨lH ?_,rfl⟩;rw[HS.out,tF hle];rw[HD.out,bZ,HB.out,if_neg (by decide),if_neg];rintro⟨_,h⟩;rw[oH.out] at h;exact H46.out (by simpa using h)
     ·have n1:=decide_eq_true (show((s.size:Int)≤(a:Int)+1) by omega);go_wp2_with fail;go_ret;refine⟨lH ?_,rfl⟩;rw[HS.out,tF hle];rw[HD.out,bZ,HB.out,if_neg (by decide),if_neg];rintro⟨_,h⟩;rw[List.drop_eq_nil_of_le (by rw[HLEN.out];omega)] at h;simp at h
    ·have t1:(((s[a].toNat:Nat):Int)==45)=false:=by rw[beq_eq_false_iff_ne];intro h;exact VE (UInt8.toNat_inj.1 (by simpa using(by omega:s[a].toNat=45)))
     have t2:(((s[a].toNat:Nat):Int) != 45)=true:=by simpa [bne] using t1
     have H45:=hid VE;clear VE;go_wp2_with fail;go_ret;refine⟨lH ?_,rfl⟩;rw[HS.out,tF hle];rw[HD.out,bZ,HB.out,if_neg (by decide),if_neg];rintro⟨h,_⟩;exact H45.out h
   ·have HB:=hid hb;rw[tz] at hb;cases b1:(((s[a].toNat:Nat):Int)==32)<;> cases b2:(((s[a].toNat:Nat):Int)==9)<;> cases b3:(((s[a].toNat:Nat):Int)==10)<;> cases b4:(((s[a].toNat:Nat):Int)==13);all_goals try (exfalso;rw[b1,b2,b3,b4] at hb;exact absurd hb (by decide))
    all_goals
     clear hb;go_wp2_with fail;go_round;case rel=>refine⟨a+1,hlt,by go_num,?_⟩;rw[HS.out];refine Aj ?_;rw[HD.out,bZ,if_pos HB.out]
     case measure=>simp[intOf];omega
  ·go_wp2_with fail;go_ret;refine⟨lH ?_,rfl⟩;rw[HS.out,tF hle];rw[List.drop_eq_nil_of_le (by rw[HLEN.out];omega)];rfl
end Go.Proofs.YtcneefmaghoejaaGreatDoor
