/- Parts of the proof. -/
import Derived.Test.YtcneefmaghoejaaGreatDoorC29
namespace Go.Proofs.YtcneefmaghoejaaGreatDoor
open Go.Lib (hid)
open Go.ChangeShapes Go.WideShapes Go.ChangeAt Go.RowKit
set_option linter.unusedVariables false
set_option linter.unusedSimpArgs false
theorem sG {α β:Type} {R:α→β→Prop} {l:List α} {m:List β}(h:jP R l m):∀ {i:Nat} {x:α} {y:β},l[i]?=some x→m[i]?=some y→R x y:=by
 induction h with
 | nil=>intro i x y hx;simp at hx
 | cons h1 h2 ih=>
   intro i x y hx hy
   match i with
   | 0=>simp at hx hy;subst hx hy;exact h1
   | i+1=>exact ih (by simpa using hx) (by simpa using hy)
theorem DF {α:Type} {l:List (List α)} {i:Nat} {r:List α}(h:l[i]?=some r):(l.take (i+1)).flatten=(l.take i).flatten++r:=by rw[List.take_add_one,h];simp
theorem XP {α:Type} {l:List (List α)} {i:Nat} {r:List α}(h:l[i]?=some r):(l.take i).flatten.length+r.length≤l.flatten.length:=by
 have e:=DF h;have h2:(l.take (i+1)).flatten++(l.drop (i+1)).flatten=l.flatten:=by rw[← List.flatten_append,List.take_append_drop]
 rw[← h2,e];simp only[List.length_append];omega
theorem Bv {α β:Type} {l:List α} {i:Nat} {x:α}(f:α→β)(h:l[i]?=some x):(l.take (i+1)).map f=(l.take i).map f++ [f x]:=by rw[List.take_add_one,h];simp
def exJ (w:World)(S:Nat→Prop)(q:Nat)(cs:Array Value)(v0:Value)(acc l1 l2 l3:List Tr):List Value→World→Prop
 | [],wr=>yS w S v0 wr acc∧au wr q 29 cs
 | [a],wr=>yS w S a wr (acc++l1)∧au wr q 29 cs
 | [_,b],wr=>yS w S b wr (acc++l1++l2)∧au wr q 29 cs
 | [_,_,c],wr=>yS w S c wr (acc++l1++l2++l3)∧au wr q 29 cs
 | _,_=>False
theorem TT (w:World)(S:Nat→Prop)(q:Nat)(cs:Array Value)(v0:Value)(acc l1 l2 l3:List Tr):∀vs wr,exJ w S q cs v0 acc l1 l2 l3 vs wr→exJ w S q cs v0 acc l1 l2 l3 vs wr.drew
 | [],wr,h=>⟨h.1.later (ah.drew wr),h.2.drew⟩
 | [a],wr,h=>⟨h.1.later (ah.drew wr),h.2.drew⟩
 | [_,b],wr,h=>⟨h.1.later (ah.drew wr),h.2.drew⟩
 | [_,_,c],wr,h=>⟨h.1.later (ah.drew wr),h.2.drew⟩
 | _::_::_::_::_,wr,h=>h.elim
theorem PK (w:World)(S:Nat→Prop)(q:Nat)(cs:Array Value)(v0:Value)(acc l1 l2 l3:List Tr) {u1 u2 u3:Value}(h1:cs[3]?=some u1)(h2:cs[4]?=some u2)(h3:cs[5]?=some u3):∀vs wr,exJ w S q cs v0 acc l1 l2 l3 vs wr→wr.cell? ⟨q,3,none⟩=some u1∧wr.cell? ⟨q,4,none⟩=some u2∧wr.cell? ⟨q,5,none⟩=some u3:=by
 intro vs wr h;have hb:au wr q 29 cs:=by
  match vs,h with
  | [],h=>exact h.2
  | [a],h=>exact h.2
  | [_,b],h=>exact h.2
  | [_,_,c],h=>exact h.2
  | _::_::_::_::_,h=>exact h.elim
 exact⟨(hb.cell 3).trans h1,(hb.cell 4).trans h2,(hb.cell 5).trans h3⟩
set_option maxHeartbeats 1000000
set_option maxRecDepth 100000
theorem Jc (w:World)(d:St)(y:qY)(S:Nat→Prop)(hS:∀b,S b→b < w.heap.size)(h:d.at_ w S y)(hlen:d.exprs.length≤100000)(hr0:d.rows.length≤64):
  Calls Tryz.prog 25 #[np y] w fun e w'=>∃sl:Sl,e=.returned (eP sl)∧sl.n=d.exprs.length∧gL.sl w' (eD 0 w') sl d.exprs∧Below w.heap.size w w':=by
 have je:=hid h;have HS:=hid hS;have hn:(d.rows.flatten.length+d.ej.length+d.bK.length)+(d.query.items.length+d.query.bK.length+d.query.group.length+d.query.having.length+d.query.order.length)≤100000:=by simp only[St.exprs,Qu.exprs,List.length_append,List.length_map] at hlen;omega
 have HN:=hid hn;have hb:=aa w (.cells (cx y).toArray 35);have hB:=au.new w 35 (cx y).toArray;have HX:=hid ((yS.start w S).later hb);have hst:=aZ y;unfold np;clear h hS hn hlen;go_enter Tryz.func25,Tryz.ntmps25;go_wp2_with fail;generalize w.alloc _=W1 at*;have hs1:w.heap.size+1≤W1.heap.size:=hB.lt;clear hst;go_loopw [3,4] (fun v iv wr=>∃(i:Nat),i≤d.rows.length∧iv=.int .i64 i∧yS w S v wr (d.rows.take i).flatten∧au wr w.heap.size 35 (cx y).toArray) (fun _ iv _=>d.rows.length - (intOf iv).toNat);case atStart=>exact⟨0,Nat.zero_le _,rfl,HX.out,hB⟩
 case round=>
  obtain⟨i,hi,rfl,hX,za⟩:=hrel;have PL:=je.out.rows.1;obtain⟨(sls:List Sl),oI,FC⟩:=je.out.rows.2;have fE:(sls:List Sl).length=d.rows.length:=FC.len;have Nb:wr.cell? ⟨w.heap.size,19,none⟩=some (.slice y.rows.A y.rows.n y.rows.c):=za.cell 19;have pC:=hid hX;have gI:=hid za;have hwl:=za.lt;clear hX za HX hB;rw[PL] at Nb;by_cases hlt:i < d.rows.length
  ·obtain⟨r,hr⟩:∃r,d.rows[i]?=some r:=⟨_,List.getElem?_eq_getElem hlt⟩;obtain⟨z,hz⟩:∃z,sls[i]?=some z:=⟨_,List.getElem?_eq_getElem (by rw[fE];exact hlt)⟩;have TU:gL.lies w S z.A z.n r:=sG FC hr hz;have VC:=XP hr;have VX:=hid (DF hr);rcases oI with h0 |⟨b,off,uk,rq,hc⟩
   ·have h0:sls=([]:List Sl):=h0;rw[h0] at hz;exact absurd hz (by simp)
   have hcell:wr.cell? ⟨b,off+i*1+0,none⟩=some (.slice z.A z.n z.c):=(pC.out.below.cell (p:=⟨b,off+i*1+0,none⟩) (HS.out b rq)).trans (hc i z 0 _ hz rfl);simp only[Nat.mul_one,Nat.add_zero] at hcell;have P5:=hid TU;have HNX:=hid VC;have hap:=fun(v:Value) (hX:yS w S v wr (d.rows.take i).flatten) (ty:TypeId)=>kJ 25 ty Tryz.underlying25 hX (c:=z.c) P5.out HS.out (by have:=HNX.out;have:=HN.out;omega)
   have tR:=hid hap;clear VC;generalize oL:(d.rows.take i).flatten=acc at*;have PM:=hid oL;clear oL;obtain⟨A3,c3,hv3⟩:=pC.out.len;subst hv3;rw[uk] at Nb;clear hr hz TU hc hap PL FC fE;go_wp2_with (first
    |(at_builtin
      refine iE rfl (.tmp 16) (.tmp 21) 25 rfl rfl rfl (tR.out _ pC.out _) ?_
      rintro v' w' ⟨CB,pZ⟩
      have VY:=hid CB
      have P6:=hid (pC.out.far pZ gI.out (by decide))
      clear CB pZ))
   go_roundw;case rel=>exact⟨i+1,hlt,by go_num,by rw[VX.out];exact VY.out,P6.out⟩
   case measure=>simp[intOf];omega
  obtain rfl:i=d.rows.length:=by omega
  have HX1:=hid (show yS w S _ wr d.rows.flatten by have:=pC.out;rw[List.take_length] at this;exact this);clear pC FC oI;obtain⟨A3,c3,hv3⟩:=HX1.out.len;subst hv3;generalize B6:d.rows.flatten=Ln at*;have abZ:=hid B6;clear B6;go_wp2_with fail;clear hi hlt Nb fE PL;go_loopw [3,5] (fun v iv wr=>∃(i:Nat),i≤d.ej.length∧iv=.int .i64 i∧yS w S v wr (Ln++(d.ej.take i).map (fun x=>x.2))∧au wr w.heap.size 35 (cx y).toArray) (fun _ iv _=>d.ej.length - (intOf iv).toNat);case atStart=>exact⟨0,Nat.zero_le _,rfl,by rw[List.take_zero,List.map_nil,List.append_nil];exact HX1.out,gI.out⟩
  case round=>
   obtain⟨i,hi,rfl,hX,za⟩:=hrel;clear HX1 gI;have PL:=je.out.ej.1;obtain⟨(zs:List (ByteArray×Ex)),oI,FC⟩:=je.out.ej.2;have fE:(zs:List (ByteArray×Ex)).length=d.ej.length:=FC.len;have xl:wr.cell? ⟨w.heap.size,20,none⟩=some (.slice y.ej.A y.ej.n y.ej.c):=za.cell 20;have pC:=hid hX;have gI:=hid za;have hwl:=za.lt;clear hX za;rw[PL] at xl;have hls:d.ej.length≤100000:=by have:=HN.out;omega
   by_cases hlt:i < d.ej.length
   ·obtain⟨r,hr⟩:∃r,d.ej[i]?=some r:=⟨_,List.getElem?_eq_getElem hlt⟩;obtain⟨z,hz⟩:∃z,zs[i]?=some z:=⟨_,List.getElem?_eq_getElem (by rw[fE];exact hlt)⟩;have TU:=(sG FC hr hz).2;have VX:=hid (Bv (fun x=>x.2) hr);rcases oI with h0 |⟨b,off,uk,rq,hc⟩
    ·have h0:zs=([]:List (ByteArray×Ex)):=h0;rw[h0] at hz;exact absurd hz (by simp)
    have hcell:=fun j u hu=>(pC.out.below.cell (p:=⟨b,off+i*8+j,none⟩) (HS.out b rq)).trans (hc i z j u hz hu)
    have xE:(Ln++(d.ej.take i).map (fun x=>x.2)).length≤Ln.length+i:=by simp;omega
    obtain⟨zn,⟨TV,zv,sH,zw,zA,zl,zc⟩⟩:=z;have k0:=hcell 1 _ rfl;have k1:=hcell 2 _ rfl;have k2:=hcell 3 _ rfl;have k3:=hcell 4 _ rfl;have k4:=hcell 5 _ rfl;have k5:=hcell 6 _ rfl;have k6:=hcell 7 _ rfl;have P5:=hid TU;have Zk:=hid xE;clear xE TU hcell hc hr hz;generalize oL:Ln++(d.ej.take i).map (fun x=>x.2)=acc at*;have PM:=hid oL;clear oL;obtain⟨A3,c3,hv3⟩:=pC.out.len;subst hv3;have Hh:=pC.out.later (aa wr (.cells (bl ⟨TV,zv,sH,zw,zA,zl,zc⟩).toArray 49));have tR:=hid (fun(ty:TypeId)=>px 25 ty Tryz.underlying25 Hh (au.new wr 49 (bl ⟨TV,zv,sH,zw,zA,zl,zc⟩).toArray) P5.out (by have:=Zk.out;have:=HN.out;omega));have HBN:=hid (gI.out.alloc (.cells (bl ⟨TV,zv,sH,zw,zA,zl,zc⟩).toArray 49));have kR:=hid Hh;rw[uk] at xl;clear uk PL FC fE Hh;go_wp2_with (first
     |(at_builtin
       refine iE rfl (.tmp 30) (.tmp 37) 25 rfl rfl rfl (tR.out _) ?_
       rintro v' w9 ⟨CB,pZ⟩
       have VY:=hid CB
       have P6:=hid (kR.out.far pZ HBN.out (by decide))
       clear CB pZ))
    go_roundw;case rel=>exact⟨i+1,hlt,by go_num,by(first | rw[VX.out] | rw[← List.map_take,VX.out]);rw[← List.append_assoc,PM.out];exact VY.out,P6.out⟩
    case measure=>simp[intOf];omega
   obtain rfl:i=d.ej.length:=by omega
   have TW:=pC.out;rw[List.take_length] at TW;clear pC;have xE:(Ln++d.ej.map (fun x=>x.2)).length=Ln.length+d.ej.length:=by simp
   have pC:=hid TW;clear FC oI TW;obtain⟨A3,c3,hv3⟩:=pC.out.len;subst hv3;generalize B7:Ln++d.ej.map (fun x=>x.2)=P7 at*;have acb:=hid B7;have PN:=hid xE;have hww:=je.out.bK;have tR:=hid (fun(ty:TypeId)=>kJ 25 ty Tryz.underlying25 pC.out (c:=y.bK.c) hww HS.out (by have:=PN.out;have:=HN.out;omega));have P8:wr.cell? ⟨w.heap.size,21,none⟩=some (.slice y.bK.A y.bK.n y.bK.c):=gI.out.cell 21;clear B7 xE hww;go_wp2_with (first
    |(at_builtin
      refine iE rfl (.tmp 39) (.tmp 41) 25 rfl rfl rfl (tR.out _) ?_
      rintro v' w9 ⟨CB,pZ⟩
      have TX:=pC.out.far pZ gI.out (by decide)
      obtain⟨A4,c4,hv4⟩:=CB.len
      subst hv4
      have TY:=hid (show(P7++d.bK).length=P7.length+d.bK.length by simp)
      generalize B8:P7++d.bK=Lp at*
      have acd:=hid B8
      have VY:=hid CB
      have kX:=hid TX
      have q7:w9.cell? ⟨w.heap.size,7,none⟩=some (.slice y.query.items.A y.query.items.n y.query.items.c):=TX.cell 7
      have q8:w9.cell? ⟨w.heap.size,8,none⟩=some (.string y.query.bw):=TX.cell 8
      have q9:w9.cell? ⟨w.heap.size,9,none⟩=some (.bool y.query.only):=TX.cell 9
      have q10:w9.cell? ⟨w.heap.size,10,none⟩=some (.slice y.query.bK.A y.query.bK.n y.query.bK.c):=TX.cell 10
      have q11:w9.cell? ⟨w.heap.size,11,none⟩=some (.slice y.query.group.A y.query.group.n y.query.group.c):=TX.cell 11
      have q12:w9.cell? ⟨w.heap.size,12,none⟩=some (.slice y.query.having.A y.query.having.n y.query.having.c):=TX.cell 12
      have q13:w9.cell? ⟨w.heap.size,13,none⟩=some (.slice y.query.order.A y.query.order.n y.query.order.c):=TX.cell 13
      have q14:w9.cell? ⟨w.heap.size,14,none⟩=some (.slice y.query.cG.A y.query.cG.n y.query.cG.c):=TX.cell 14
      have Ge:=TX.lt
      clear CB pZ TX B8))
   clear P8 tR pC;have HQ:=hid (au.new w9 29 (lx y.query).toArray);have HXQ:=hid (VY.out.later (aa w9 (.cells (lx y.query).toArray 29)));clear VY kX q7 q8 q9 q10 q11 q12 q13 q14 gI;unfold lx eP at HQ HXQ;generalize w9.alloc _=W9 at*;generalize w9.heap.size=q at*;clear Ge;go_loopw [3,7] (fun v iv wr=>∃(i:Nat),i≤d.query.items.length∧iv=.int .i64 i∧yS w S v wr (Lp++(d.query.items.take i).map (fun x=>x.1))∧au wr q 29 #[.slice y.query.items.A y.query.items.n y.query.items.c,.string y.query.bw,.bool y.query.only,.slice y.query.bK.A y.query.bK.n y.query.bK.c,.slice y.query.group.A y.query.group.n y.query.group.c,.slice y.query.having.A y.query.having.n y.query.having.c,.slice y.query.order.A y.query.order.n y.query.order.c,.slice y.query.cG.A y.query.cG.n y.query.cG.c]) (fun _ iv _=>d.query.items.length - (intOf iv).toNat);case atStart=>exact⟨0,Nat.zero_le _,rfl,by rw[List.take_zero,List.map_nil,List.append_nil];exact HXQ.out,HQ.out⟩
   case round=>
    obtain⟨i,hi,rfl,hX,za⟩:=hrel;clear HXQ HQ;have PL:=je.out.query.items.1;obtain⟨(zs:List (Ex×ByteArray)),oI,FC⟩:=je.out.query.items.2;have fE:(zs:List (Ex×ByteArray)).length=d.query.items.length:=FC.len;have xl:wr.cell? ⟨q,0,none⟩=some (.slice y.query.items.A y.query.items.n y.query.items.c):=za.cell 0;have pC:=hid hX;have gI:=hid za;have hwl:=za.lt;clear hX za;rw[PL] at xl;have hls:d.query.items.length≤100000:=by have:=HN.out;omega
    by_cases hlt:i < d.query.items.length
    ·obtain⟨r,hr⟩:∃r,d.query.items[i]?=some r:=⟨_,List.getElem?_eq_getElem hlt⟩;obtain⟨z,hz⟩:∃z,zs[i]?=some z:=⟨_,List.getElem?_eq_getElem (by rw[fE];exact hlt)⟩;have TU:=(sG FC hr hz).1;have VX:=hid (Bv (fun x=>x.1) hr);rcases oI with h0 |⟨b,off,uk,rq,hc⟩
     ·have h0:zs=([]:List (Ex×ByteArray)):=h0;rw[h0] at hz;exact absurd hz (by simp)
     have hcell:=fun j u hu=>(pC.out.below.cell (p:=⟨b,off+i*8+j,none⟩) (HS.out b rq)).trans (hc i z j u hz hu)
     have xE:(Lp++(d.query.items.take i).map (fun x=>x.1)).length≤Lp.length+i:=by simp;omega
     obtain⟨⟨TV,zv,sH,zw,zA,zl,zc⟩,zn⟩:=z;have k0:=hcell 0 _ rfl;have k1:=hcell 1 _ rfl;have k2:=hcell 2 _ rfl;have k3:=hcell 3 _ rfl;have k4:=hcell 4 _ rfl;have k5:=hcell 5 _ rfl;have k6:=hcell 6 _ rfl;simp only[Nat.add_zero] at k0;have P5:=hid TU;have Zk:=hid xE;clear xE TU hcell hc hr hz;generalize oL:Lp++(d.query.items.take i).map (fun x=>x.1)=acc at*;have PM:=hid oL;clear oL;obtain⟨A3,c3,hv3⟩:=pC.out.len;subst hv3;have Hh:=pC.out.later (aa wr (.cells (bl ⟨TV,zv,sH,zw,zA,zl,zc⟩).toArray 49));have tR:=hid (fun(ty:TypeId)=>px 25 ty Tryz.underlying25 Hh (au.new wr 49 (bl ⟨TV,zv,sH,zw,zA,zl,zc⟩).toArray) P5.out (by have:=Zk.out;have:=HN.out;have:=PN.out;have:=TY.out;omega));have HBN:=hid (gI.out.alloc (.cells (bl ⟨TV,zv,sH,zw,zA,zl,zc⟩).toArray 49));have kR:=hid Hh;rw[uk] at xl;clear uk PL FC fE Hh;go_wp2_with (first
      |(at_builtin
        refine iE rfl (.tmp 52) (.tmp 59) 25 rfl rfl rfl (tR.out _) ?_
        rintro v' w9 ⟨CB,pZ⟩
        have VY:=hid CB
        have P6:=hid (kR.out.far pZ HBN.out (by decide))
        clear CB pZ))
     go_roundw;case rel=>exact⟨i+1,hlt,by go_num,by(first | rw[VX.out] | rw[← List.map_take,VX.out]);rw[← List.append_assoc,PM.out];exact VY.out,P6.out⟩
     case measure=>simp[intOf];omega
    obtain rfl:i=d.query.items.length:=by omega
    have TW:=pC.out;rw[List.take_length] at TW;clear pC;have xE:(Lp++d.query.items.map (fun x=>x.1)).length=Lp.length+d.query.items.length:=by simp
    have pC:=hid TW;clear FC oI TW;obtain⟨A3,c3,hv3⟩:=pC.out.len;subst hv3;have XQ:=hid xE;clear xE;generalize B9:Lp++d.query.items.map (fun x=>x.1)=PO at*;have ace:=hid B9;clear B9;have x3:=gI.out.cell 3;have x4:=gI.out.cell 4;have x5:=gI.out.cell 5;simp only[List.getElem?_toArray,List.getElem?_cons_zero,List.getElem?_cons_succ] at x3 x4 x5;go_upto_region 16 with fail
    clear hi hlt xl PL hls;have hwa:=je.out.query.bK;have hga:=je.out.query.group;have hha:=je.out.query.having;have HWA:=hid hwa;have HGA:=hid hga;have HHA:=hid hha;clear hwa hga hha x3 x4 x5;refine Jb (P:=Tryz.prog) (J:=exJ w S q (#[.slice y.query.items.A y.query.items.n y.query.items.c,.string y.query.bw,.bool y.query.only,.slice y.query.bK.A y.query.bK.n y.query.bK.c,.slice y.query.group.A y.query.group.n y.query.group.c,.slice y.query.having.A y.query.having.n y.query.having.c,.slice y.query.order.A y.query.order.n y.query.order.c,.slice y.query.cG.A y.query.cG.n y.query.cG.c]) (.slice A3 PO.length c3) PO d.query.bK d.query.group d.query.having) (q:=6) (s:=3) (d0:=61) (d1:=62) (d2:=63) (d3:=64) (d4:=65) (d5:=66) (d6:=67) (d7:=68) (d8:=69) (d9:=70) (pq:=.pointer (some ⟨q,0,none⟩)) (v0:=.slice A3 PO.length c3) (p1:=.pointer (some ⟨q,3,none⟩)) (p2:=.pointer (some ⟨q,4,none⟩)) (p3:=.pointer (some ⟨q,5,none⟩)) (s1:=.slice y.query.bK.A y.query.bK.n y.query.bK.c) (s2:=.slice y.query.group.A y.query.group.n y.query.group.c) (s3:=.slice y.query.having.A y.query.having.n y.query.having.c) (A1:=⟨q,3,none⟩) (A2:=⟨q,4,none⟩) (A3:=⟨q,5,none⟩) 25 (TT _ _ _ _ _ _ _ _ _) ⟨pC.out,gI.out⟩ (by kernel_rfl) (by kernel_rfl) (by kernel_rfl) (by kernel_rfl) (by kernel_rfl) rfl rfl ?_ ?_ ?_ ?_ (PK _ _ _ _ _ _ _ _ _ rfl rfl rfl) ?_ ?_ ?_ ?_ ?_ ?_ ?_ ?_ ?_ ?_
    ·intro ρ' w' h';simp[go_sem,h']
    ·intro ρ' w' h';simp[go_sem,h']
    ·intro ρ' w' h';simp[go_sem,h']
    ·intro ρ' w' h';simp[go_sem,h']
    ·intro ρ' w' h' hc';simp[go_sem,h',hc']
    ·intro ρ' w' h' hc';simp[go_sem,h',hc']
    ·intro ρ' w' h' hc';simp[go_sem,h',hc']
    ·intro ρ' w' v' x' u' Co kB jH gO;simp only[execOp,resolve,invoke,builtin,Sem.run_bind,Sem.run_pure,Result.andThen_ok,List.map_toArray,List.map_cons,List.map_nil,kB,jH,gO]
    ·intro ρ' w' v' x' u' Co kB jH gO;simp only[execOp,resolve,invoke,builtin,Sem.run_bind,Sem.run_pure,Result.andThen_ok,List.map_toArray,List.map_cons,List.map_nil,kB,jH,gO]
    ·intro ρ' w' v' x' u' Co kB jH gO;simp only[execOp,resolve,invoke,builtin,Sem.run_bind,Sem.run_pure,Result.andThen_ok,List.map_toArray,List.map_cons,List.map_nil,kB,jH,gO]
    ·rintro w5 ⟨hx,hq⟩;obtain⟨v',w',hrun,CB,pZ⟩:=kJ 25 25 Tryz.underlying25 hx (c:=y.query.bK.c) HWA.out HS.out (by have:=XQ.out;have:=TY.out;have:=PN.out;have:=HN.out;omega);exact⟨v',w',hrun,CB,hx.far pZ hq (by decide)⟩
    ·rintro a w5 ⟨hx,hq⟩;obtain⟨v',w',hrun,CB,pZ⟩:=kJ 25 25 Tryz.underlying25 hx (c:=y.query.group.c) HGA.out HS.out (by have:=XQ.out;have:=TY.out;have:=PN.out;have:=HN.out;simp only[List.length_append];omega);exact⟨v',w',hrun,CB,hx.far pZ hq (by decide)⟩
    ·rintro a b w5 ⟨hx,hq⟩;obtain⟨v',w',hrun,CB,pZ⟩:=kJ 25 25 Tryz.underlying25 hx (c:=y.query.having.c) HHA.out HS.out (by have:=XQ.out;have:=TY.out;have:=PN.out;have:=HN.out;simp only[List.length_append];omega);exact⟨v',w',hrun,CB,hx.far pZ hq (by decide)⟩
    rintro va vb vc W7 ⟨hX7,hB7⟩;have Zm:=hid hX7;have C0:=hid hB7;clear hX7 hB7 pC gI HWA HGA HHA;have agJ:=hid (show(PO++d.query.bK++d.query.group++d.query.having).length=PO.length+d.query.bK.length+d.query.group.length+d.query.having.length by simp only[List.length_append]);generalize C1:PO++d.query.bK++d.query.group++d.query.having=Lq at*;have acf:=hid C1;clear C1;obtain⟨A8,c8,hv8⟩:=Zm.out.len;subst hv8;simp only[Act.put,List.setIfInBounds_toArray,List.set_cons_succ,List.set_cons_zero];go_wp2_with fail;go_loopw [3,8] (fun v iv wr=>∃(i:Nat),i≤d.query.order.length∧iv=.int .i64 i∧yS w S v wr (Lq++(d.query.order.take i).map (fun x=>x.1))∧au wr q 29 #[.slice y.query.items.A y.query.items.n y.query.items.c,.string y.query.bw,.bool y.query.only,.slice y.query.bK.A y.query.bK.n y.query.bK.c,.slice y.query.group.A y.query.group.n y.query.group.c,.slice y.query.having.A y.query.having.n y.query.having.c,.slice y.query.order.A y.query.order.n y.query.order.c,.slice y.query.cG.A y.query.cG.n y.query.cG.c]) (fun _ iv _=>d.query.order.length - (intOf iv).toNat);case atStart=>exact⟨0,Nat.zero_le _,rfl,by rw[List.take_zero,List.map_nil,List.append_nil];exact Zm.out,C0.out⟩
    case round=>
     obtain⟨i,hi,rfl,hX,za⟩:=hrel;clear Zm C0;have PL:=je.out.query.order.1;obtain⟨(zs:List (Ex×Bool)),oI,FC⟩:=je.out.query.order.2;have fE:(zs:List (Ex×Bool)).length=d.query.order.length:=FC.len;have xl:wr.cell? ⟨q,6,none⟩=some (.slice y.query.order.A y.query.order.n y.query.order.c):=za.cell 6;have pC:=hid hX;have gI:=hid za;have hwl:=za.lt;clear hX za;rw[PL] at xl;have hls:d.query.order.length≤100000:=by have:=HN.out;omega
     by_cases hlt:i < d.query.order.length
     ·obtain⟨r,hr⟩:∃r,d.query.order[i]?=some r:=⟨_,List.getElem?_eq_getElem hlt⟩;obtain⟨z,hz⟩:∃z,zs[i]?=some z:=⟨_,List.getElem?_eq_getElem (by rw[fE];exact hlt)⟩;have TU:=(sG FC hr hz).1;have VX:=hid (Bv (fun x=>x.1) hr);rcases oI with h0 |⟨b,off,uk,rq,hc⟩
      ·have h0:zs=([]:List (Ex×Bool)):=h0;rw[h0] at hz;exact absurd hz (by simp)
      have hcell:=fun j u hu=>(pC.out.below.cell (p:=⟨b,off+i*8+j,none⟩) (HS.out b rq)).trans (hc i z j u hz hu)
      have xE:(Lq++(d.query.order.take i).map (fun x=>x.1)).length≤Lq.length+i:=by simp;omega
      obtain⟨⟨TV,zv,sH,zw,zA,zl,zc⟩,zn⟩:=z;have k0:=hcell 0 _ rfl;have k1:=hcell 1 _ rfl;have k2:=hcell 2 _ rfl;have k3:=hcell 3 _ rfl;have k4:=hcell 4 _ rfl;have k5:=hcell 5 _ rfl;have k6:=hcell 6 _ rfl;simp only[Nat.add_zero] at k0;have P5:=hid TU;have Zk:=hid xE;clear xE TU hcell hc hr hz;generalize oL:Lq++(d.query.order.take i).map (fun x=>x.1)=acc at*;have PM:=hid oL;clear oL;obtain⟨A3,c3,hv3⟩:=pC.out.len;subst hv3;have Hh:=pC.out.later (aa wr (.cells (bl ⟨TV,zv,sH,zw,zA,zl,zc⟩).toArray 49));have tR:=hid (fun(ty:TypeId)=>px 25 ty Tryz.underlying25 Hh (au.new wr 49 (bl ⟨TV,zv,sH,zw,zA,zl,zc⟩).toArray) P5.out (by have:=Zk.out;have:=HN.out;have:=PN.out;have:=TY.out;have:=XQ.out;have:=agJ.out;omega));have HBN:=hid (gI.out.alloc (.cells (bl ⟨TV,zv,sH,zw,zA,zl,zc⟩).toArray 49));have kR:=hid Hh;rw[uk] at xl;clear uk PL FC fE Hh;go_wp2_with (first
       |(at_builtin
         refine iE rfl (.tmp 78) (.tmp 85) 25 rfl rfl rfl (tR.out _) ?_
         rintro v' w9 ⟨CB,pZ⟩
         have VY:=hid CB
         have P6:=hid (kR.out.far pZ HBN.out (by decide))
         clear CB pZ))
      go_roundw;case rel=>exact⟨i+1,hlt,by go_num,by(first | rw[VX.out] | rw[← List.map_take,VX.out]);rw[← List.append_assoc,PM.out];exact VY.out,P6.out⟩
      case measure=>simp[intOf];omega
     obtain rfl:i=d.query.order.length:=by omega
     have TW:=pC.out;rw[List.take_length] at TW;clear pC;have xE:(Lq++d.query.order.map (fun x=>x.1)).length=Lq.length+d.query.order.length:=by simp
     have pC:=hid TW;clear FC oI TW;obtain⟨A3,c3,hv3⟩:=pC.out.len;subst hv3;have agK:=hid (show Lq++d.query.order.map (fun x=>x.1)=d.exprs by rw[← acf.out,← ace.out,← acd.out,← acb.out,← abZ.out];simp[St.exprs,Qu.exprs]);go_wp2_with fail;go_ret;obtain⟨sl,h1,h2,h3⟩:=pC.out.sl HS.out;rw[agK.out] at h2 h3;exact⟨sl,congrArg Ending.returned h1,h2,h3,pC.out.below⟩
open Go.Shelf
theorem FD {s:ByteArray} {l:List Tok}(h:mh s.data.toList=.ok l) {w:World}(hs:s.size≤4294967280):
  Calls Tryz.prog 21 #[.string s] w fun e w'=>∃A c,e=.returned (.tuple #[.slice A l.length c,.int .i64 0,.int .i64 0])∧Ak w' w.heap.size (.slice A l.length c) l∧Below w.heap.size w w':=by
 refine(GN s w hs).mono ?_;intro e w' hp;unfold kP at hp;rw[h] at hp;obtain⟨v,rfl,ho,hb⟩:=hp;obtain⟨A,c,rfl⟩:=ho.form;exact⟨A,c,rfl,ho,hb⟩
theorem TZ {s:ByteArray} {p x:Nat}(h:mh s.data.toList=.error (p,x)) {w:World}(hs:s.size≤4294967280):
  Calls Tryz.prog 21 #[.string s] w fun e w'=>e=.returned (.tuple #[.slice none 0 0,.int .i64 p,.int .i64 x])∧Below w.heap.size w w':=by
 refine(GN s w hs).mono ?_;intro e w' hp;unfold kP at hp;rw[h] at hp;exact hp
theorem wz (ρ:br)(w:World)(σ:aW)(big:Bool)(h:ρ.at w σ big)(s:ByteArray):
  Calls Tryz.prog 55 #[ρ.ptr,.string s] w fun e w'=>∃(l:List Tr) (y:Sl),e=.returned (eP y)∧gL.sl w' (eD w.heap.size w') y l∧dV ρ w w' (ae (cL s.data.toList) σ) big∧aK (cL s.data.toList) σ l:=by
 have hm:=dL ρ w σ big h s;have aF:=h.jt;cases hh:σ.head s.data.toList
 ·rw[hh,aG hh] at hm;have HB:=hid (Ff hh);clear hh;go_enter Tryz.func55,Tryz.ntmps55;go_wp2_with fail;refine hm.mono ?_;rintro e w1 ⟨rfl,d1⟩;go_wp2_with fail;go_ret;refine⟨[],Sl.nil,rfl,El.nj _ _ _,?_,HB.out.2⟩;rw[HB.out.1];exact d1
 ·rw[hh,aP hh] at hm;have HH:=hid hh;clear hh;go_enter Tryz.func55,Tryz.ntmps55;go_wp2_with fail;refine hm.mono ?_;rintro e w1 ⟨rfl,d1⟩;go_wp2_with fail;refine(vg ρ _ _ big d1.at_).mono ?_;rintro e w2 ⟨t,y,rfl,ht,d2,iF⟩;unfold ee bl;go_wp2_with fail;go_ret;have hb:=Hk HH.out iF;have hs:=d1.size;refine⟨[t],⟨some ⟨w2.heap.size,0,none⟩,1,1⟩,rfl,SE (au.new w2 _ _) ⟨by have:=d2.size;omega,by simp⟩ ((ht.later (aa w2 _)).more hs),?_,hb.2⟩;rw[hb.1];exact(d1.trans d2).later (aa w2 (mX y))
end Go.Proofs.YtcneefmaghoejaaGreatDoor
