/- Parts of the proof. -/
import Derived.Test.YtcneefmaghoejaaGreatDoorC38
namespace Go.Proofs.YtcneefmaghoejaaGreatDoor
open Go.Lib (hid)
open Go.ChangeShapes Go.WideShapes Go.ChangeAt Go.RowKit
set_option linter.unusedVariables false
set_option linter.unusedSimpArgs false
def StT (w:World)(y z:qY):Prop:=∀W,Below w.heap.size w W→Calls Tryz.prog 12 #[np y,np z] W fun e w'=>e=.returned (.bool true)∧Below W.heap.size W w'
structure St.Jm (s:St):Prop where
 cp:s.cp.length≤1000000000
 rows:s.rows.length≤1000000000
 ej:s.ej.length≤1000000000
 bK:s.bK.length≤1000000000
 S1:Tr.ma s.bK
 adr:∀r∈s.rows,Tr.ma r∧r.length≤1000000000
 ads:∀t∈s.ej,t.2.thin
 query:s.query.Jm
set_option maxHeartbeats 4000000
set_option maxRecDepth 100000
theorem Qb {w:World} {S S2:Nat→Prop}(hS:∀b,S b→b < w.heap.size)(ud:∀b,S2 b→b < w.heap.size) {q:St} {y z:qY}(h:q.at_ w S y)(h2:q.at_ w S2 z)(hs:q.Jm):StT w y z:=by
 intro W hW;have HWH:=hid (BI hS ud h.bK h2.bK hs.S1 hs.bK);have HQU:=hid (Jn hS ud h.query h2.query hs.query);obtain⟨BL,Ys,UM,UN⟩:=h.cp;obtain⟨wT,Yt,UO,UQ⟩:=h2.cp;have S7:=hid UM;have S8:=hid UO;have Nv:=hid UN;have Nw:=hid UQ;obtain⟨BM,Yu,UR,UT⟩:=h.rows;obtain⟨wU,Yv,UU,UW⟩:=h2.rows;have S9:=hid UR;have T1:=hid UU;have Nx:=hid UT;have Ny:=hid UW;obtain⟨BN,Yw,UX,UY⟩:=h.ej;obtain⟨wV,Yx,UZ,Va⟩:=h2.ej;have T2:=hid UX;have T3:=hid UZ;have Nz:=hid UY;have NA:=hid Va;obtain⟨sN,_⟩:=h.bK;obtain⟨oD,_⟩:=h2.bK;have Vb:=h.kind.symm;have NC:=h2.kind.symm;have Vc:=h.name.symm;have ND:=h2.name.symm;have Vd:=h.time.symm;have NF:=h2.time.symm;have NG:=h.every.symm;have Ju:=h2.every.symm;have NH:=h.space.symm;have Jv:=h2.space.symm;have NI:=h.parts.symm;have Jw:=h2.parts.symm;have Ve:=h.what.symm;have NJ:=h2.what.symm;have D7:=h.cf.symm;have Vf:=h2.cf.symm;have h_a:=h.a.symm;have adt:=h2.a.symm;have h_b:=h.b.symm;have adu:=h2.b.symm;have D8:=h.bw.symm;have Vg:=h2.bw.symm;have E0:=h.ez.symm;have Vh:=h2.ez.symm;have T4:=hid hs.adr;have T5:=hid hs.ads;have bC:=hs.cp;have bR:=hs.rows;have bS:=hs.ej;clear h h2 hs;obtain⟨kind,name,Vi,time,every,space,parts,query,what,cf,a,b,Vj,Vk,UK,bw,ez⟩:=q;obtain⟨ajL,ajM,⟨BO,aeF,BP⟩,ajN,ahF,ahG,ahH,⟨⟨Qc,Qd,Qe⟩,qf,qy,⟨Qf,Qg,Qh⟩,⟨Qi,Qj,Qk⟩,⟨Ql,Qm,Qn⟩,⟨Qo,Qp,Qq⟩,⟨Qr,Qs,Qt⟩⟩,ajO,amr,a1,b1,⟨BQ,aeG,BR⟩,⟨BS,aeH,BU⟩,⟨sQ,ahI,sR⟩,fv1,tv1⟩:=y;obtain⟨ajP,adh,⟨wW,aeI,wX⟩,ajQ,ahJ,ahK,ahL,⟨⟨DR,DT,DU⟩,Z5,Z6,⟨DV,DX,DY⟩,⟨DZ,Ea,Eb⟩,⟨Ec,Ed,Ee⟩,⟨Ef,Eg,Eh⟩,⟨Ei,Ej,Ek⟩⟩,ajR,ams,a2,b2,⟨wY,aeJ,wZ⟩,⟨xb,aeK,xd⟩,⟨oF,S4,oG⟩,fv2,tv2⟩:=z;simp only at Vb NC Vc ND Vd NF NG Ju NH Jv NI Jw Ve NJ D7 Vf h_a adt h_b adu D8 Vg E0 Vh bC bR bS BL wT BM wU BN wV sN oD;subst Vb NC Vc ND Vd NF NG Ju NH Jv NI Jw Ve NJ D7 Vf h_a adt h_b adu D8 Vg E0 Vh;obtain⟨kt,LI⟩:∃n:Nat,n=Vi.length:=⟨_,rfl⟩;rw[← LI] at BL wT;replace BL:=BL.symm;replace wT:=wT.symm;subst BL wT;have FR:=hid LI;clear LI;obtain⟨ku,LJ⟩:∃n:Nat,n=Vj.length:=⟨_,rfl⟩;rw[← LJ] at BM wU;replace BM:=BM.symm;replace wU:=wU.symm;subst BM wU
 have FT:=hid LJ;clear LJ;obtain⟨kv,LK⟩:∃n:Nat,n=Vk.length:=⟨_,rfl⟩;rw[← LK] at BN wV;replace BN:=BN.symm;replace wV:=wV.symm;subst BN wV;have FU:=hid LK;clear LK;obtain⟨kL,BJ⟩:∃n:Nat,n=UK.length:=⟨_,rfl⟩;rw[← BJ] at sN oD;replace sN:=sN.symm;replace oD:=oD.symm;subst sN oD;have ado:=hid BJ;clear BJ;clear UM UO UN UQ UR UU UT UW UX UZ UY Va;rw[← FR.out] at bC;rw[← FT.out] at bR;rw[← FU.out] at bS;obtain⟨fk,fn,fs⟩:=bw;obtain⟨tk,tn,ts⟩:=ez;show Calls Tryz.prog 12 #[.agg #[.int .u8 kind,.string name,.slice BO kt BP,.string time,.int .i64 every,.string space,.int .i64 parts,.slice Qc Qd Qe,.string qf,.bool qy,.slice Qf Qg Qh,.slice Qi Qj Qk,.slice Ql Qm Qn,.slice Qo Qp Qq,.slice Qr Qs Qt,.int .u8 what,.string cf,.int .i64 a,.int .i64 b,.slice BQ ku BR,.slice BS kv BU,.slice sQ kL sR,.int .u8 fk,.int .i64 fn,.string fs,.int .u8 tk,.int .i64 tn,.string ts],.agg #[.int .u8 kind,.string name,.slice wW kt wX,.string time,.int .i64 every,.string space,.int .i64 parts,.slice DR DT DU,.string Z5,.bool Z6,.slice DV DX DY,.slice DZ Ea Eb,.slice Ec Ed Ee,.slice Ef Eg Eh,.slice Ei Ej Ek,.int .u8 what,.string cf,.int .i64 a,.int .i64 b,.slice wY ku wZ,.slice xb kv xd,.slice oF kL oG,.int .u8 fk,.int .i64 fn,.string fs,.int .u8 tk,.int .i64 tn,.string ts]] W _;have HQV:∀W,Below w.heap.size w W→Calls Tryz.prog 28 #[.agg #[.slice Qc Qd Qe,.string qf,.bool qy,.slice Qf Qg Qh,.slice Qi Qj Qk,.slice Ql Qm Qn,.slice Qo Qp Qq,.slice Qr Qs Qt],.agg #[.slice DR DT DU,.string Z5,.bool Z6,.slice DV DX DY,.slice DZ Ea Eb,.slice Ec Ed Ee,.slice Ef Eg Eh,.slice Ei Ej Ek]] W fun e w'=>e=.returned (.bool true)∧Below W.heap.size W w':=HQU.out
 clear HQU;have HQU:=hid HQV;clear HQV;go_enter Tryz.func12,Tryz.ntmps12;have hX:=(au.new W 35 #[.int .u8 kind,.string name,.slice BO kt BP,.string time,.int .i64 every,.string space,.int .i64 parts,.slice Qc Qd Qe,.string qf,.bool qy,.slice Qf Qg Qh,.slice Qi Qj Qk,.slice Ql Qm Qn,.slice Qo Qp Qq,.slice Qr Qs Qt,.int .u8 what,.string cf,.int .i64 a,.int .i64 b,.slice BQ ku BR,.slice BS kv BU,.slice sQ kL sR,.int .u8 fk,.int .i64 fn,.string fs,.int .u8 tk,.int .i64 tn,.string ts]).alloc (.cells #[.int .u8 kind,.string name,.slice wW kt wX,.string time,.int .i64 every,.string space,.int .i64 parts,.slice DR DT DU,.string Z5,.bool Z6,.slice DV DX DY,.slice DZ Ea Eb,.slice Ec Ed Ee,.slice Ef Eg Eh,.slice Ei Ej Ek,.int .u8 what,.string cf,.int .i64 a,.int .i64 b,.slice wY ku wZ,.slice xb kv xd,.slice oF kL oG,.int .u8 fk,.int .i64 fn,.string fs,.int .u8 tk,.int .i64 tn,.string ts] 35);have hZ:=au.new (W.alloc (.cells #[.int .u8 kind,.string name,.slice BO kt BP,.string time,.int .i64 every,.string space,.int .i64 parts,.slice Qc Qd Qe,.string qf,.bool qy,.slice Qf Qg Qh,.slice Qi Qj Qk,.slice Ql Qm Qn,.slice Qo Qp Qq,.slice Qr Qs Qt,.int .u8 what,.string cf,.int .i64 a,.int .i64 b,.slice BQ ku BR,.slice BS kv BU,.slice sQ kL sR,.int .u8 fk,.int .i64 fn,.string fs,.int .u8 tk,.int .i64 tn,.string ts] 35)) 35 #[.int .u8 kind,.string name,.slice wW kt wX,.string time,.int .i64 every,.string space,.int .i64 parts,.slice DR DT DU,.string Z5,.bool Z6,.slice DV DX DY,.slice DZ Ea Eb,.slice Ec Ed Ee,.slice Ef Eg Eh,.slice Ei Ej Ek,.int .u8 what,.string cf,.int .i64 a,.int .i64 b,.slice wY ku wZ,.slice xb kv xd,.slice oF kL oG,.int .u8 fk,.int .i64 fn,.string fs,.int .u8 tk,.int .i64 tn,.string ts];rw[World.size_alloc] at hZ;have hB:=ah.then (aa W (.cells #[.int .u8 kind,.string name,.slice BO kt BP,.string time,.int .i64 every,.string space,.int .i64 parts,.slice Qc Qd Qe,.string qf,.bool qy,.slice Qf Qg Qh,.slice Qi Qj Qk,.slice Ql Qm Qn,.slice Qo Qp Qq,.slice Qr Qs Qt,.int .u8 what,.string cf,.int .i64 a,.int .i64 b,.slice BQ ku BR,.slice BS kv BU,.slice sQ kL sR,.int .u8 fk,.int .i64 fn,.string fs,.int .u8 tk,.int .i64 tn,.string ts] 35)) (aa _ (.cells #[.int .u8 kind,.string name,.slice wW kt wX,.string time,.int .i64 every,.string space,.int .i64 parts,.slice DR DT DU,.string Z5,.bool Z6,.slice DV DX DY,.slice DZ Ea Eb,.slice Ec Ed Ee,.slice Ef Eg Eh,.slice Ei Ej Ek,.int .u8 what,.string cf,.int .i64 a,.int .i64 b,.slice wY ku wZ,.slice xb kv xd,.slice oF kL oG,.int .u8 fk,.int .i64 fn,.string fs,.int .u8 tk,.int .i64 tn,.string ts] 35))
 have x0:=hX.cell 0;have z0:=hZ.cell 0;have x1:=hX.cell 1;have z1:=hZ.cell 1;have x2:=hX.cell 2;have z2:=hZ.cell 2;have x3:=hX.cell 3;have z3:=hZ.cell 3;have x4:=hX.cell 4;have z4:=hZ.cell 4;have x5:=hX.cell 5;have z5:=hZ.cell 5;have x6:=hX.cell 6;have z6:=hZ.cell 6;have x7:=hX.cell 7;have z7:=hZ.cell 7;have x8:=hX.cell 8;have z8:=hZ.cell 8;have x9:=hX.cell 9;have z9:=hZ.cell 9;have VS:=hX.cell 10;have z10:=hZ.cell 10;have VT:=hX.cell 11;have z11:=hZ.cell 11;have VU:=hX.cell 12;have z12:=hZ.cell 12;have VV:=hX.cell 13;have z13:=hZ.cell 13;have VW:=hX.cell 14;have z14:=hZ.cell 14;have x15:=hX.cell 15;have z15:=hZ.cell 15;have x16:=hX.cell 16;have z16:=hZ.cell 16;have x17:=hX.cell 17;have z17:=hZ.cell 17;have x18:=hX.cell 18;have z18:=hZ.cell 18;have Nb:=hX.cell 19;have Wb:=hZ.cell 19;have Yy:=hX.cell 20;have z20:=hZ.cell 20;have P8:=hX.cell 21;have z21:=hZ.cell 21;have x22:=hX.cell 22;have z22:=hZ.cell 22;have x23:=hX.cell 23;have z23:=hZ.cell 23;have x24:=hX.cell 24;have z24:=hZ.cell 24;have x25:=hX.cell 25;have z25:=hZ.cell 25;have x26:=hX.cell 26;have z26:=hZ.cell 26;have x27:=hX.cell 27;have z27:=hZ.cell 27;simp only[List.getElem?_toArray,List.getElem?_cons_zero,List.getElem?_cons_succ] at x0 z0 x1 z1 x2 z2 x3 z3 x4 z4 x5 z5 x6 z6 x7 z7 x8 z8 x9 z9 VS z10 VT z11 VU z12 VV z13 VW z14 x15 z15 x16 z16 x17 z17 x18 z18 Nb Wb Yy z20 P8 z21 x22 z22 x23 z23 x24 z24 x25 z25 x26 z26 x27 z27;have e0:(name.toList != name.toList)=false:=by simp
 have e1:(time.toList != time.toList)=false:=by simp
 have e2:(space.toList != space.toList)=false:=by simp
 have e3:(cf.toList != cf.toList)=false:=by simp
 have e4:(kind != kind)=false:=by simp
 have e5:(every != every)=false:=by simp
 have e6:(parts != parts)=false:=by simp
 have e7:(what != what)=false:=by simp
 have e8:(a != a)=false:=by simp
 have e9:(b != b)=false:=by simp
 have e10:(fk==fk)=true:=by simp
 have e11:(fn==fn)=true:=by simp
 have e12:(tk==tk)=true:=by simp
 have e13:(tn==tn)=true:=by simp
 have e14:(fs.toList==fs.toList)=true:=by simp
 have e15:(ts.toList==ts.toList)=true:=by simp
 have e16:((kt:Int) !=(kt:Int))=false:=by simp
 have e17:((ku:Int) !=(ku:Int))=false:=by simp
 have e18:((kv:Int) !=(kv:Int))=false:=by simp
 go_upto_region 1 with fail
 change Code.wp _ _ _ _ ((W.alloc (.cells #[.int .u8 kind,.string name,.slice BO kt BP,.string time,.int .i64 every,.string space,.int .i64 parts,.slice Qc Qd Qe,.string qf,.bool qy,.slice Qf Qg Qh,.slice Qi Qj Qk,.slice Ql Qm Qn,.slice Qo Qp Qq,.slice Qr Qs Qt,.int .u8 what,.string cf,.int .i64 a,.int .i64 b,.slice BQ ku BR,.slice BS kv BU,.slice sQ kL sR,.int .u8 fk,.int .i64 fn,.string fs,.int .u8 tk,.int .i64 tn,.string ts] 35)).alloc (.cells #[.int .u8 kind,.string name,.slice wW kt wX,.string time,.int .i64 every,.string space,.int .i64 parts,.slice DR DT DU,.string Z5,.bool Z6,.slice DV DX DY,.slice DZ Ea Eb,.slice Ec Ed Ee,.slice Ef Eg Eh,.slice Ei Ej Ek,.int .u8 what,.string cf,.int .i64 a,.int .i64 b,.slice wY ku wZ,.slice xb kv xd,.slice oF kL oG,.int .u8 fk,.int .i64 fn,.string fs,.int .u8 tk,.int .i64 tn,.string ts] 35));have CE:=hid (hW.trans (hB.mono hW.size));generalize hQX:W.heap.size=QX at*;generalize hQZ:QX+1=QZ at*;generalize hW1:((W.alloc _).alloc _)=W1 at*;have HX:=hid hX;have HZ:=hid hZ;have HB:=hid hB;have oq:=hid hQX;clear hX hZ hB hQX hQZ hW1;go_wp2_with fail;refine(HWH.out _ CE.out).mono ?_;rintro e V1 ⟨rfl,b1⟩;have hb1:=b1;replace x0:=(b1.cell (ay x0)).trans x0;replace z0:=(b1.cell (ay z0)).trans z0;replace x1:=(b1.cell (ay x1)).trans x1;replace z1:=(b1.cell (ay z1)).trans z1;replace x2:=(b1.cell (ay x2)).trans x2;replace z2:=(b1.cell (ay z2)).trans z2;replace x3:=(b1.cell (ay x3)).trans x3;replace z3:=(b1.cell (ay z3)).trans z3;replace x4:=(b1.cell (ay x4)).trans x4;replace z4:=(b1.cell (ay z4)).trans z4;replace x5:=(b1.cell (ay x5)).trans x5;replace z5:=(b1.cell (ay z5)).trans z5;replace x6:=(b1.cell (ay x6)).trans x6;replace z6:=(b1.cell (ay z6)).trans z6;replace x7:=(b1.cell (ay x7)).trans x7;replace z7:=(b1.cell (ay z7)).trans z7;replace x8:=(b1.cell (ay x8)).trans x8;replace z8:=(b1.cell (ay z8)).trans z8;replace x9:=(b1.cell (ay x9)).trans x9;replace z9:=(b1.cell (ay z9)).trans z9;replace VS:=(b1.cell (ay VS)).trans VS;replace z10:=(b1.cell (ay z10)).trans z10;replace VT:=(b1.cell (ay VT)).trans VT;replace z11:=(b1.cell (ay z11)).trans z11;replace VU:=(b1.cell (ay VU)).trans VU;replace z12:=(b1.cell (ay z12)).trans z12;replace VV:=(b1.cell (ay VV)).trans VV;replace z13:=(b1.cell (ay z13)).trans z13;replace VW:=(b1.cell (ay VW)).trans VW;replace z14:=(b1.cell (ay z14)).trans z14;replace x15:=(b1.cell (ay x15)).trans x15;replace z15:=(b1.cell (ay z15)).trans z15;replace x16:=(b1.cell (ay x16)).trans x16;replace z16:=(b1.cell (ay z16)).trans z16;replace x17:=(b1.cell (ay x17)).trans x17;replace z17:=(b1.cell (ay z17)).trans z17
 replace x18:=(b1.cell (ay x18)).trans x18;replace z18:=(b1.cell (ay z18)).trans z18;replace Nb:=(b1.cell (ay Nb)).trans Nb;replace Wb:=(b1.cell (ay Wb)).trans Wb;replace Yy:=(b1.cell (ay Yy)).trans Yy;replace z20:=(b1.cell (ay z20)).trans z20;replace P8:=(b1.cell (ay P8)).trans P8;replace z21:=(b1.cell (ay z21)).trans z21;replace x22:=(b1.cell (ay x22)).trans x22;replace z22:=(b1.cell (ay z22)).trans z22;replace x23:=(b1.cell (ay x23)).trans x23;replace z23:=(b1.cell (ay z23)).trans z23;replace x24:=(b1.cell (ay x24)).trans x24;replace z24:=(b1.cell (ay z24)).trans z24;replace x25:=(b1.cell (ay x25)).trans x25;replace z25:=(b1.cell (ay z25)).trans z25;replace x26:=(b1.cell (ay x26)).trans x26;replace z26:=(b1.cell (ay z26)).trans z26;replace x27:=(b1.cell (ay x27)).trans x27;replace z27:=(b1.cell (ay z27)).trans z27;go_wp2_with fail;refine(HQU.out _ (CE.out.trans (hb1.mono CE.out.size))).mono ?_;rintro e V2 ⟨rfl,b2⟩;have hb2:=ah.then hb1 b2
 clear x0 z0 x1 z1 x2 z2 x3 z3 x4 z4 x5 z5 x6 z6 x7 z7 x8 z8 x9 z9 VS z10 VT z11 VU z12 VV z13 VW z14 x15 z15 x16 z16 x17 z17 x18 z18 Nb Wb Yy z20 P8 z21 x22 z22 x23 z23 x24 z24 x25 z25 x26 z26 x27 z27;go_wp2_with fail;clear e0 e1 e2 e3 e4 e5 e6 e7 e8 e9 e10 e11 e12 e13 e14 e15 e16 e17 e18;go_loopw [5] (fun iv wr=>∃i:Nat,i≤kt∧iv=.int .i64 i∧Below W1.heap.size W1 wr) (fun iv _=>kt - (intOf iv).toNat);case atStart=>exact⟨0,Nat.zero_le _,rfl,hb2⟩
 case round=>
  obtain⟨i,hi,rfl,iY⟩:=hrel;have x2:=(HX.out.later iY).cell 2;have z2:=(HZ.out.later iY).cell 2;simp only[List.getElem?_toArray,List.getElem?_cons_zero,List.getElem?_cons_succ] at x2 z2;have gI:=hid iY;by_cases hlt:i < kt
  ·obtain⟨x,hx⟩:∃x:ByteArray×Int,Ys[i]?=some x:=⟨_,List.getElem?_eq_getElem (by have h1:=FR.out;have h2:=Nv.out.len;omega)⟩;obtain⟨u,hu⟩:∃u:ByteArray×Int,Yt[i]?=some u:=⟨_,List.getElem?_eq_getElem (by have h1:=FR.out;have h2:=Nw.out.len;omega)⟩;obtain⟨t,ht⟩:∃t,Vi[i]?=some t:=⟨_,List.getElem?_eq_getElem (by have h1:=FR.out;omega)⟩;have r1:=jc Nv.out ht hx;have r2:=jc Nw.out ht hu;have hwr:Below w.heap.size w wr:=CE.out.trans (iY.mono CE.out.size);rcases S7.out with h0 |⟨b,off,uk,rq,hc⟩
   ·subst h0;simp at hx
   rcases S8.out with h0 |⟨b2,fS,xM,oB,hc2⟩
   ·subst h0;simp at hu
   have pz:b < wr.heap.size:=Nat.lt_of_lt_of_le (hS b rq) hwr.size;have jb:b2 < wr.heap.size:=Nat.lt_of_lt_of_le (ud b2 oB) hwr.size;have hcell:=fun j v hv=>(hwr.cell (p:=⟨b,off+i*2+j,none⟩) (hS b rq)).trans (hc i x j v hx hv)
   have cS:=fun j v hv=>(hwr.cell (p:=⟨b2,fS+i*2+j,none⟩) (ud b2 oB)).trans (hc2 i u j v hu hv)
   have k0:=fun q:Ext wr.heap.size wr=>(q.h.cell (p:=⟨b,off+i*2,none⟩) pz).trans (hcell 0 (.string x.1) rfl)
   have k1:=fun q:Ext wr.heap.size wr=>(q.h.cell (p:=⟨b,off+i*2+1,none⟩) pz).trans (hcell 1 (.int .u8 x.2) rfl)
   have m0:=fun q:Ext wr.heap.size wr=>(q.h.cell (p:=⟨b2,fS+i*2,none⟩) jb).trans (cS 0 (.string u.1) rfl)
   have m1:=fun q:Ext wr.heap.size wr=>(q.h.cell (p:=⟨b2,fS+i*2+1,none⟩) jb).trans (cS 1 (.int .u8 u.2) rfl)
   have p2:=fun q:Ext wr.heap.size wr=>(q.h.cell (p:=⟨QX,2,none⟩) (HX.out.later iY).lt).trans x2
   have p3:=fun q:Ext wr.heap.size wr=>(q.h.cell (p:=⟨QZ,2,none⟩) (HZ.out.later iY).lt).trans z2
   have heq:u=x:=by rw[show x=t from r1,show u=t from r2]
   subst heq;obtain⟨ua,ub⟩:=u;have f0:(ua.toList==ua.toList)=true:=by simp
   have f1:(ub==ub)=true:=by simp
   clear hcell cS hc hc2 hx hu ht hwr r1 r2;subst uk xM;go_upto_region 6 with fail
   clear x2 z2;refine fY 11 wr.heap.size wr (Below.refl _ _) (by kernel_rfl) (by kernel_rfl) (by kernel_rfl) (by kernel_rfl) ?_;simp only[List.take_succ_cons,List.take_zero,List.drop_succ_cons,List.drop_zero];repeat (go_big_quiet_step (fail))
   refine wpQuiet_nil ?_;rintro V4 ⟨x9,yD⟩;have xN:=x9.h;rw[← yD] at xN;have hb1:=ah.then gI.out xN
   clear yD x9 k0 m0 k1 m1 p2 p3 xN f0 f1;go_wp2_with fail;go_roundw;case rel=>exact⟨i+1,by omega,by go_num,hb1⟩
   case measure=>simp[intOf];omega
  ·obtain rfl:i=kt:=by omega
   go_wp2_with fail;clear x2 z2 iY;go_loopw [6] (fun iv wr=>∃i:Nat,i≤ku∧iv=.int .i64 i∧Below W1.heap.size W1 wr) (fun iv _=>ku - (intOf iv).toNat);case atStart=>exact⟨0,Nat.zero_le _,rfl,gI.out⟩
   case round=>
    obtain⟨i,hi,rfl,iY⟩:=hrel;have Nb:=(HX.out.later iY).cell 19;have Wb:=(HZ.out.later iY).cell 19;simp only[List.getElem?_toArray,List.getElem?_cons_zero,List.getElem?_cons_succ] at Nb Wb;have gI:=hid iY;by_cases hlt:i < ku
    ·obtain⟨x,hx⟩:∃x:Sl,Yu[i]?=some x:=⟨_,List.getElem?_eq_getElem (by have h1:=FT.out;have h2:=Nx.out.len;omega)⟩;obtain⟨u,hu⟩:∃u:Sl,Yv[i]?=some u:=⟨_,List.getElem?_eq_getElem (by have h1:=FT.out;have h2:=Ny.out.len;omega)⟩;obtain⟨t,ht⟩:∃t,Vj[i]?=some t:=⟨_,List.getElem?_eq_getElem (by have h1:=FT.out;omega)⟩;have r1:=jc Nx.out ht hx;have r2:=jc Ny.out ht hu;have hwr:Below w.heap.size w wr:=CE.out.trans (iY.mono CE.out.size);rcases S9.out with h0 |⟨b,off,uk,rq,hc⟩
     ·subst h0;simp at hx
     rcases T1.out with h0 |⟨b2,fS,xM,oB,hc2⟩
     ·subst h0;simp at hu
     have pz:b < wr.heap.size:=Nat.lt_of_lt_of_le (hS b rq) hwr.size;have jb:b2 < wr.heap.size:=Nat.lt_of_lt_of_le (ud b2 oB) hwr.size;have hcell:=fun j v hv=>(hwr.cell (p:=⟨b,off+i*1+j,none⟩) (hS b rq)).trans (hc i x j v hx hv)
     have cS:=fun j v hv=>(hwr.cell (p:=⟨b2,fS+i*1+j,none⟩) (ud b2 oB)).trans (hc2 i u j v hu hv)
     have S5:=hcell 0 (.slice x.A x.n x.c) rfl;simp only[Nat.mul_one,Nat.add_zero] at S5;have k0:=fun q:Ext wr.heap.size wr=>(q.h.cell (p:=⟨b,off+i,none⟩) pz).trans S5
     clear S5;have S6:=cS 0 (.slice u.A u.n u.c) rfl;simp only[Nat.mul_one,Nat.add_zero] at S6;have m0:=fun q:Ext wr.heap.size wr=>(q.h.cell (p:=⟨b2,fS+i,none⟩) jb).trans S6
     clear S6;have p2:=fun q:Ext wr.heap.size wr=>(q.h.cell (p:=⟨QX,19,none⟩) (HX.out.later iY).lt).trans Nb
     have p3:=fun q:Ext wr.heap.size wr=>(q.h.cell (p:=⟨QZ,19,none⟩) (HZ.out.later iY).lt).trans Wb
     have Yr:=T4.out t (List.mem_of_getElem? ht);have yX:=fun q:Ext wr.heap.size wr=>BI hS ud r1 r2 Yr.1 Yr.2 q.w (hwr.trans (q.h.mono hwr.size))
     clear Yr;clear hcell cS hc hc2 hx hu ht hwr r1 r2;subst uk xM;go_upto_region 11 with fail
     clear Nb Wb;refine fY 12 wr.heap.size wr (Below.refl _ _) (by kernel_rfl) (by kernel_rfl) (by kernel_rfl) (by kernel_rfl) ?_;simp only[List.take_succ_cons,List.take_zero,List.drop_succ_cons,List.drop_zero];repeat (go_big_quiet_step (fail))
     go_big_quiet_step ((go_at_call 27;exact ji (Nat.le_refl _) (yX _)));repeat (go_big_quiet_step (fail))
     refine wpQuiet_nil ?_;rintro V4 ⟨x9,yD⟩;have xN:=x9.h;rw[← yD] at xN;have hb1:=ah.then gI.out xN
     clear yD x9 k0 m0 p2 p3 xN yX;go_wp2_with fail;go_roundw;case rel=>exact⟨i+1,by omega,by go_num,hb1⟩
     case measure=>simp[intOf];omega
    ·obtain rfl:i=ku:=by omega
     go_wp2_with fail;clear Nb Wb iY;go_loopw [7] (fun iv wr=>∃i:Nat,i≤kv∧iv=.int .i64 i∧Below W1.heap.size W1 wr) (fun iv _=>kv - (intOf iv).toNat);case atStart=>exact⟨0,Nat.zero_le _,rfl,gI.out⟩
     case round=>
      obtain⟨i,hi,rfl,iY⟩:=hrel;have Yy:=(HX.out.later iY).cell 20;have z20:=(HZ.out.later iY).cell 20;simp only[List.getElem?_toArray,List.getElem?_cons_zero,List.getElem?_cons_succ] at Yy z20;have gI:=hid iY;by_cases hlt:i < kv
      ·obtain⟨x,hx⟩:∃x:ByteArray×Ex,Yw[i]?=some x:=⟨_,List.getElem?_eq_getElem (by have h1:=FU.out;have h2:=Nz.out.len;omega)⟩;obtain⟨u,hu⟩:∃u:ByteArray×Ex,Yx[i]?=some u:=⟨_,List.getElem?_eq_getElem (by have h1:=FU.out;have h2:=NA.out.len;omega)⟩;obtain⟨t,ht⟩:∃t,Vk[i]?=some t:=⟨_,List.getElem?_eq_getElem (by have h1:=FU.out;omega)⟩;have r1:=jc Nz.out ht hx;have r2:=jc NA.out ht hu;have hwr:Below w.heap.size w wr:=CE.out.trans (iY.mono CE.out.size);rcases T2.out with h0 |⟨b,off,uk,rq,hc⟩
       ·subst h0;simp at hx
       rcases T3.out with h0 |⟨b2,fS,xM,oB,hc2⟩
       ·subst h0;simp at hu
       have pz:b < wr.heap.size:=Nat.lt_of_lt_of_le (hS b rq) hwr.size;have jb:b2 < wr.heap.size:=Nat.lt_of_lt_of_le (ud b2 oB) hwr.size;have hcell:=fun j v hv=>(hwr.cell (p:=⟨b,off+i*8+j,none⟩) (hS b rq)).trans (hc i x j v hx hv)
       have cS:=fun j v hv=>(hwr.cell (p:=⟨b2,fS+i*8+j,none⟩) (ud b2 oB)).trans (hc2 i u j v hu hv)
       have k0:=fun q:Ext wr.heap.size wr=>(q.h.cell (p:=⟨b,off+i*8,none⟩) pz).trans (hcell 0 (.string x.1) rfl)
       have k1:=fun q:Ext wr.heap.size wr=>(q.h.cell (p:=⟨b,off+i*8+1,none⟩) pz).trans (hcell 1 (.int .u8 x.2.op) rfl)
       have k2:=fun q:Ext wr.heap.size wr=>(q.h.cell (p:=⟨b,off+i*8+2,none⟩) pz).trans (hcell 2 (.int .u8 x.2.v.k) rfl)
       have k3:=fun q:Ext wr.heap.size wr=>(q.h.cell (p:=⟨b,off+i*8+3,none⟩) pz).trans (hcell 3 (.int .i64 x.2.v.n) rfl)
       have k4:=fun q:Ext wr.heap.size wr=>(q.h.cell (p:=⟨b,off+i*8+4,none⟩) pz).trans (hcell 4 (.string x.2.v.s) rfl)
       have k5:=fun q:Ext wr.heap.size wr=>(q.h.cell (p:=⟨b,off+i*8+5,none⟩) pz).trans (hcell 5 (.string x.2.name) rfl)
       have k6:=fun q:Ext wr.heap.size wr=>(q.h.cell (p:=⟨b,off+i*8+6,none⟩) pz).trans (hcell 6 (.int .i64 x.2.width) rfl)
       have k7:=fun q:Ext wr.heap.size wr=>(q.h.cell (p:=⟨b,off+i*8+7,none⟩) pz).trans (hcell 7 (.slice x.2.A x.2.n x.2.c) rfl)
       have m0:=fun q:Ext wr.heap.size wr=>(q.h.cell (p:=⟨b2,fS+i*8,none⟩) jb).trans (cS 0 (.string u.1) rfl)
       have m1:=fun q:Ext wr.heap.size wr=>(q.h.cell (p:=⟨b2,fS+i*8+1,none⟩) jb).trans (cS 1 (.int .u8 u.2.op) rfl)
       have m2:=fun q:Ext wr.heap.size wr=>(q.h.cell (p:=⟨b2,fS+i*8+2,none⟩) jb).trans (cS 2 (.int .u8 u.2.v.k) rfl)
       have m3:=fun q:Ext wr.heap.size wr=>(q.h.cell (p:=⟨b2,fS+i*8+3,none⟩) jb).trans (cS 3 (.int .i64 u.2.v.n) rfl)
       have m4:=fun q:Ext wr.heap.size wr=>(q.h.cell (p:=⟨b2,fS+i*8+4,none⟩) jb).trans (cS 4 (.string u.2.v.s) rfl)
       have m5:=fun q:Ext wr.heap.size wr=>(q.h.cell (p:=⟨b2,fS+i*8+5,none⟩) jb).trans (cS 5 (.string u.2.name) rfl)
       have m6:=fun q:Ext wr.heap.size wr=>(q.h.cell (p:=⟨b2,fS+i*8+6,none⟩) jb).trans (cS 6 (.int .i64 u.2.width) rfl)
       have m7:=fun q:Ext wr.heap.size wr=>(q.h.cell (p:=⟨b2,fS+i*8+7,none⟩) jb).trans (cS 7 (.slice u.2.A u.2.n u.2.c) rfl)
       have p2:=fun q:Ext wr.heap.size wr=>(q.h.cell (p:=⟨QX,20,none⟩) (HX.out.later iY).lt).trans Yy
       have p3:=fun q:Ext wr.heap.size wr=>(q.h.cell (p:=⟨QZ,20,none⟩) (HZ.out.later iY).lt).trans z20
       have Yr:=hid (T5.out t (List.mem_of_getElem? ht));have yX:=fun q:Ext wr.heap.size wr=>Tr.zF hS ud t.2 x.2 u.2 r1.2 r2.2 Yr.out q.w (hwr.trans (q.h.mono hwr.size))
       have heq:u.1=x.1:=by rw[r1.1,r2.1]
       obtain⟨xa,x⟩:=x;obtain⟨ua,u⟩:=u;simp only at heq yX k0 m0 k1 m1 k2 m2 k3 m3 k4 m4 k5 m5 k6 m6 k7 m7;subst heq;have f0:(ua.toList != ua.toList)=false:=by simp
       unfold ee bl at yX;clear hcell cS hc hc2 hx hu ht hwr r1 r2;subst uk xM;go_upto_region 16 with fail
       clear Yy z20;refine fY 29 wr.heap.size wr (Below.refl _ _) (by kernel_rfl) (by kernel_rfl) (by kernel_rfl) (by kernel_rfl) ?_;simp only[List.take_succ_cons,List.take_zero,List.drop_succ_cons,List.drop_zero];repeat (go_big_quiet_step (fail))
       go_big_quiet_step ((go_at_call 29;exact ji (Nat.le_refl _) (yX _)));repeat (go_big_quiet_step (fail))
       refine wpQuiet_nil ?_;rintro V4 ⟨x9,yD⟩;have xN:=x9.h;rw[← yD] at xN;have hb1:=ah.then gI.out xN
       clear yD x9 k0 m0 k1 m1 k2 m2 k3 m3 k4 m4 k5 m5 k6 m6 k7 m7 p2 p3 xN yX f0;go_wp2_with fail;go_roundw;case rel=>exact⟨i+1,by omega,by go_num,hb1⟩
       case measure=>simp[intOf];omega
      ·obtain rfl:i=kv:=by omega
       go_wp2_with fail;go_ret;have h1:=HB.out;rw[← oq.out] at h1;exact⟨rfl,ah.then h1 gI.out⟩
def left {α:Type}:Except Nat (α×bH)→Nat
 | .error n=>n
 | .ok (_,r)=>r.length
def adP (t:Wd):Prop:=t.k=0∨t.k=4∧t.s=jQ
def Brd (s1 s2:bH)(K:Nat)(b:Bool):Prop:=
 (b=false→K=s1.length+1)∧(b=true→K=s1.length∧∃t1 r1 t2 r2,s1=t1::r1∧s2=t2::r2∧adP t1∧adP t2)
def Loc {α:Type}(s1 s2:bH)(K:Nat)(P:Ps α):Prop:=∀c:bH,K≤left (P (c++s1))→match P (c++s1)with
 | .error n=>s1.length≤n∧P (c++s2)=.error (n - s1.length+s2.length)
 | .ok (x,r)=>∃c',r=c'++s1∧P (c++s2)=.ok (x,c'++s2)
theorem cy.left {α:Type} {p:Ps α}(h:cy p)(l:bH):left (p l)≤l.length:=by
 cases e:p l with
 | error n=>exact(h.err e).1
 | ok y=>obtain⟨x,r⟩:=y;exact h.len e
variable {α β:Type} {s1 s2:bH} {K:Nat} {b:Bool}
theorem Brd.le (h:Brd s1 s2 K b):s1.length≤K:=by
 cases b with
 | false=>have:=h.1 rfl;omega
 | true=>have:=(h.2 rfl).1;omega
theorem Loc.err {P:Ps α}(h:Loc s1 s2 K P) {c:bH} {n:Nat}(e:P (c++s1)=.error n)(hk:K≤n):s1.length≤n∧P (c++s2)=.error (n - s1.length+s2.length):=by have:=h c (by rw[e];exact hk);rw[e] at this;exact this
theorem Loc.ok {P:Ps α}(h:Loc s1 s2 K P) {c r:bH} {x:α}(e:P (c++s1)=.ok (x,r))(hk:K≤r.length):∃c',r=c'++s1∧P (c++s2)=.ok (x,c'++s2):=by have:=h c (by rw[e];exact hk);rw[e] at this;exact this
theorem kY:∀(b:Bool) (r:List UInt8) (c:UInt8) (r1:List UInt8),bZ b r=c::r1→∃p,r=p++c::r1∧∀x,bZ b (p++x)=bZ false x
 | _,[],c,r1,h=>by simp[bZ] at h
 | true,c0::r0,c,r1,h=>by
   simp only[bZ] at h;split at h
   ·rename_i hc;obtain⟨p,hp,hx⟩:=kY false r0 c r1 h;exact⟨c0::p,by rw[hp];rfl,fun x=>by simp only[List.cons_append,bZ,if_pos hc,hx]⟩
   ·rename_i hc;obtain⟨p,hp,hx⟩:=kY true r0 c r1 h;exact⟨c0::p,by rw[hp];rfl,fun x=>by simp only[List.cons_append,bZ,if_neg hc,hx]⟩
 | false,c0::r0,c,r1,h=>by
   simp only[bZ] at h;split at h
   ·rename_i hc;obtain⟨p,hp,hx⟩:=kY false r0 c r1 h;exact⟨c0::p,by rw[hp];rfl,fun x=>by simp only[List.cons_append,bZ,if_pos hc,hx]⟩
   ·rename_i hc;split at h
    ·rename_i hm;obtain⟨p,hp,hx⟩:=kY true r0 c r1 h
     match p with
     | []=>
       exfalso;rw[List.nil_append] at hp;subst hp;have hc:c=45:=by simpa using hm.2
       subst hc;rw[show bZ true (45::r1)=bZ true r1 by simp[bZ]] at h;have:=iQ true r1;rw[h] at this;simp at this;omega
     | d::p=>
       have hd:d=45:=by have:=hm.2;rw[hp] at this;simpa using this
       refine⟨c0::d::p,by rw[hp];rfl,fun x=>?_⟩;have h1:c0=45∧(d::p++x).head?=some 45:=⟨hm.1,by simp[hd]⟩;rw[List.cons_append,bZ,if_neg hc,if_pos h1,hx]
    ·exact⟨[],by simpa using h,fun x=>rfl⟩
theorem Qv {b:Bool} {r r1:List UInt8} {c:UInt8}(h:bZ b r=c::r1):bZ false (c::r1)=c::r1:=by obtain⟨p,hp,hx⟩:=kY b r c r1 h;rw[← hx,← hp,h]
def Sep (x:List UInt8):Prop:=x=[]∨∃c r,x=c::r∧eH c=true
theorem yE {c:UInt8}(h:eH c=true):c=32∨c=9∨c=10∨c=13:=by simp only[eH,Bool.or_eq_true,beq_iff_eq] at h;rcases h with ((h | h)| h)| h <;> simp[h]
theorem Em {p:UInt8→Bool} {b x:List UInt8}(hb:∀c∈b,p c=true)(hx:x.head?.any p=false):(b++x).takeWhile p=b∧(b++x).dropWhile p=x:=by
 rw[List.takeWhile_append_of_pos hb,List.dropWhile_append_of_pos hb];cases x with
 | nil=>simp
 | cons d x=>
   have:p d=false:=by simpa using hx
   simp[List.takeWhile_cons,List.dropWhile_cons,this]
theorem NK (p:UInt8→Bool)(l:List UInt8):(l.dropWhile p).head?.any p=false:=by
 induction l with
 | nil=>rfl
 | cons c l ih=>
   rw[List.dropWhile_cons];split
   ·exact ih
   ·rename_i h;simpa using h
theorem Vl (p:UInt8→Bool)(l:List UInt8):∀c∈l.takeWhile p,p c=true:=fun c hc=>by have:=List.all_takeWhile (p:=p) (l:=l);exact List.all_eq_true.1 this c hc
theorem Yz {x:List UInt8}(h:Sep x)(p:UInt8→Bool)(h1:p 32=false)(h2:p 9=false)(h3:p 10=false)(h4:p 13=false):x.head?.any p=false:=by
 rcases h with rfl |⟨c,r,rfl,hc⟩
 ·rfl
 ·rcases yE hc with rfl | rfl | rfl | rfl <;> simpa
def Fits (rest y:List UInt8):Prop:=y.head?=rest.head?∨Sep y
theorem Fits.not {rest y:List UInt8}(h:Fits rest y)(p:UInt8→Bool)(hr:rest.head?.any p=false)(h1:p 32=false)(h2:p 9=false)(h3:p 10=false)(h4:p 13=false):y.head?.any p=false:=by
 rcases h with h | h
 ·rw[h];exact hr
 ·exact Yz h p h1 h2 h3 h4
theorem vv:∀(r:List UInt8) (t rest:List UInt8),eW r=some (t,rest)→rest.head?.any (· ==39)=false∧∃b,r=b++rest∧∀y,y.head?.any (· ==39)=false→eW (b++y)=some (t,y)
 | [],t,rest,h=>by simp[eW] at h
 | [c],t,rest,h=>by
   simp only[eW] at h;split at h
   ·rename_i hc;injection h with h;injection h with h1 h2;subst h1 h2 hc;refine⟨rfl,[39],rfl,fun y hy=>?_⟩;cases y with
    | nil=>rfl
    | cons d y=>have:¬d=39:=by simpa using hy
                simp[eW,this]
   ·cases h
 | c::d::r,t,rest,h=>by
   simp only[eW] at h;split at h
   ·rename_i hc;subst hc;split at h
    ·rename_i hd;subst hd;cases hr:eW r with
     | none=>rw[hr] at h;cases h
     | some x=>obtain⟨t',rest'⟩:=x;rw[hr] at h;simp only[Option.map_some,Option.some.injEq,Prod.mk.injEq] at h;obtain⟨rfl,rfl⟩:=h;obtain⟨h0,b,hb,hy⟩:=vv r t' _ hr;exact⟨h0,39::39::b,by rw[hb];rfl,fun y h=>by simp[eW,hy y h]⟩
    ·rename_i hd;injection h with h;injection h with h1 h2;subst h1 h2;refine⟨by simpa using hd,[39],rfl,fun y hy=>?_⟩;cases y with
     | nil=>rfl
     | cons d y=>have:¬d=39:=by simpa using hy
                 simp[eW,this]
   ·rename_i hc;cases hr:eW (d::r)with
    | none=>rw[hr] at h;cases h
    | some x=>
      obtain⟨t',rest'⟩:=x;rw[hr] at h;simp only[Option.map_some,Option.some.injEq,Prod.mk.injEq] at h;obtain⟨rfl,rfl⟩:=h;obtain⟨h0,b,hb,hy⟩:=vv (d::r) t' _ hr;refine⟨h0,c::b,by rw[hb];rfl,fun y h=>?_⟩;cases hby:b++y with
      | nil=>have h2:=hy y h;rw[hby] at h2;simp[eW] at h2
      | cons e z=>have h2:=hy y h;rw[hby] at h2;rw[List.cons_append,hby];simp[eW,hc,h2]
theorem Jx (c d:UInt8)(r r':List UInt8):gj signs (c::d::r)=gj signs (c::d::r'):=by simp[gj,signs,List.isPrefixOf]
theorem Vm {s:List UInt8}(hs:s∈signs) {x:List UInt8}(hx:Sep x):gj signs (s++x)=some s:=by
 simp only[signs,List.mem_cons,List.not_mem_nil,or_false] at hs;rcases hx with rfl |⟨c,r,rfl,hc⟩
 ·rcases hs with rfl | rfl | rfl | rfl | rfl | rfl | rfl | rfl | rfl | rfl | rfl | rfl | rfl | rfl | rfl <;> rfl
 ·rcases hs with rfl | rfl | rfl | rfl | rfl | rfl | rfl | rfl | rfl | rfl | rfl | rfl | rfl | rfl | rfl <;> rcases yE hc with rfl | rfl | rfl | rfl <;> rfl
theorem Vn {s:List UInt8}(hs:s∈signs):(∃c,s=[c])∨∃c d,s=[c,d]:=by simp only[signs,List.mem_cons,List.not_mem_nil,or_false] at hs;rcases hs with rfl | rfl | rfl | rfl | rfl | rfl | rfl | rfl | rfl | rfl | rfl | rfl | rfl | rfl | rfl <;> first | exact .inl ⟨_,rfl⟩| exact .inr ⟨_,_,rfl⟩
theorem Qw {s rest y:List UInt8}(h:gj signs (s++rest)=some s)(hf:Fits rest y):gj signs (s++y)=some s:=by
 have hs:=(mG h).1;rcases hf with hf | hf
 ·rcases Vn hs with ⟨c,rfl⟩|⟨c,d,rfl⟩
  ·cases rest with
   | nil=>
     cases y with
     | nil=>exact h
     | cons d y=>simp at hf
   | cons d rest=>
     cases y with
     | nil=>simp at hf
     | cons e y=>
       have:e=d:=by simpa using hf
       subst this;exact(Jx c e y rest).trans h
  ·exact(Jx c d y rest).trans h
 ·exact Vm hs hf
theorem Vo {r rest:List UInt8} {w:Wd}(h:eR r=.ok (w,rest)):∃b,r=b++rest∧b≠ []∧∀y,Fits rest y→eR (b++y)=.ok (w,y):=by
 match r with
 | []=>simp[eR] at h
 | c::r=>
   simp only[eR] at h;split at h
   ·rename_i hc;have hw:dD c=true:=by simp[dD,hc]
    split at h
    ·rename_i hl;injection h with h;injection h with h1 h2;subst h1 h2;have e:(c::r).takeWhile dD=c::r.takeWhile dD:=by simp[List.takeWhile_cons,hw]
     refine⟨_,(List.takeWhile_append_dropWhile (p:=dD)).symm,by rw[e];simp,fun y hy=>?_⟩;obtain⟨t1,t2⟩:=Em (Vl dD (c::r)) (hy.not dD (NK dD _) (by decide) (by decide) (by decide) (by decide));rw[e] at t1 t2 hl ⊢;rw[List.cons_append] at t1 t2 ⊢;simp only[eR,if_pos hc];rw[t1,t2,if_pos hl]
    ·cases h
   ·rename_i hc;split at h
    ·rename_i hd;split at h
     ·rename_i hl;injection h with h;injection h with h1 h2;subst h1 h2;have e:(c::r).takeWhile bp=c::r.takeWhile bp:=by simp[List.takeWhile_cons,hd]
      refine⟨_,(List.takeWhile_append_dropWhile (p:=bp)).symm,by rw[e];simp,fun y hy=>?_⟩;obtain⟨t1,t2⟩:=Em (Vl bp (c::r)) (hy.not bp (NK bp _) (by decide) (by decide) (by decide) (by decide));have hl2:=hl;simp only[Bool.and_eq_true,Bool.not_eq_true'] at hl2;have t3:=hy.not dr hl2.2 (by decide) (by decide) (by decide) (by decide);have t4:=hl2.1;rw[e] at t1 t2 t4 ⊢;rw[List.cons_append] at t1 t2 ⊢;simp only[eR,if_neg hc,if_pos hd];rw[t1,t2,t3,t4];rfl
     ·cases h
    ·rename_i hd;split at h
     ·rename_i hq;split at h
      ·rename_i t rest' ht;injection h with h;injection h with h1 h2;subst h1 h2;obtain⟨h0,b,hb,hy⟩:=vv _ _ _ ht;refine⟨c::b,by rw[hb];rfl,by simp,fun y hf=>?_⟩;have:=hy y (hf.not _ h0 (by decide) (by decide) (by decide) (by decide));simp only[List.cons_append,eR,if_neg hc,if_neg hd,if_pos hq,this]
      ·cases h
     ·rename_i hq;split at h
      ·rename_i s hs;injection h with h;injection h with h1 h2;subst h1 h2;obtain⟨h1,t,h2⟩:=mG hs;have hne:s≠ []:=by intro e;subst e;revert h1;decide
       refine⟨s,by rw[← h2];simp,hne,fun y hf=>?_⟩;have hst:(c::r).drop s.length=t:=by rw[← h2];simp
       rw[hst] at hf;rw[← h2] at hs;have:=Qw hs hf;cases s with
       | nil=>exact absurd rfl hne
       | cons d s=>
         have U2:d=c:=by simpa using congrArg List.head? h2
         subst U2;rw[List.cons_append] at this ⊢;simp only[eR,if_neg hc,if_neg hd,if_neg hq,this];simp
      ·cases h
inductive JI:List UInt8→List (Wd×Nat)→List UInt8→Prop
 | stop (r:List UInt8):JI r [] (bZ false r)
 | step {r r1 rest q:List UInt8} {c:UInt8} {w:Wd} {ws:List (Wd×Nat)} (hs:bZ false r=c::r1) (ho:eR (c::r1)=.ok (w,rest)) (h:JI rest ws q):JI r ((w,(c::r1).length)::ws) q
theorem JI.split {r q:List UInt8} {ws:List (Wd×Nat)}(h:JI r ws q)(hq:q≠ []):∃p,r=p++q∧∀y,Fits q y→JI (p++y) (ws.map fun x=>(x.1,x.2 - q.length+y.length)) (bZ false y):=by
 induction h with
 | stop r=>
   match hs:bZ false r with
   | []=>exact absurd hs hq
   | c::r1=>obtain⟨p,hp,hx⟩:=kY false r c r1 hs;exact⟨p,hp,fun y _=>by rw[← hx];exact .stop _⟩
 | @step r r1 rest q c w ws hs ho h ih=>
   obtain⟨p2,oh,QL⟩:=ih hq;obtain⟨p0,N6,hx0⟩:=kY false r c r1 hs;obtain⟨b,hb,ahM,ahN⟩:=Vo ho;refine⟨p0++(b++p2),by rw[N6,hb,oh];simp,fun y hy=>?_⟩;have hf2:Fits rest (p2++y):=by
    rw[oh];cases p2 with
    | nil=>exact hy
    | cons d p2=>exact .inl rfl
   have mC:=ahN _ hf2;have hlen:(c::r1).length - q.length+y.length=(b++(p2++y)).length:=by rw[hb,oh];simp;omega
   cases b with
   | nil=>exact absurd rfl ahM
   | cons d b=>
     have U2:d=c:=by have:=congrArg List.head? hb;simpa using this.symm
     subst U2;have hs2:bZ false (p0++((d::b)++p2)++y)=d::(b++(p2++y)):=by
      rw[show p0++((d::b)++p2)++y=p0++(d::(b++(p2++y))) by simp,hx0];have hst:=Qv hs;rw[hb] at hst
      -- the head decides,and the byte behind it
      have key:bZ false (d::(b++rest))=d::(b++rest):=hst;simp only[bZ] at key ⊢;split at key
      ·exfalso;have:=iQ false (b++rest);rw[key] at this;simp at this;omega
      ·rename_i hbl;rw[if_neg hbl];split at key
       ·exfalso;have:=iQ true (b++rest);rw[key] at this;simp at this;omega
       ·rename_i hm;rw[if_neg];rintro⟨rfl,hh⟩;apply hm;refine⟨rfl,?_⟩;cases b with
        | cons e b=>simpa using hh
        | nil=>
          rw[List.nil_append] at hh ⊢;rcases hf2 with hf2 | hf2
          ·rw[← hf2];exact hh
          ·rcases hf2 with h0 |⟨e,x,h0,CW⟩
           ·rw[h0] at hh;simp at hh
           ·rw[h0] at hh;simp at hh;subst hh;exact absurd CW (by decide)
     have:=JI.step (ws:=ws.map fun x=>(x.1,x.2 - q.length+y.length)) (q:=bZ false y) hs2 mC (QL y hy);rw[List.map_cons,hlen];exact this
end Go.Proofs.YtcneefmaghoejaaGreatDoor
