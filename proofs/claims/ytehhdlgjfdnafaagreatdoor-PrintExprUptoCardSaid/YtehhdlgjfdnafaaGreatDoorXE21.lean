/- Parts of the proof. -/
import Derived.Test.YtehhdlgjfdnafaaGreatDoorXE15
namespace Go.Proofs.YtehhdlgjfdnafaaGreatDoor
variable{p:Prop}
set_option maxHeartbeats 90000000
set_option maxRecDepth 100000
open Go.Lib (hid)
open Go.ChangeShapes Go.WideShapes Go.ChangeAt Go.RowKit Go.Shelf List
set_option linter.unusedVariables false
set_option linter.unusedSimpArgs false
variable{w0 ws W:World}{b n gx gf:Nat}{s:Option aT}{v:Val}{name:ByteArray}{width:Int}{A:Option Addr}{k cp:Nat}{T:Array Value}{q off c:Nat}{z0:Ex}{o0:Option aT}
theorem zfr.Kbz(h:p:=by go_wp2_with fail;refine(cn ⟨#[45,32]⟩ w1 H1.out.st Tac Taa).mono ?_;exact Zbk):p:=h
theorem zci.Kau(h:p:=by refine(iT ⟨3,v,name,width,some ⟨q,off,none⟩,1,cp⟩ 1 W).mono ?_;open zfr in exact Zdd):p:=h
theorem zaB.Kac(h:p:=by rw[show cT 3=false from rfl] at h5;open zci in exact ZaK):p:=h
theorem N7(hE:di w0)(hw:Below w0.heap.size w0 ws)   (hA:A=some ⟨q,off,none⟩)(hk:k=1)(hp:bu v name width=true)(a0:vv w0 q off z0)(i0:fC 97 b w0 z0 o0 c)(hn:n+c+1<=50000000)(hT:EH T b gx gf (3))(h:py w0 b s n ws W gx gf ⟨3,v,name,width,A,k,cp⟩)(hx:gx≠b)(hf:gf≠b):
  (iz qX 3).wp Tryz.prog (bodyPost Tryz.prog Tryz.f60 (aW w0.heap.size b (aq s (aq (some [45,32]) o0)) (n+c+1) ws)) { tmps:=T,defers:=[] } W:=by
 open zaB in exact Zac
theorem zfs.Kbz(h:p:=by go_wp2_with fail;refine(cn ⟨#[78,79,84,32]⟩ w1 H1.out.st Tac Taa).mono ?_;exact Zbk):p:=h
theorem zcj.Kau(h:p:=by refine(iT ⟨4,v,name,width,some ⟨q,off,none⟩,1,cp⟩ 1 W).mono ?_;open zfs in exact Zdd):p:=h
theorem zaC.Kac(h:p:=by rw[show cT 4=false from rfl] at h5;open zcj in exact ZaK):p:=h
theorem N8(hE:di w0)(hw:Below w0.heap.size w0 ws)   (hA:A=some ⟨q,off,none⟩)(hk:k=1)(hp:bu v name width=true)(a0:vv w0 q off z0)(i0:fC 97 b w0 z0 o0 c)(hn:n+c+1<=50000000)(hT:EH T b gx gf (4))(h:py w0 b s n ws W gx gf ⟨4,v,name,width,A,k,cp⟩)(hx:gx≠b)(hf:gf≠b):
  (iz qX 3).wp Tryz.prog (bodyPost Tryz.prog Tryz.f60 (aW w0.heap.size b (aq s (aq (some [78,79,84,32]) o0)) (n+c+1) ws)) { tmps:=T,defers:=[] } W:=by
 open zaC in exact Zac
theorem zdZ.Ka0(h:p:=by refine(cn ⟨#[32,73,83,32,78,85,76,76]⟩ w2 H2.out.st Tac Taa).mono ?_;exact ZcJ):p:=h
theorem zck.Kau(h:p:=by refine(iT ⟨18,v,name,width,some ⟨q,off,none⟩,1,cp⟩ 1 W).mono ?_;open zdZ in exact ZbE):p:=h
theorem zaD.Kac(h:p:=by rw[show cT 18=false from rfl] at h5;open zck in exact ZaK):p:=h
theorem Xa(hE:di w0)(hw:Below w0.heap.size w0 ws)   (hA:A=some ⟨q,off,none⟩)(hk:k=1)(hp:bu v name width=true)(a0:vv w0 q off z0)(i0:fC 97 b w0 z0 o0 c)(hn:n+c+1<=50000000)(hT:EH T b gx gf (18))(h:py w0 b s n ws W gx gf ⟨18,v,name,width,A,k,cp⟩)(hx:gx≠b)(hf:gf≠b):
  (iz qX 3).wp Tryz.prog (bodyPost Tryz.prog Tryz.f60 (aW w0.heap.size b (aq s (aq o0 (some [32,73,83,32,78,85,76,76]))) (n+c+1) ws)) { tmps:=T,defers:=[] } W:=by
 open zaD in exact Zac
theorem zd0.Ka0(h:p:=by refine(cn ⟨#[32,73,83,32,78,79,84,32,78,85,76,76]⟩ w2 H2.out.st Tac Taa).mono ?_;exact ZcJ):p:=h
theorem zcl.Kau(h:p:=by refine(iT ⟨19,v,name,width,some ⟨q,off,none⟩,1,cp⟩ 1 W).mono ?_;open zd0 in exact ZbE):p:=h
theorem zaE.Kac(h:p:=by rw[show cT 19=false from rfl] at h5;open zcl in exact ZaK):p:=h
theorem Kg(hE:di w0)(hw:Below w0.heap.size w0 ws)   (hA:A=some ⟨q,off,none⟩)(hk:k=1)(hp:bu v name width=true)(a0:vv w0 q off z0)(i0:fC 97 b w0 z0 o0 c)(hn:n+c+1<=50000000)(hT:EH T b gx gf (19))(h:py w0 b s n ws W gx gf ⟨19,v,name,width,A,k,cp⟩)(hx:gx≠b)(hf:gf≠b):
  (iz qX 3).wp Tryz.prog (bodyPost Tryz.prog Tryz.f60 (aW w0.heap.size b (aq s (aq o0 (some [32,73,83,32,78,79,84,32,78,85,76,76]))) (n+c+1) ws)) { tmps:=T,defers:=[] } W:=by
 open zaE in exact Zac
theorem CX (v:Val)(hv:v.Ok)(hs:v.s.size<=1048576):(lX v).length<=2097160:=by
 unfold lX;have h1:=Es v.s.data.toList;have h2:v.s.data.toList.length=v.s.size:=by simp
 split
 ·split
  ·simp
  ·split
   ·split <;> simp
   ·split
    ·have:=Lib.itoa_length_le v.n hv.1 hv.2;omega
    ·simp only[length_cons,length_append,length_nil];omega
 ·simp
theorem zdL.KaW(h:p:=by
 go_upto_region 5 with fail;go_cut [60] (λ _ wx=>py w0 b (aq s (bc C)) n ws wx gx gf ⟨1,v,name,width,A,k,cp⟩)
 case first=>
  have fin:∀(q:Bool) W' e w',q=C->py w0 b s n ws W' gx gf ⟨1,v,name,width,A,k,cp⟩->aW w0.heap.size b (aq s (bc q)) n W' e w'->e=.returned (.tuple #[])/\py w0 b (aq s (bc C)) n ws w' gx gf ⟨1,v,name,width,A,k,cp⟩:=λ q W' e w' hq h1 h2=>by subst hq;exact⟨h2.1,h1.next hx hf h2.2.1 h2.2.2⟩
  have GR:∀(q:Bool) W',q=C->py w0 b s n ws W' gx gf ⟨1,v,name,width,A,k,cp⟩->Calls Tryz.prog 36 #[.pointer (some ⟨b,0,none⟩),.bool q] W' λ e w'=>e=.returned (.tuple #[])/\py w0 b (aq s (bc C)) n ws w' gx gf ⟨1,v,name,width,A,k,cp⟩:=λ q W' hq h1=>(aX q W' h1.st).mono λ e w' h2=>fin q W' e w' hq h1 h2
  have MS:=hid GR;clear GR fin;by_cases c1:k=0
  ·subst c1;by_cases c2:name.toList=[]
   ·by_cases c3:width=0
    ·subst c3;have HV:=hid (vd v W);cases c4:good v
     ·skip;have jo:=hid (show false=C by rw[HC.out];simp[c4]);exact ZaN
     ·by_cases c5:v.k=2
      ·have t5:(v.k==2)=true:=by simpa using c5
       have t5':(v.k != 2)=false:=by simpa using c5
       clear c5;by_cases c6:0<=v.n
       ·have t6:decide (0<=v.n)=true:=decide_eq_true c6;have jo:=hid (show true=C by rw[HC.out];simp[c2,c4,c6]);exact ZaN
       ·have t6:decide (0<=v.n)=false:=decide_eq_false c6;have jo:=hid (show false=C by rw[HC.out];simp[c2,c4,t5',c6]);exact ZaN
      ·have t5:(v.k==2)=false:=by simpa using c5
       have t5':(v.k != 2)=true:=by simpa using c5
       clear c5;have jo:=hid (show true=C by rw[HC.out];simp[c2,c4,t5']);exact ZaN
    ·have t3:(width==0)=false:=by simpa using c3
     have jo:=hid (show false=C by rw[HC.out];simp[c3]);exact Zar
   ·skip;have jo:=hid (show false=C by rw[HC.out];simp[c2]);exact Zar
  ·have t1:((k:Int)==0)=false:=by simpa using c1
   have t2:(k==0)=false:=by simpa using c1
   have jo:=hid (show false=C by rw[HC.out];simp[t2]);exact Zar
 case rest=>
 have HW:=hid hcut;clear hcut HH HC x0 x1 x2 x3 x4 x5 x6;have hlen:(lX v).length<=2097160:=CX v hv hs;obtain⟨x0,x1,x2,x3,x4,x5,x6⟩:=HW.out.x.cells;dsimp only at x0 x1 x2 x3 x4 x5 x6;go_wp2_with fail;refine(CS v hv Taa wc (hE.ack (hw.trans HW.out.did.below))).mono ?_;rintro e w4 ⟨rfl,b4⟩;have H4:=hid (HW.out.later hsz b4);clear b4 HW x0 x1 x2 x3 x4 x5 x6;unfold strOf;go_wp2_with fail;refine(cn ⟨(lX v).toArray⟩ w4 H4.out.st (by show(lX v).toArray.size<=_;simp;omega) Taa).mono ?_;rintro e w5 ⟨rfl,h5,d5⟩;have H5:=hid (H4.out.next hx hf h5 d5);clear h5 d5 H4;exact Zds):p:=h
theorem zes.Kba(h:p:=by have HH:=hid h;clear h;obtain⟨C,hC⟩:∃C:Bool,C=(k==0 &&(name.toList== [] &&(width==0 &&(good v &&(v.k != 2 || decide (0<=v.n)))))):=⟨_,rfl⟩;rw[<- hC];have HC:=hid hC;clear hC;open zdL in exact Zby):p:=h
theorem zaF.Kac(h:p:=by open zes in exact Zb5):p:=h
theorem N3(hE:di w0)(hw:Below w0.heap.size w0 ws)(hv:v.Ok)(hs:v.s.size<=1048576)(hn:n<=49999990)(hT:EH T b gx gf (1))(h:py w0 b s n ws W gx gf ⟨1,v,name,width,A,k,cp⟩)(hx:gx≠b)(hf:gf≠b):
  (iz qX 3).wp Tryz.prog (bodyPost Tryz.prog Tryz.f60 (aW w0.heap.size b (aq s (aq (bc (k==0 &&(name.toList== [] &&(width==0 &&(good v &&(v.k != 2 || decide (0<=v.n))))))) (some (lX v)))) (n+1) ws)) { tmps:=T,defers:=[] } W:=by
 open zaF in exact Zac
theorem sj(hE:di w0)(v:Val)(hv:v.Ok)(hvs:v.s.size<=1048576)(w:World)(h:eu w0.heap.size b s n w)(hw:Below w0.heap.size w0 w)(hn:n<=49999990):
  Calls Tryz.prog 48 #[.pointer (some ⟨b,0,none⟩),.agg #[.int .u8 v.k,.int .i64 v.n,.string v.s]] w (aW w0.heap.size b (aq s (yy v)) (n+1) w):=by
 have ZL:=CX v hv hvs;have HG:=hid (λ W=>vd v W);have Tt:=hid (λ W hW=>CS v hv Taa W hW);obtain⟨C,hC⟩:∃C:Bool,C=(v.k==0 || v.k==2 && decide (-9223372036854775808 < v.n)):=⟨_,rfl⟩;have hout:yy v=aq (bc C) (aq (bc (good v)) (some (lX v))):=by unfold yy;rw[hC]
 obtain⟨gd,hgd⟩:∃gd,gd=good v:=⟨_,rfl⟩;obtain⟨wl,hwd⟩:∃wl,wl=lX v:=⟨_,rfl⟩;rw[<- hwd] at Tt ZL hout;rw[<- hgd] at HG hout;rw[hout];have HC:=hid hC;have HH:=hid h;have hsz:=h.size;have hlt:=h.lt;have Q8:=hv.1;clear h hout hC hgd hwd hv hvs;obtain⟨vk,vn,vs⟩:=v;dsimp only at HG Tt HC Q8 ⊢;go_enter Tryz.func48,Tryz.ntmps48;have HB:=hid (av.new w 32 #[.int .u8 vk,.int .i64 vn,.string vs]);have bx:=aa w (.cells #[.int .u8 vk,.int .i64 vn,.string vs] 32);have kG:w.heap.size≠b:=by omega
 go_upto_region 1 with fail;have HS:=hid (HH.out.later bx);have HD:=hid (ck.aA (b:=b) bx hsz);generalize w.alloc _=W1 at*;clear bx HH;obtain⟨x0,x1,x2⟩:=sO HB.out;go_cut [17] (λ _ wx=>eu w0.heap.size b (aq s (bc C)) n wx/\ck w0.heap.size b W1 wx)
 case first=>
  have GR:∀(q:Bool),q=C->Calls Tryz.prog 36 #[.pointer (some ⟨b,0,none⟩),.bool q] W1 λ e w'=>e=.returned (.tuple #[])/\eu w0.heap.size b (aq s (bc C)) n w'/\ck w0.heap.size b W1 w':=λ q hq=>(aX q W1 HS.out).mono λ e w' h2=>by subst hq;exact h2
  have MS:=hid GR;clear GR;by_cases c1:vk=0
  ·subst c1;have jo:=hid (show true=C by rw[HC.out];rfl);exact Za5
  ·have t1:(vk==0)=false:=by simpa using c1
   by_cases c2:vk=2
   ·subst c2;by_cases c3: -9223372036854775808 < vn
    ·have t3:decide (-9223372036854775808 < vn)=true:=decide_eq_true c3;have jo:=hid (show true=C by rw[HC.out,t3];rfl);exact Za5
    ·have t3:decide (-9223372036854775808 < vn)=false:=decide_eq_false c3;have jo:=hid (show false=C by rw[HC.out,t3];rfl);exact Za5
   ·have t2:(vk==2)=false:=by simpa using c2
    have jo:=hid (show false=C by rw[HC.out,t1,t2];rfl);clear c1 c2;exact Za5
 case rest=>
 obtain⟨h5,d5⟩:=hcut;have rk:=hid h5;have eC:=hid (HD.out.trans d5);have px:=hid (d5.blk HB.out kG Tac);clear h5 d5 HS HD HB HC x0 x1 x2;obtain⟨x0,x1,x2⟩:=sO px.out;go_wp2_with fail;refine(HG.out wc).mono ?_;rintro e w3 ⟨rfl,b3⟩;have HS3:=hid (rk.out.later b3);have jv:=hid (eC.out.later b3 hsz);have yX:=hid (av.later px.out b3);clear b3 rk eC px x0 x1 x2;go_wp2_with fail;refine(aX _ w3 HS3.out).mono ?_;rintro e w4 ⟨rfl,h4,d4⟩;have Q9:=hid h4;have oF:=hid (jv.out.trans d4);have Pl:=hid (d4.blk yX.out kG Tac);clear h4 d4 HS3 jv yX;obtain⟨x0,x1,x2⟩:=sO Pl.out;go_wp2_with fail;refine(Tt.out w4 (hE.ack (hw.trans oF.out.below))).mono ?_;rintro e w5 ⟨rfl,b5⟩;have Wf:=hid (Q9.out.later b5);have BP:=hid (oF.out.later b5 hsz);clear b5 Q9 oF Pl x0 x1 x2;unfold strOf;go_wp2_with fail;refine(cn ⟨wl.toArray⟩ w5 Wf.out (by show wl.toArray.size<=_;simp;omega) Taa).mono ?_;rintro e w6 ⟨rfl,h6,d6⟩;have HS6:=hid h6;have Jz:=hid (BP.out.trans d6);clear h6 d6 Wf BP;go_wp2_with fail;go_end0;refine⟨rfl,?_,Jz.out⟩;have:=HS6.out;exact Ze6
def pM (q:kM):Bool:=decide (q.items.n+q.aP.n+q.group.n+q.having.n+q.order.n+q.aQ.n=0)&&(q.aN.toList== [] && !q.only)
theorem Hz (q:kM)(h1:q.items.n<=1000000000)(h2:q.aP.n<=1000000000)(h3:q.group.n<=1000000000)(h4:q.having.n<=1000000000)(h5:q.order.n<=1000000000)(h6:q.aQ.n<=1000000000)(w:World):
  Calls Tryz.prog 82 #[GJ q] w λ e w'=>e=.returned (.bool (pM q))/\Below w.heap.size w w':=by
 obtain⟨⟨iA,i,ic⟩,aN,only,⟨wA,wn,wc⟩,⟨gA,gn,gc⟩,⟨hA,hn,hc⟩,⟨oA,on,oc⟩,⟨lA,ln,lc⟩⟩:=q;dsimp only at h1 h2 h3 h4 h5 h6;unfold GJ jE eU;go_enter Tryz.func82,Tryz.ntmps82;by_cases c1:i+wn+gn+hn+on+ln=0
 ·obtain⟨rfl,rfl,rfl,rfl,rfl,rfl⟩:i=0/\wn=0/\gn=0/\hn=0/\on=0/\ln=0:=by omega
  clear h1 h2 h3 h4 h5 h6 c1;go_wp2_with fail
  all_goals
   go_ret;refine⟨?_,by go_grown⟩;simp_all[pM]
 ·have t1:((((((i:Int)+wn)+gn)+hn)+on)+ln==0)=false:=by simp;omega
  have t2:decide (i+wn+gn+hn+on+ln=0)=false:=decide_eq_false c1;clear c1;go_wp2_with fail
  all_goals
   go_ret;refine⟨?_,by go_grown⟩;simp only[pM,t2];simp
def Fi (x y:Val):Bool:=x.k==y.k &&(x.n==y.n && x.s.toList==y.s.toList)
def Ia (x y:fX):Bool:=
 ((x.aY.n:Int)==(y.aY.n:Int))&&((x.time.toList==y.time.toList)&&((x.every==y.every)&&((x.space.toList==y.space.toList)&&((x.parts==y.parts)&&((pM x.query==pM y.query)&&((x.what==y.what)&&((x.cI.toList==y.cI.toList)&&((x.a==y.a)&&((x.b==y.b)&&(((x.rows.n:Int)==(y.rows.n:Int))&&(((x.bF.n:Int)==(y.bF.n:Int))&&(((x.aP.n:Int)==(y.aP.n:Int))&&(Fi x.aN y.aN && Fi x.dH y.dH)))))))))))))
structure Ib (x:fX):Prop where
 i:x.query.items.n<=1000000000
 w:x.query.aP.n<=1000000000
 g:x.query.group.n<=1000000000
 h:x.query.having.n<=1000000000
 o:x.query.order.n<=1000000000
 l:x.query.aQ.n<=1000000000
theorem Tu (x y:fX)(hx:Ib x)(hy:Ib y)(w:World):
  Calls Tryz.prog 37 #[mC x,mC y] w λ e w'=>e=.returned (.bool (Ia x y))/\Below w.heap.size w w':=by
 have NX:=hid (λ W=>Hz x.query hx.i hx.w hx.g hx.h hx.o hx.l W);have NY:=hid (λ W=>Hz y.query hy.i hy.w hy.g hy.h hy.o hy.l W);obtain⟨r,hr⟩:∃r,r=Ia x y:=⟨_,rfl⟩;rw[<- hr];obtain⟨nx,yh⟩:∃nx,nx=pM x.query:=⟨_,rfl⟩;obtain⟨ny,hny⟩:∃ny,ny=pM y.query:=⟨_,rfl⟩;rw[<- yh] at NX;rw[<- hny] at NY;unfold Ia at hr;rw[<- yh,<- hny] at hr;clear hx hy yh hny;obtain⟨xk0,xna,⟨xcA,xcn,xcc⟩,xti,xev,xsp,xpa,⟨⟨xiA,xin,xic⟩,xqf,xqo,⟨xwA,xwn,xwc⟩,⟨xgA,xgn,xgc⟩,⟨xhA,xhn,xhc⟩,⟨xoA,xon,xoc⟩,⟨xlA,xln,xlc⟩⟩,xwh,xof,xa,xb,⟨xrA,xrn,xrc⟩,⟨xsA,xsn,xsc⟩,⟨xxA,xxn,xxc⟩,⟨xfk,xfn,xfs⟩,⟨xtk,xtn,xts⟩⟩:=x;obtain⟨yk0,yna,⟨ycA,ycn,ycc⟩,yti,yev,ysp,ypa,⟨⟨yiA,yin,yic⟩,yqf,yqo,⟨ywA,ywn,ywc⟩,⟨ygA,ygn,ygc⟩,⟨yhA,yhn,yhc⟩,⟨yoA,yon,yoc⟩,⟨ylA,yln,ylc⟩⟩,ywh,yof,ya,yb,⟨yrA,yrn,yrc⟩,⟨ysA,ysn,ysc⟩,⟨yxA,yxn,yxc⟩,⟨yfk,yfn,yfs⟩,⟨ytk,ytn,yts⟩⟩:=y;dsimp only at hr NX NY;unfold GJ jE eU at NX NY;unfold mC bI jE fg eU;simp only[cons_append,nil_append];obtain⟨c0,hc0⟩:∃c:Bool,((xcn:Int)==(ycn:Int))=c:=⟨_,rfl⟩;rw[hc0] at hr;have C0:=hid hc0;obtain⟨b0,hb0⟩:∃b:Bool,b=c0:=⟨_,rfl⟩;have B0:=hid hb0;obtain⟨c1,hc1⟩:∃c:Bool,(xti.toList==yti.toList)=c:=⟨_,rfl⟩;rw[hc1] at hr;have C1:=hid hc1;obtain⟨b1,hb1⟩:∃b:Bool,b=(b0 && c1):=⟨_,rfl⟩;have B1:=hid hb1;obtain⟨c2,hc2⟩:∃c:Bool,(xev==yev)=c:=⟨_,rfl⟩;rw[hc2] at hr;have C2:=hid hc2;obtain⟨b2,hb2⟩:∃b:Bool,b=(b1 && c2):=⟨_,rfl⟩;have B2:=hid hb2;obtain⟨c3,hc3⟩:∃c:Bool,(xsp.toList==ysp.toList)=c:=⟨_,rfl⟩;rw[hc3] at hr;have C3:=hid hc3;obtain⟨b3,hb3⟩:∃b:Bool,b=(b2 && c3):=⟨_,rfl⟩;have B3:=hid hb3;obtain⟨c4,QU⟩:∃c:Bool,(xpa==ypa)=c:=⟨_,rfl⟩
 rw[QU] at hr;have C4:=hid QU;obtain⟨b4,hb4⟩:∃b:Bool,b=(b3 && c4):=⟨_,rfl⟩;have B4:=hid hb4;obtain⟨c5,hc5⟩:∃c:Bool,(nx==ny)=c:=⟨_,rfl⟩;rw[hc5] at hr;have C5:=hid hc5;obtain⟨b5,Xy⟩:∃b:Bool,b=(b4 && c5):=⟨_,rfl⟩;have B5:=hid Xy;obtain⟨c6,hc6⟩:∃c:Bool,(xwh==ywh)=c:=⟨_,rfl⟩;rw[hc6] at hr;have C6:=hid hc6;obtain⟨b6,Tv⟩:∃b:Bool,b=(b5 && c6):=⟨_,rfl⟩;have B6:=hid Tv;obtain⟨c7,Wh⟩:∃c:Bool,(xof.toList==yof.toList)=c:=⟨_,rfl⟩;rw[Wh] at hr;have C7:=hid Wh;obtain⟨b7,Xz⟩:∃b:Bool,b=(b6 && c7):=⟨_,rfl⟩;have B7:=hid Xz;obtain⟨c8,hc8⟩:∃c:Bool,(xa==ya)=c:=⟨_,rfl⟩;rw[hc8] at hr;have C8:=hid hc8;obtain⟨b8,hb8⟩:∃b:Bool,b=(b7 && c8):=⟨_,rfl⟩;have B8:=hid hb8;obtain⟨c9,QV⟩:∃c:Bool,(xb==yb)=c:=⟨_,rfl⟩;rw[QV] at hr;have C9:=hid QV;obtain⟨b9,KR⟩:∃b:Bool,b=(b8 && c9):=⟨_,rfl⟩;have B9:=hid KR;obtain⟨c10,R2⟩:∃c:Bool,((xrn:Int)==(yrn:Int))=c:=⟨_,rfl⟩;rw[R2] at hr;have C10:=hid R2;obtain⟨vQ,R3⟩:∃b:Bool,b=(b9 && c10):=⟨_,rfl⟩;have B10:=hid R3;obtain⟨c11,R4⟩:∃c:Bool,((xsn:Int)==(ysn:Int))=c:=⟨_,rfl⟩;rw[R4] at hr;have C11:=hid R4;obtain⟨vR,R5⟩:∃b:Bool,b=(vQ && c11):=⟨_,rfl⟩;have B11:=hid R5;obtain⟨c12,R6⟩:∃c:Bool,((xxn:Int)==(yxn:Int))=c:=⟨_,rfl⟩;rw[R6] at hr;have C12:=hid R6;obtain⟨vS,R7⟩:∃b:Bool,b=(vR && c12):=⟨_,rfl⟩;have B12:=hid R7;obtain⟨c13,R8⟩:∃c:Bool,(Fi ⟨xfk,xfn,xfs⟩ ⟨yfk,yfn,yfs⟩)=c:=⟨_,rfl⟩;rw[R8] at hr;have C13:=hid R8;obtain⟨AO,R9⟩:∃b:Bool,b=(vS && c13):=⟨_,rfl⟩;have B13:=hid R9;obtain⟨c14,S0⟩:∃c:Bool,(Fi ⟨xtk,xtn,xts⟩ ⟨ytk,ytn,yts⟩)=c:=⟨_,rfl⟩;rw[S0] at hr;have C14:=hid S0;obtain⟨S1,S4⟩:∃b:Bool,b=(AO && c14):=⟨_,rfl⟩
 have B14:=hid S4;have HR:=hid (show r=S1 by rw[hr,S4,R9,R7,R5,R3,KR,hb8,Xz,Tv,Xy,hb4,hb3,hb2,hb1,hb0];simp only[Bool.and_assoc]);clear hr hc0 hb0 hc1 hb1 hc2 hb2 hc3 hb3 QU hb4 hc5 Xy hc6 Tv Wh Xz hc8 hb8 QV KR R2 R3 R4 R5 R6 R7 R8 R9 S0 S4;go_enter Tryz.func37,Tryz.ntmps37;go_upto_region 1 with fail;simp only[List.append,cons_append,nil_append];have HX:=hid ((av.new w 34 #[.int .u8 xk0,.string xna,.slice xcA xcn xcc,.string xti,.int .i64 xev,.string xsp,.int .i64 xpa,.slice xiA xin xic,.string xqf,.bool xqo,.slice xwA xwn xwc,.slice xgA xgn xgc,.slice xhA xhn xhc,.slice xoA xon xoc,.slice xlA xln xlc,.int .u8 xwh,.string xof,.int .i64 xa,.int .i64 xb,.slice xrA xrn xrc,.slice xsA xsn xsc,.slice xxA xxn xxc,.int .u8 xfk,.int .i64 xfn,.string xfs,.int .u8 xtk,.int .i64 xtn,.string xts]).alloc (.cells #[.int .u8 yk0,.string yna,.slice ycA ycn ycc,.string yti,.int .i64 yev,.string ysp,.int .i64 ypa,.slice yiA yin yic,.string yqf,.bool yqo,.slice ywA ywn ywc,.slice ygA ygn ygc,.slice yhA yhn yhc,.slice yoA yon yoc,.slice ylA yln ylc,.int .u8 ywh,.string yof,.int .i64 ya,.int .i64 yb,.slice yrA yrn yrc,.slice ysA ysn ysc,.slice yxA yxn yxc,.int .u8 yfk,.int .i64 yfn,.string yfs,.int .u8 ytk,.int .i64 ytn,.string yts] 34));have hy0:=av.new (w.alloc (.cells #[.int .u8 xk0,.string xna,.slice xcA xcn xcc,.string xti,.int .i64 xev,.string xsp,.int .i64 xpa,.slice xiA xin xic,.string xqf,.bool xqo,.slice xwA xwn xwc,.slice xgA xgn xgc,.slice xhA xhn xhc,.slice xoA xon xoc,.slice xlA xln xlc,.int .u8 xwh,.string xof,.int .i64 xa,.int .i64 xb,.slice xrA xrn xrc,.slice xsA xsn xsc,.slice xxA xxn xxc,.int .u8 xfk,.int .i64 xfn,.string xfs,.int .u8 xtk,.int .i64 xtn,.string xts] 34)) 34 #[.int .u8 yk0,.string yna,.slice ycA ycn ycc,.string yti,.int .i64 yev,.string ysp,.int .i64 ypa,.slice yiA yin yic,.string yqf,.bool yqo,.slice ywA ywn ywc,.slice ygA ygn ygc,.slice yhA yhn yhc,.slice yoA yon yoc,.slice ylA yln ylc,.int .u8 ywh,.string yof,.int .i64 ya,.int .i64 yb,.slice yrA yrn yrc,.slice ysA ysn ysc,.slice yxA yxn yxc,.int .u8 yfk,.int .i64 yfn,.string yfs,.int .u8 ytk,.int .i64 ytn,.string yts]
 rw[World.size_alloc] at hy0;have HY:=hid hy0;have HB:=hid (af.then (aa w (.cells #[.int .u8 xk0,.string xna,.slice xcA xcn xcc,.string xti,.int .i64 xev,.string xsp,.int .i64 xpa,.slice xiA xin xic,.string xqf,.bool xqo,.slice xwA xwn xwc,.slice xgA xgn xgc,.slice xhA xhn xhc,.slice xoA xon xoc,.slice xlA xln xlc,.int .u8 xwh,.string xof,.int .i64 xa,.int .i64 xb,.slice xrA xrn xrc,.slice xsA xsn xsc,.slice xxA xxn xxc,.int .u8 xfk,.int .i64 xfn,.string xfs,.int .u8 xtk,.int .i64 xtn,.string xts] 34)) (aa _ (.cells #[.int .u8 yk0,.string yna,.slice ycA ycn ycc,.string yti,.int .i64 yev,.string ysp,.int .i64 ypa,.slice yiA yin yic,.string yqf,.bool yqo,.slice ywA ywn ywc,.slice ygA ygn ygc,.slice yhA yhn yhc,.slice yoA yon yoc,.slice ylA yln ylc,.int .u8 ywh,.string yof,.int .i64 ya,.int .i64 yb,.slice yrA yrn yrc,.slice ysA ysn ysc,.slice yxA yxn yxc,.int .u8 yfk,.int .i64 yfn,.string yfs,.int .u8 ytk,.int .i64 ytn,.string yts] 34)));clear hy0;generalize World.alloc (World.alloc w _) _=W at*;refine cE 114 (λ i _ v=>v=([.pointer (some ⟨w.heap.size,2,none⟩),.slice xcA xcn xcc,.int .i64 (xcn:Nat),.pointer (some ⟨(w.heap.size+1),2,none⟩),.slice ycA ycn ycc,.int .i64 (ycn:Nat),.bool c0,.bool b0,(cond b0 (.pointer (some ⟨w.heap.size,3,none⟩)) undef),(cond b0 (.string xti) undef),(cond b0 (.pointer (some ⟨(w.heap.size+1),3,none⟩)) undef),(cond b0 (.string yti) undef),(cond b0 (.bool c1) undef),.bool b1,.bool b1,(cond b1 (.pointer (some ⟨w.heap.size,4,none⟩)) undef),(cond b1 (.int .i64 xev) undef),(cond b1 (.pointer (some ⟨(w.heap.size+1),4,none⟩)) undef),(cond b1 (.int .i64 yev) undef),(cond b1 (.bool c2) undef),.bool b2,.bool b2,(cond b2 (.pointer (some ⟨w.heap.size,5,none⟩)) undef),(cond b2 (.string xsp) undef),(cond b2 (.pointer (some ⟨(w.heap.size+1),5,none⟩)) undef),(cond b2 (.string ysp) undef),(cond b2 (.bool c3) undef),.bool b3,.bool b3,(cond b3 (.pointer (some ⟨w.heap.size,6,none⟩)) undef),(cond b3 (.int .i64 xpa) undef),(cond b3 (.pointer (some ⟨(w.heap.size+1),6,none⟩)) undef),(cond b3 (.int .i64 ypa) undef),(cond b3 (.bool c4) undef),.bool b4,.bool b4,(cond b4 (.pointer (some ⟨w.heap.size,7,none⟩)) undef),(cond b4 (.agg #[.slice xiA xin xic,.string xqf,.bool xqo,.slice xwA xwn xwc,.slice xgA xgn xgc,.slice xhA xhn xhc,.slice xoA xon xoc,.slice xlA xln xlc]) undef),(cond b4 (.bool nx) undef),(cond b4 (.pointer (some ⟨(w.heap.size+1),7,none⟩)) undef),(cond b4 (.agg #[.slice yiA yin yic,.string yqf,.bool yqo,.slice ywA ywn ywc,.slice ygA ygn ygc,.slice yhA yhn yhc,.slice yoA yon yoc,.slice ylA yln ylc]) undef),(cond b4 (.bool ny) undef),(cond b4 (.bool c5) undef),.bool b5,.bool b5,(cond b5 (.pointer (some ⟨w.heap.size,15,none⟩)) undef),(cond b5 (.int .u8 xwh) undef),(cond b5 (.pointer (some ⟨(w.heap.size+1),15,none⟩)) undef),(cond b5 (.int .u8 ywh) undef),(cond b5 (.bool c6) undef),.bool b6,.bool b6,(cond b6 (.pointer (some ⟨w.heap.size,16,none⟩)) undef),(cond b6 (.string xof) undef),(cond b6 (.pointer (some ⟨(w.heap.size+1),16,none⟩)) undef),(cond b6 (.string yof) undef),(cond b6 (.bool c7) undef),.bool b7,.bool b7,(cond b7 (.pointer (some ⟨w.heap.size,17,none⟩)) undef),(cond b7 (.int .i64 xa) undef),(cond b7 (.pointer (some ⟨(w.heap.size+1),17,none⟩)) undef),(cond b7 (.int .i64 ya) undef),(cond b7 (.bool c8) undef),.bool b8,.bool b8,(cond b8 (.pointer (some ⟨w.heap.size,18,none⟩)) undef),(cond b8 (.int .i64 xb) undef),(cond b8 (.pointer (some ⟨(w.heap.size+1),18,none⟩)) undef),(cond b8 (.int .i64 yb) undef),(cond b8 (.bool c9) undef),.bool b9,.bool b9,(cond b9 (.pointer (some ⟨w.heap.size,19,none⟩)) undef),(cond b9 (.slice xrA xrn xrc) undef),(cond b9 (.int .i64 (xrn:Nat)) undef),(cond b9 (.pointer (some ⟨(w.heap.size+1),19,none⟩)) undef),(cond b9 (.slice yrA yrn yrc) undef),(cond b9 (.int .i64 (yrn:Nat)) undef),(cond b9 (.bool c10) undef),.bool vQ,.bool vQ,(cond vQ (.pointer (some ⟨w.heap.size,20,none⟩)) undef),(cond vQ (.slice xsA xsn xsc) undef),(cond vQ (.int .i64 (xsn:Nat)) undef),(cond vQ (.pointer (some ⟨(w.heap.size+1),20,none⟩)) undef),(cond vQ (.slice ysA ysn ysc) undef),(cond vQ (.int .i64 (ysn:Nat)) undef),(cond vQ (.bool c11) undef),.bool vR,.bool vR,(cond vR (.pointer (some ⟨w.heap.size,21,none⟩)) undef),(cond vR (.slice xxA xxn xxc) undef),(cond vR (.int .i64 (xxn:Nat)) undef),(cond vR (.pointer (some ⟨(w.heap.size+1),21,none⟩)) undef),(cond vR (.slice yxA yxn yxc) undef),(cond vR (.int .i64 (yxn:Nat)) undef),(cond vR (.bool c12) undef),.bool vS,.bool vS,(cond vS (.pointer (some ⟨w.heap.size,22,none⟩)) undef),(cond vS (.agg #[.int .u8 xfk,.int .i64 xfn,.string xfs]) undef),(cond vS (.pointer (some ⟨(w.heap.size+1),22,none⟩)) undef),(cond vS (.agg #[.int .u8 yfk,.int .i64 yfn,.string yfs]) undef),(cond vS (.bool c13) undef),.bool AO,.bool AO,(cond AO (.pointer (some ⟨w.heap.size,25,none⟩)) undef),(cond AO (.agg #[.int .u8 xtk,.int .i64 xtn,.string xts]) undef),(cond AO (.pointer (some ⟨(w.heap.size+1),25,none⟩)) undef),(cond AO (.agg #[.int .u8 ytk,.int .i64 ytn,.string yts]) undef),(cond AO (.bool c14) undef),.bool S1,.bool S1]:List Value).getD i undef) (λ i w w' v h _=>h) Tab Tab Tab ?_ ?_
 ·simp only[take_succ_cons,take_zero];refine⟨ZbK,?_,ZbK,ZbK,?_,ZbK,?_,?_,Zfu,?_,Zfu,?_,?_,?_,ZbK,Zfv,?_,Zfv,?_,?_,?_,ZbK,Zfw,?_,Zfw,?_,?_,?_,ZbK,Zfx,?_,Zfx,?_,?_,?_,ZbK,Zfy,?_,?_,Zfy,?_,?_,?_,?_,ZbK,Zfz,?_,Zfz,?_,?_,?_,ZbK,ZfA,?_,ZfA,?_,?_,?_,ZbK,ZfB,?_,ZfB,?_,?_,?_,ZbK,ZfC,?_,ZfC,?_,?_,?_,ZbK,Zcm,?_,Zcm,Zcm,?_,Zcm,?_,?_,ZbK,Zcn,?_,Zcn,Zcn,?_,Zcn,?_,?_,ZbK,Zco,?_,Zco,Zco,?_,Zco,?_,?_,ZbK,Zfb,?_,Zfb,?_,?_,?_,ZbK,Zfc,?_,Zfc,?_,?_,?_,ZbK,trivial⟩
  ·intro ρ w3 hc hL hr;have h0:_=_:=hr.1;have k2:=(av.later HX.out hL).cell 2;exact ZdD
  ·intro ρ w3 hc hL hr;have h0:_=_:=hr.1;have k2:=(av.later HY.out hL).cell 2;exact ZdD
  ·intro ρ w3 hc hL hr;have h0:_=_:=hr.1;have h1:_=_:=hr.2.1;have e:=C0.out;exact ae (v:=.bool c0) (w':=w3) Taj ⟨af.refl _,rfl⟩
  ·intro ρ w3 hc hL hr;have h0:_=_:=hr.1;have e:b0=c0:=B0.out;exact ae (v:=.bool b0) (w':=w3) (by rw[e];simp[go_sem,h0];done) ⟨af.refl _,rfl⟩
  ·intro ρ w3 hc hL hr;intro hg;have hg:ρ (.tmp 12)=.bool b0:=hg;cases b0
   ·exact Zae
   ·refine⟨λ _=>?_,λ hn=>absurd hg hn⟩;have h0:_=_:=hr.1;have k3:=(av.later HX.out hL).cell 3;exact ZdE
  ·intro ρ w3 hc hL hr;intro hg;have hg:ρ (.tmp 12)=.bool b0:=hg;cases b0
   ·exact Zae
   ·refine⟨λ _=>?_,λ hn=>absurd hg hn⟩;have h0:_=_:=hr.1;have k3:=(av.later HY.out hL).cell 3;exact ZdE
  ·intro ρ w3 hc hL hr;intro hg;have hg:ρ (.tmp 12)=.bool b0:=hg;cases b0
   ·exact Zae
   ·refine⟨λ _=>?_,λ hn=>absurd hg hn⟩;have h0:_=_:=hr.1;have h1:_=_:=hr.2.1;have e:=C1.out;exact ae (v:=.bool c1) (w':=w3) Taj ⟨af.refl _,rfl⟩
  ·intro ρ w3 hc hL hr;have h0:_=_:=hr.1;have h1:_=_:=hr.2.1;have e:=B1.out;cases b0
   ·have e2:b1=false:=by rw[e];rfl
    have h1:ρ (.tmp 17)=undef:=h1;exact Zfd
   ·have e2:b1=c1:=by rw[e];rfl
    have h1:ρ (.tmp 17)=.bool c1:=h1;exact Zfd
  ·intro ρ w3 hc hL hr;intro hg;have hg:ρ (.tmp 19)=.bool b1:=hg;cases b1
   ·exact Zae
   ·refine⟨λ _=>?_,λ hn=>absurd hg hn⟩;have h0:_=_:=hr.1;have k4:=(av.later HX.out hL).cell 4;exact ZdF
  ·intro ρ w3 hc hL hr;intro hg;have hg:ρ (.tmp 19)=.bool b1:=hg;cases b1
   ·exact Zae
   ·refine⟨λ _=>?_,λ hn=>absurd hg hn⟩;have h0:_=_:=hr.1;have k4:=(av.later HY.out hL).cell 4;exact ZdF
  ·intro ρ w3 hc hL hr;intro hg;have hg:ρ (.tmp 19)=.bool b1:=hg;cases b1
   ·exact Zae
   ·refine⟨λ _=>?_,λ hn=>absurd hg hn⟩;have h0:_=_:=hr.1;have h1:_=_:=hr.2.1;have e:=C2.out;exact ae (v:=.bool c2) (w':=w3) Taj ⟨af.refl _,rfl⟩
  ·intro ρ w3 hc hL hr;have h0:_=_:=hr.1;have h1:_=_:=hr.2.1;have e:=B2.out;cases b1
   ·have e2:b2=false:=by rw[e];rfl
    have h1:ρ (.tmp 24)=undef:=h1;exact Zfe
   ·have e2:b2=c2:=by rw[e];rfl
    have h1:ρ (.tmp 24)=.bool c2:=h1;exact Zfe
  ·intro ρ w3 hc hL hr;intro hg;have hg:ρ (.tmp 26)=.bool b2:=hg;cases b2
   ·exact Zae
   ·refine⟨λ _=>?_,λ hn=>absurd hg hn⟩;have h0:_=_:=hr.1;have k5:=(av.later HX.out hL).cell 5;exact ZdG
  ·intro ρ w3 hc hL hr;intro hg;have hg:ρ (.tmp 26)=.bool b2:=hg;cases b2
   ·exact Zae
   ·refine⟨λ _=>?_,λ hn=>absurd hg hn⟩;have h0:_=_:=hr.1;have k5:=(av.later HY.out hL).cell 5;exact ZdG
  ·intro ρ w3 hc hL hr;intro hg;have hg:ρ (.tmp 26)=.bool b2:=hg;cases b2
   ·exact Zae
   ·refine⟨λ _=>?_,λ hn=>absurd hg hn⟩;have h0:_=_:=hr.1;have h1:_=_:=hr.2.1;have e:=C3.out;exact ae (v:=.bool c3) (w':=w3) Taj ⟨af.refl _,rfl⟩
  ·intro ρ w3 hc hL hr;have h0:_=_:=hr.1;have h1:_=_:=hr.2.1;have e:=B3.out;cases b2
   ·have e2:b3=false:=by rw[e];rfl
    have h1:ρ (.tmp 31)=undef:=h1;exact Zff
   ·have e2:b3=c3:=by rw[e];rfl
    have h1:ρ (.tmp 31)=.bool c3:=h1;exact Zff
  ·intro ρ w3 hc hL hr;intro hg;have hg:ρ (.tmp 33)=.bool b3:=hg;cases b3
   ·exact Zae
   ·refine⟨λ _=>?_,λ hn=>absurd hg hn⟩;have h0:_=_:=hr.1;have k6:=(av.later HX.out hL).cell 6;exact ZdH
  ·intro ρ w3 hc hL hr;intro hg;have hg:ρ (.tmp 33)=.bool b3:=hg;cases b3
   ·exact Zae
   ·refine⟨λ _=>?_,λ hn=>absurd hg hn⟩;have h0:_=_:=hr.1;have k6:=(av.later HY.out hL).cell 6;exact ZdH
  ·intro ρ w3 hc hL hr;intro hg;have hg:ρ (.tmp 33)=.bool b3:=hg;cases b3
   ·exact Zae
   ·refine⟨λ _=>?_,λ hn=>absurd hg hn⟩;have h0:_=_:=hr.1;have h1:_=_:=hr.2.1;have e:=C4.out;exact ae (v:=.bool c4) (w':=w3) Taj ⟨af.refl _,rfl⟩
  ·intro ρ w3 hc hL hr;have h0:_=_:=hr.1;have h1:_=_:=hr.2.1;have e:=B4.out;cases b3
   ·have e2:b4=false:=by rw[e];rfl
    have h1:ρ (.tmp 38)=undef:=h1;exact Zfg
   ·have e2:b4=c4:=by rw[e];rfl
    have h1:ρ (.tmp 38)=.bool c4:=h1;exact Zfg
  ·intro ρ w3 hc hL hr;intro hg;have hg:ρ (.tmp 40)=.bool b4:=hg;cases b4
   ·exact Zae
   ·refine⟨λ _=>?_,λ hn=>absurd hg hn⟩;have h0:_=_:=hr.1;have k7:=(av.later HX.out hL).cell 7;have k8:=(av.later HX.out hL).cell 8;have k9:=(av.later HX.out hL).cell 9;have Pm:=(av.later HX.out hL).cell 10;have Pn:=(av.later HX.out hL).cell 11;have Po:=(av.later HX.out hL).cell 12;have Pp:=(av.later HX.out hL).cell 13;have Pq:=(av.later HX.out hL).cell 14;exact Zc4
  ·intro ρ w3 hc hL hr;intro hg;have hg:ρ (.tmp 40)=.bool b4:=hg;cases b4
   ·exact Zae
   ·refine⟨λ _=>?_,λ hn=>absurd hg hn⟩;have h0:_=_:=hr.1;have e1:=hc.func 82;refine dB (f:=82) (args:= #[.agg #[.slice xiA xin xic,.string xqf,.bool xqo,.slice xwA xwn xwc,.slice xgA xgn xgc,.slice xhA xhn xhc,.slice xoA xon xoc,.slice xlA xln xlc]]) (w':=w3) (by simp[go_sem,e1,h0];done) ?_;refine(NX.out w3).mono ?_;exact ZfU
  ·intro ρ w3 hc hL hr;intro hg;have hg:ρ (.tmp 40)=.bool b4:=hg;cases b4
   ·exact Zae
   ·refine⟨λ _=>?_,λ hn=>absurd hg hn⟩;have h0:_=_:=hr.1;have k7:=(av.later HY.out hL).cell 7;have k8:=(av.later HY.out hL).cell 8;have k9:=(av.later HY.out hL).cell 9;have Pm:=(av.later HY.out hL).cell 10;have Pn:=(av.later HY.out hL).cell 11;have Po:=(av.later HY.out hL).cell 12;have Pp:=(av.later HY.out hL).cell 13;have Pq:=(av.later HY.out hL).cell 14;exact Zc4
  ·intro ρ w3 hc hL hr;intro hg;have hg:ρ (.tmp 40)=.bool b4:=hg;cases b4
   ·exact Zae
   ·refine⟨λ _=>?_,λ hn=>absurd hg hn⟩;have h0:_=_:=hr.1;have e1:=hc.func 82;refine dB (f:=82) (args:= #[.agg #[.slice yiA yin yic,.string yqf,.bool yqo,.slice ywA ywn ywc,.slice ygA ygn ygc,.slice yhA yhn yhc,.slice yoA yon yoc,.slice ylA yln ylc]]) (w':=w3) (by simp[go_sem,e1,h0];done) ?_;refine(NY.out w3).mono ?_;exact ZfU
  ·intro ρ w3 hc hL hr;intro hg;have hg:ρ (.tmp 40)=.bool b4:=hg;cases b4
   ·exact Zae
   ·refine⟨λ _=>?_,λ hn=>absurd hg hn⟩;have h0:_=_:=hr.1;have h1:_=_:=hr.2.1;have e:=C5.out;exact ae (v:=.bool c5) (w':=w3) Taj ⟨af.refl _,rfl⟩
  ·intro ρ w3 hc hL hr;have h0:_=_:=hr.1;have h1:_=_:=hr.2.1;have e:=B5.out;cases b4
   ·have e2:b5=false:=by rw[e];rfl
    have h1:ρ (.tmp 47)=undef:=h1;exact Zfh
   ·have e2:b5=c5:=by rw[e];rfl
    have h1:ρ (.tmp 47)=.bool c5:=h1;exact Zfh
  ·intro ρ w3 hc hL hr;intro hg;have hg:ρ (.tmp 49)=.bool b5:=hg;cases b5
   ·exact Zae
   ·refine⟨λ _=>?_,λ hn=>absurd hg hn⟩;have h0:_=_:=hr.1;have S5:=(av.later HX.out hL).cell 15;exact ZdI
  ·intro ρ w3 hc hL hr;intro hg;have hg:ρ (.tmp 49)=.bool b5:=hg;cases b5
   ·exact Zae
   ·refine⟨λ _=>?_,λ hn=>absurd hg hn⟩;have h0:_=_:=hr.1;have S5:=(av.later HY.out hL).cell 15;exact ZdI
  ·intro ρ w3 hc hL hr;intro hg;have hg:ρ (.tmp 49)=.bool b5:=hg;cases b5
   ·exact Zae
   ·refine⟨λ _=>?_,λ hn=>absurd hg hn⟩;have h0:_=_:=hr.1;have h1:_=_:=hr.2.1;have e:=C6.out;exact ae (v:=.bool c6) (w':=w3) Taj ⟨af.refl _,rfl⟩
  ·intro ρ w3 hc hL hr;have h0:_=_:=hr.1;have h1:_=_:=hr.2.1;have e:=B6.out;cases b5
   ·have e2:b6=false:=by rw[e];rfl
    have h1:ρ (.tmp 54)=undef:=h1;exact Zfi
   ·have e2:b6=c6:=by rw[e];rfl
    have h1:ρ (.tmp 54)=.bool c6:=h1;exact Zfi
  ·intro ρ w3 hc hL hr;intro hg;have hg:ρ (.tmp 56)=.bool b6:=hg;cases b6
   ·exact Zae
   ·refine⟨λ _=>?_,λ hn=>absurd hg hn⟩;have h0:_=_:=hr.1;have k16:=(av.later HX.out hL).cell 16;exact Zdz
  ·intro ρ w3 hc hL hr;intro hg;have hg:ρ (.tmp 56)=.bool b6:=hg;cases b6
   ·exact Zae
   ·refine⟨λ _=>?_,λ hn=>absurd hg hn⟩;have h0:_=_:=hr.1;have k16:=(av.later HY.out hL).cell 16;exact Zdz
  ·intro ρ w3 hc hL hr;intro hg;have hg:ρ (.tmp 56)=.bool b6:=hg;cases b6
   ·exact Zae
   ·refine⟨λ _=>?_,λ hn=>absurd hg hn⟩;have h0:_=_:=hr.1;have h1:_=_:=hr.2.1;have e:=C7.out;exact ae (v:=.bool c7) (w':=w3) Taj ⟨af.refl _,rfl⟩
  ·intro ρ w3 hc hL hr;have h0:_=_:=hr.1;have h1:_=_:=hr.2.1;have e:=B7.out;cases b6
   ·have e2:b7=false:=by rw[e];rfl
    have h1:ρ (.tmp 61)=undef:=h1;exact Zfj
   ·have e2:b7=c7:=by rw[e];rfl
    have h1:ρ (.tmp 61)=.bool c7:=h1;exact Zfj
  ·intro ρ w3 hc hL hr;intro hg;have hg:ρ (.tmp 63)=.bool b7:=hg;cases b7
   ·exact Zae
   ·refine⟨λ _=>?_,λ hn=>absurd hg hn⟩;have h0:_=_:=hr.1;have k17:=(av.later HX.out hL).cell 17;exact ZdA
  ·intro ρ w3 hc hL hr;intro hg;have hg:ρ (.tmp 63)=.bool b7:=hg;cases b7
   ·exact Zae
   ·refine⟨λ _=>?_,λ hn=>absurd hg hn⟩;have h0:_=_:=hr.1;have k17:=(av.later HY.out hL).cell 17;exact ZdA
  ·intro ρ w3 hc hL hr;intro hg;have hg:ρ (.tmp 63)=.bool b7:=hg;cases b7
   ·exact Zae
   ·refine⟨λ _=>?_,λ hn=>absurd hg hn⟩;have h0:_=_:=hr.1;have h1:_=_:=hr.2.1;have e:=C8.out;exact ae (v:=.bool c8) (w':=w3) Taj ⟨af.refl _,rfl⟩
  ·intro ρ w3 hc hL hr;have h0:_=_:=hr.1;have h1:_=_:=hr.2.1;have e:=B8.out;cases b7
   ·have e2:b8=false:=by rw[e];rfl
    have h1:ρ (.tmp 68)=undef:=h1;exact Zfk
   ·have e2:b8=c8:=by rw[e];rfl
    have h1:ρ (.tmp 68)=.bool c8:=h1;exact Zfk
  ·intro ρ w3 hc hL hr;intro hg;have hg:ρ (.tmp 70)=.bool b8:=hg;cases b8
   ·exact Zae
   ·refine⟨λ _=>?_,λ hn=>absurd hg hn⟩;have h0:_=_:=hr.1;have k18:=(av.later HX.out hL).cell 18;exact ZdB
  ·intro ρ w3 hc hL hr;intro hg;have hg:ρ (.tmp 70)=.bool b8:=hg;cases b8
   ·exact Zae
   ·refine⟨λ _=>?_,λ hn=>absurd hg hn⟩;have h0:_=_:=hr.1;have k18:=(av.later HY.out hL).cell 18;exact ZdB
  ·intro ρ w3 hc hL hr;intro hg;have hg:ρ (.tmp 70)=.bool b8:=hg;cases b8
   ·exact Zae
   ·refine⟨λ _=>?_,λ hn=>absurd hg hn⟩;have h0:_=_:=hr.1;have h1:_=_:=hr.2.1;have e:=C9.out;exact ae (v:=.bool c9) (w':=w3) Taj ⟨af.refl _,rfl⟩
  ·intro ρ w3 hc hL hr;have h0:_=_:=hr.1;have h1:_=_:=hr.2.1;have e:=B9.out;cases b8
   ·have e2:b9=false:=by rw[e];rfl
    have h1:ρ (.tmp 75)=undef:=h1;exact Zfl
   ·have e2:b9=c9:=by rw[e];rfl
    have h1:ρ (.tmp 75)=.bool c9:=h1;exact Zfl
  ·intro ρ w3 hc hL hr;intro hg;have hg:ρ (.tmp 77)=.bool b9:=hg;cases b9
   ·exact Zae
   ·refine⟨λ _=>?_,λ hn=>absurd hg hn⟩;have h0:_=_:=hr.1;have S6:=(av.later HX.out hL).cell 19;exact ZdJ
  ·intro ρ w3 hc hL hr;intro hg;have hg:ρ (.tmp 77)=.bool b9:=hg;cases b9
   ·exact Zae
   ·refine⟨λ _=>?_,λ hn=>absurd hg hn⟩;have h0:_=_:=hr.1;have S6:=(av.later HY.out hL).cell 19;exact ZdJ
  ·intro ρ w3 hc hL hr;intro hg;have hg:ρ (.tmp 77)=.bool b9:=hg;cases b9
   ·exact Zae
   ·refine⟨λ _=>?_,λ hn=>absurd hg hn⟩;have h0:_=_:=hr.1;have h1:_=_:=hr.2.1;have e:=C10.out;exact ae (v:=.bool c10) (w':=w3) Taj ⟨af.refl _,rfl⟩
  ·intro ρ w3 hc hL hr;have h0:_=_:=hr.1;have h1:_=_:=hr.2.1;have e:=B10.out;cases b9
   ·have e2:vQ=false:=by rw[e];rfl
    have h1:ρ (.tmp 84)=undef:=h1;exact Zfm
   ·have e2:vQ=c10:=by rw[e];rfl
    have h1:ρ (.tmp 84)=.bool c10:=h1;exact Zfm
  ·intro ρ w3 hc hL hr;intro hg;have hg:ρ (.tmp 86)=.bool vQ:=hg;cases vQ
   ·exact Zae
   ·refine⟨λ _=>?_,λ hn=>absurd hg hn⟩;have h0:_=_:=hr.1;have S7:=(av.later HX.out hL).cell 20;exact ZdK
  ·intro ρ w3 hc hL hr;intro hg;have hg:ρ (.tmp 86)=.bool vQ:=hg;cases vQ
   ·exact Zae
   ·refine⟨λ _=>?_,λ hn=>absurd hg hn⟩;have h0:_=_:=hr.1;have S7:=(av.later HY.out hL).cell 20;exact ZdK
  ·intro ρ w3 hc hL hr;intro hg;have hg:ρ (.tmp 86)=.bool vQ:=hg;cases vQ
   ·exact Zae
   ·refine⟨λ _=>?_,λ hn=>absurd hg hn⟩;have h0:_=_:=hr.1;have h1:_=_:=hr.2.1;have e:=C11.out;exact ae (v:=.bool c11) (w':=w3) Taj ⟨af.refl _,rfl⟩
  ·intro ρ w3 hc hL hr;have h0:_=_:=hr.1;have h1:_=_:=hr.2.1;have e:=B11.out;cases vQ
   ·have e2:vR=false:=by rw[e];rfl
    have h1:ρ (.tmp 93)=undef:=h1;exact Zfn
   ·have e2:vR=c11:=by rw[e];rfl
    have h1:ρ (.tmp 93)=.bool c11:=h1;exact Zfn
  ·intro ρ w3 hc hL hr;intro hg;have hg:ρ (.tmp 95)=.bool vR:=hg;cases vR
   ·exact Zae
   ·refine⟨λ _=>?_,λ hn=>absurd hg hn⟩;have h0:_=_:=hr.1;have XA:=(av.later HX.out hL).cell 21;exact ZdL
  ·intro ρ w3 hc hL hr;intro hg;have hg:ρ (.tmp 95)=.bool vR:=hg;cases vR
   ·exact Zae
   ·refine⟨λ _=>?_,λ hn=>absurd hg hn⟩;have h0:_=_:=hr.1;have XA:=(av.later HY.out hL).cell 21;exact ZdL
  ·intro ρ w3 hc hL hr;intro hg;have hg:ρ (.tmp 95)=.bool vR:=hg;cases vR
   ·exact Zae
   ·refine⟨λ _=>?_,λ hn=>absurd hg hn⟩;have h0:_=_:=hr.1;have h1:_=_:=hr.2.1;have e:=C12.out;exact ae (v:=.bool c12) (w':=w3) Taj ⟨af.refl _,rfl⟩
  ·intro ρ w3 hc hL hr;have h0:_=_:=hr.1;have h1:_=_:=hr.2.1;have e:=B12.out;cases vR
   ·have e2:vS=false:=by rw[e];rfl
    have h1:ρ (.tmp 102)=undef:=h1;exact Zfo
   ·have e2:vS=c12:=by rw[e];rfl
    have h1:ρ (.tmp 102)=.bool c12:=h1;exact Zfo
  ·intro ρ w3 hc hL hr;intro hg;have hg:ρ (.tmp 104)=.bool vS:=hg;cases vS
   ·exact Zae
   ·refine⟨λ _=>?_,λ hn=>absurd hg hn⟩;have h0:_=_:=hr.1;have Fj:=(av.later HX.out hL).cell 22;have Fk:=(av.later HX.out hL).cell 23;have Fl:=(av.later HX.out hL).cell 24;exact Ze4
  ·intro ρ w3 hc hL hr;intro hg;have hg:ρ (.tmp 104)=.bool vS:=hg;cases vS
   ·exact Zae
   ·refine⟨λ _=>?_,λ hn=>absurd hg hn⟩;have h0:_=_:=hr.1;have Fj:=(av.later HY.out hL).cell 22;have Fk:=(av.later HY.out hL).cell 23;have Fl:=(av.later HY.out hL).cell 24;exact Ze4
  ·intro ρ w3 hc hL hr;intro hg;have hg:ρ (.tmp 104)=.bool vS:=hg;cases vS
   ·exact Zae
   ·refine⟨λ _=>?_,λ hn=>absurd hg hn⟩;have h0:_=_:=hr.1;have h1:_=_:=hr.2.1;have e:=C13.out;unfold Fi at e;dsimp only at e;by_cases q1:xfk=yfk
    ·subst q1;by_cases q2:xfn=yfn
     ·subst q2;by_cases q3:xfs.toList=yfs.toList
      ·skip;have e2:c13=true:=by rw[<- e];simp[q3]
       exact ZfE
      ·skip;have e2:c13=false:=by rw[<- e];simp[q3]
       exact ZfE
     ·skip;have e2:c13=false:=by rw[<- e];simp[q2]
      exact ae (v:=.bool c13) (w':=w3) (by rw[e2];simp[go_sem,h0,h1,q2];done) ⟨af.refl _,rfl⟩
    ·skip;have e2:c13=false:=by rw[<- e];simp[q1]
     exact ae (v:=.bool c13) (w':=w3) TaU ⟨af.refl _,rfl⟩
  ·intro ρ w3 hc hL hr;have h0:_=_:=hr.1;have h1:_=_:=hr.2.1;have e:=B13.out;cases vS
   ·have e2:AO=false:=by rw[e];rfl
    have h1:ρ (.tmp 109)=undef:=h1;exact Zfp
   ·have e2:AO=c13:=by rw[e];rfl
    have h1:ρ (.tmp 109)=.bool c13:=h1;exact Zfp
  ·intro ρ w3 hc hL hr;intro hg;have hg:ρ (.tmp 111)=.bool AO:=hg;cases AO
   ·exact Zae
   ·refine⟨λ _=>?_,λ hn=>absurd hg hn⟩;have h0:_=_:=hr.1;have Pr:=(av.later HX.out hL).cell 25;have Pt:=(av.later HX.out hL).cell 26;have Pu:=(av.later HX.out hL).cell 27;exact Zdr
  ·intro ρ w3 hc hL hr;intro hg;have hg:ρ (.tmp 111)=.bool AO:=hg;cases AO
   ·exact Zae
   ·refine⟨λ _=>?_,λ hn=>absurd hg hn⟩;have h0:_=_:=hr.1;have Pr:=(av.later HY.out hL).cell 25;have Pt:=(av.later HY.out hL).cell 26;have Pu:=(av.later HY.out hL).cell 27;exact Zdr
  ·intro ρ w3 hc hL hr;intro hg;have hg:ρ (.tmp 111)=.bool AO:=hg;cases AO
   ·exact Zae
   ·refine⟨λ _=>?_,λ hn=>absurd hg hn⟩;have h0:_=_:=hr.1;have h1:_=_:=hr.2.1;have e:=C14.out;unfold Fi at e;dsimp only at e;by_cases q1:xtk=ytk
    ·subst q1;by_cases q2:xtn=ytn
     ·subst q2;by_cases q3:xts.toList=yts.toList
      ·skip;have e2:c14=true:=by rw[<- e];simp[q3]
       exact ZfF
      ·skip;have e2:c14=false:=by rw[<- e];simp[q3]
       exact ZfF
     ·skip;have e2:c14=false:=by rw[<- e];simp[q2]
      exact ae (v:=.bool c14) (w':=w3) (by rw[e2];simp[go_sem,h0,h1,q2];done) ⟨af.refl _,rfl⟩
    ·skip;have e2:c14=false:=by rw[<- e];simp[q1]
     exact ae (v:=.bool c14) (w':=w3) TaU ⟨af.refl _,rfl⟩
  ·intro ρ w3 hc hL hr;have h0:_=_:=hr.1;have h1:_=_:=hr.2.1;have e:=B14.out;cases AO
   ·have e2:S1=false:=by rw[e];rfl
    have h1:ρ (.tmp 116)=undef:=h1;exact Zfq
   ·have e2:S1=c14:=by rw[e];rfl
    have h1:ρ (.tmp 116)=.bool c14:=h1;exact Zfq
 intro W2 hL;simp only[Uab];rintro a0 q0 a1 q1 a2 q2 a3 q3 a4 q4 a5 q5 a6 q6 a7 q7 a8 q8 a9 q9 a10 q10 a11 q11 a12 q12 a13 q13 S8 q14 a15 q15 a16 q16 a17 q17 a18 q18 a19 q19 a20 q20 a21 q21 a22 q22 a23 q23 a24 q24 a25 q25 a26 q26 a27 q27 a28 q28 a29 q29 a30 q30 a31 q31 a32 q32 a33 q33 a34 q34 a35 q35 a36 q36 a37 q37 a38 q38 a39 q39 a40 q40 a41 q41 a42 q42 a43 q43 a44 q44 a45 q45 a46 q46 a47 q47 a48 q48 a49 q49 a50 q50 a51 q51 a52 q52 a53 q53 a54 q54 a55 q55 a56 q56 a57 q57 a58 q58 a59 q59 a60 q60 a61 q61 a62 q62 a63 q63 a64 q64 a65 q65 a66 q66 a67 q67 a68 q68 a69 q69 a70 q70 a71 q71 a72 q72 a73 q73 a74 q74 a75 q75 a76 q76 a77 q77 a78 q78 a79 q79 a80 q80 a81 q81 a82 q82 a83 q83 a84 q84 a85 q85 a86 q86 a87 q87 a88 q88 a89 q89 a90 q90 a91 q91 a92 q92 a93 q93 a94 q94 a95 q95 a96 q96 a97 q97 a98 q98 a99 q99 aoQ aic aoR aid aoS aie aoT aif aoU aih a105 aii aoV aij a107 aik aoW ail a109 aim aoX ain aoY aio aoZ aip _ rfl;clear q0 q1 q2 q3 q4 q5 q6 q7 q8 q9 q10 q11 q12 q13 q14 q15 q16 q17 q18 q19 q20 q21 q22 q23 q24 q25 q26 q27 q28 q29 q30 q31 q32 q33 q34 q35 q36 q37 q38 q39 q40 q41 q42 q43 q44 q45 q46 q47 q48 q49 q50 q51 q52 q53 q54 q55 q56 q57 q58 q59 q60 q61 q62 q63 q64 q65 q66 q67 q68 q69 q70 q71 q72 q73 q74 q75 q76 q77 q78 q79 q80 q81 q82 q83 q84 q85 q86 q87 q88 q89 q90 q91 q92 q93 q94 q95 q96 q97 q98 q99 aic aid aie aif aih aii aij aik ail aim ain aio aip;simp only[cN,Act.put,Uac]
 have px:=hid (af.then HB.out hL);go_wp2_with fail;go_ret;exact⟨by rw[HR.out];rfl,px.out⟩
end Go.Proofs.YtehhdlgjfdnafaaGreatDoor
