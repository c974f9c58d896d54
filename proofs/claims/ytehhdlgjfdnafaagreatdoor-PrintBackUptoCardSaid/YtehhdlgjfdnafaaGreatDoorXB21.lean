/- Parts of the proof. -/
import Derived.Test.YtehhdlgjfdnafaaGreatDoorXB15
namespace Go.Proofs.YtehhdlgjfdnafaaGreatDoor
variable{p:Prop}
set_option maxHeartbeats 90000000
set_option maxRecDepth 100000
open Go.Lib (hid)
open Go.ChangeShapes Go.WideShapes Go.ChangeAt Go.RowKit Go.Shelf List
set_option linter.unusedVariables false
set_option linter.unusedSimpArgs false
variable{w0 ws W:World}{b n gx gf:Nat}{s:Option aV}{v:Val}{name:ByteArray}{width:Int}{A:Option Addr}{k cp:Nat}{T:Array Value}{q off c:Nat}{z0:Ex}{o0:Option aV}
theorem zf2.KbJ(h:p:=by go_wp2_with fail;refine(cA ⟨#[45,32]⟩ w1 H1.out.st Tab Taa).mono ?_;exact Zbr):p:=h
theorem zcv.Kaw(h:p:=by refine(js ⟨3,v,name,width,some ⟨q,off,none⟩,1,cp⟩ 1 W).mono ?_;open zf2 in exact Zdr):p:=h
theorem zaB.Kac(h:p:=by rw[show dc 3=false from rfl] at h5;open zcv in exact ZaN):p:=h
theorem aep(hE:dy w0)(hw:Below w0.heap.size w0 ws)   (hA:A=some ⟨q,off,none⟩)(hk:k=1)(hp:bF v name width=true)(a0:xr w0 q off z0)(i0:fZ 97 b w0 z0 o0 c)(hn:n+c+1<=50000000)(hT:Hx T b gx gf (3))(h:qg w0 b s n ws W gx gf ⟨3,v,name,width,A,k,cp⟩)(hx:gx≠b)(hf:gf≠b):
  (ja sk 3).wp Tryz.prog (bodyPost Tryz.prog Tryz.f60 (ba w0.heap.size b (aq s (aq (some [45,32]) o0)) (n+c+1) ws)) { tmps:=T,defers:=[] } W:=by
 open zaB in exact Zac
theorem zf3.KbJ(h:p:=by go_wp2_with fail;refine(cA ⟨#[78,79,84,32]⟩ w1 H1.out.st Tab Taa).mono ?_;exact Zbr):p:=h
theorem zcw.Kaw(h:p:=by refine(js ⟨4,v,name,width,some ⟨q,off,none⟩,1,cp⟩ 1 W).mono ?_;open zf3 in exact Zdr):p:=h
theorem zaC.Kac(h:p:=by rw[show dc 4=false from rfl] at h5;open zcw in exact ZaN):p:=h
theorem aeq(hE:dy w0)(hw:Below w0.heap.size w0 ws)   (hA:A=some ⟨q,off,none⟩)(hk:k=1)(hp:bF v name width=true)(a0:xr w0 q off z0)(i0:fZ 97 b w0 z0 o0 c)(hn:n+c+1<=50000000)(hT:Hx T b gx gf (4))(h:qg w0 b s n ws W gx gf ⟨4,v,name,width,A,k,cp⟩)(hx:gx≠b)(hf:gf≠b):
  (ja sk 3).wp Tryz.prog (bodyPost Tryz.prog Tryz.f60 (ba w0.heap.size b (aq s (aq (some [78,79,84,32]) o0)) (n+c+1) ws)) { tmps:=T,defers:=[] } W:=by
 open zaC in exact Zac
theorem zet.Ka8(h:p:=by refine(cA ⟨#[32,73,83,32,78,85,76,76]⟩ w2 H2.out.st Tab Taa).mono ?_;exact ZcX):p:=h
theorem zcx.Kaw(h:p:=by refine(js ⟨18,v,name,width,some ⟨q,off,none⟩,1,cp⟩ 1 W).mono ?_;open zet in exact ZbN):p:=h
theorem zaD.Kac(h:p:=by rw[show dc 18=false from rfl] at h5;open zcx in exact ZaN):p:=h
theorem S7(hE:dy w0)(hw:Below w0.heap.size w0 ws)   (hA:A=some ⟨q,off,none⟩)(hk:k=1)(hp:bF v name width=true)(a0:xr w0 q off z0)(i0:fZ 97 b w0 z0 o0 c)(hn:n+c+1<=50000000)(hT:Hx T b gx gf (18))(h:qg w0 b s n ws W gx gf ⟨18,v,name,width,A,k,cp⟩)(hx:gx≠b)(hf:gf≠b):
  (ja sk 3).wp Tryz.prog (bodyPost Tryz.prog Tryz.f60 (ba w0.heap.size b (aq s (aq o0 (some [32,73,83,32,78,85,76,76]))) (n+c+1) ws)) { tmps:=T,defers:=[] } W:=by
 open zaD in exact Zac
theorem zeu.Ka8(h:p:=by refine(cA ⟨#[32,73,83,32,78,79,84,32,78,85,76,76]⟩ w2 H2.out.st Tab Taa).mono ?_;exact ZcX):p:=h
theorem zcy.Kaw(h:p:=by refine(js ⟨19,v,name,width,some ⟨q,off,none⟩,1,cp⟩ 1 W).mono ?_;open zeu in exact ZbN):p:=h
theorem zaE.Kac(h:p:=by rw[show dc 19=false from rfl] at h5;open zcy in exact ZaN):p:=h
theorem ND(hE:dy w0)(hw:Below w0.heap.size w0 ws)   (hA:A=some ⟨q,off,none⟩)(hk:k=1)(hp:bF v name width=true)(a0:xr w0 q off z0)(i0:fZ 97 b w0 z0 o0 c)(hn:n+c+1<=50000000)(hT:Hx T b gx gf (19))(h:qg w0 b s n ws W gx gf ⟨19,v,name,width,A,k,cp⟩)(hx:gx≠b)(hf:gf≠b):
  (ja sk 3).wp Tryz.prog (bodyPost Tryz.prog Tryz.f60 (ba w0.heap.size b (aq s (aq o0 (some [32,73,83,32,78,79,84,32,78,85,76,76]))) (n+c+1) ws)) { tmps:=T,defers:=[] } W:=by
 open zaE in exact Zac
theorem Fu (v:Val)(hv:v.Ok)(hs:v.s.size<=1048576):(lV v).length<=2097160:=by
 unfold lV;have h1:=Hm v.s.data.toList;have h2:v.s.data.toList.length=v.s.size:=by simp
 split
 ·split
  ·simp
  ·split
   ·split <;> simp
   ·split
    ·have:=Lib.itoa_length_le v.n hv.1 hv.2;omega
    ·simp only[length_cons,length_append,length_nil];omega
 ·simp
theorem zef.Ka4(h:p:=by
 go_upto_region 5 with fail;go_cut [60] (λ _ wx=>qg w0 b (aq s (bg C)) n ws wx gx gf ⟨1,v,name,width,A,k,cp⟩)
 case first=>
  have fin:∀(q:Bool) W' e w',q=C->qg w0 b s n ws W' gx gf ⟨1,v,name,width,A,k,cp⟩->ba w0.heap.size b (aq s (bg q)) n W' e w'->e=.returned (.tuple #[])/\qg w0 b (aq s (bg C)) n ws w' gx gf ⟨1,v,name,width,A,k,cp⟩:=λ q W' e w' hq h1 h2=>by subst hq;exact⟨h2.1,h1.next hx hf h2.2.1 h2.2.2⟩
  have Kr:∀(q:Bool) W',q=C->qg w0 b s n ws W' gx gf ⟨1,v,name,width,A,k,cp⟩->Calls Tryz.prog 36 #[.pointer (some ⟨b,0,none⟩),.bool q] W' λ e w'=>e=.returned (.tuple #[])/\qg w0 b (aq s (bg C)) n ws w' gx gf ⟨1,v,name,width,A,k,cp⟩:=λ q W' hq h1=>(bh q W' h1.st).mono λ e w' h2=>fin q W' e w' hq h1 h2
  have MS:=hid Kr;clear Kr fin;by_cases c1:k=0
  ·subst c1;by_cases c2:name.toList=[]
   ·by_cases c3:width=0
    ·subst c3;have HV:=hid (xc v W);cases c4:good v
     ·skip;have jL:=hid (show false=C by rw[HC.out];simp[c4]);exact ZaQ
     ·by_cases c5:v.k=2
      ·have t5:(v.k==2)=true:=by simpa using c5
       have t5':(v.k != 2)=false:=by simpa using c5
       clear c5;by_cases c6:0<=v.n
       ·have t6:decide (0<=v.n)=true:=decide_eq_true c6;have jL:=hid (show true=C by rw[HC.out];simp[c2,c4,c6]);exact ZaQ
       ·have t6:decide (0<=v.n)=false:=decide_eq_false c6;have jL:=hid (show false=C by rw[HC.out];simp[c2,c4,t5',c6]);exact ZaQ
      ·have t5:(v.k==2)=false:=by simpa using c5
       have t5':(v.k != 2)=true:=by simpa using c5
       clear c5;have jL:=hid (show true=C by rw[HC.out];simp[c2,c4,t5']);exact ZaQ
    ·have t3:(width==0)=false:=by simpa using c3
     have jL:=hid (show false=C by rw[HC.out];simp[c3]);exact Zas
   ·skip;have jL:=hid (show false=C by rw[HC.out];simp[c2]);exact Zas
  ·have t1:((k:Int)==0)=false:=by simpa using c1
   have t2:(k==0)=false:=by simpa using c1
   have jL:=hid (show false=C by rw[HC.out];simp[t2]);exact Zas
 case rest=>
 have HW:=hid hcut;clear hcut HH HC x0 x1 x2 x3 x4 x5 x6;have hlen:(lV v).length<=2097160:=Fu v hv hs;obtain⟨x0,x1,x2,x3,x4,x5,x6⟩:=HW.out.x.cells;dsimp only at x0 x1 x2 x3 x4 x5 x6;go_wp2_with fail;refine(Fm v hv Taa wc (hE.aiv (hw.trans HW.out.did.below))).mono ?_;rintro e w4 ⟨rfl,b4⟩;have H4:=hid (HW.out.later hsz b4);clear b4 HW x0 x1 x2 x3 x4 x5 x6;unfold strOf;go_wp2_with fail;refine(cA ⟨(lV v).toArray⟩ w4 H4.out.st (by show(lV v).toArray.size<=_;simp;omega) Taa).mono ?_;rintro e w5 ⟨rfl,h5,d5⟩;have H5:=hid (H4.out.next hx hf h5 d5);clear h5 d5 H4;exact ZdH):p:=h
theorem zeU.Kbh(h:p:=by have HH:=hid h;clear h;obtain⟨C,hC⟩:∃C:Bool,C=(k==0 &&(name.toList== [] &&(width==0 &&(good v &&(v.k != 2 || decide (0<=v.n)))))):=⟨_,rfl⟩;rw[<- hC];have HC:=hid hC;clear hC;open zef in exact ZbH):p:=h
theorem zaF.Kac(h:p:=by open zeU in exact Zcf):p:=h
theorem aec(hE:dy w0)(hw:Below w0.heap.size w0 ws)(hv:v.Ok)(hs:v.s.size<=1048576)(hn:n<=49999990)(hT:Hx T b gx gf (1))(h:qg w0 b s n ws W gx gf ⟨1,v,name,width,A,k,cp⟩)(hx:gx≠b)(hf:gf≠b):
  (ja sk 3).wp Tryz.prog (bodyPost Tryz.prog Tryz.f60 (ba w0.heap.size b (aq s (aq (bg (k==0 &&(name.toList== [] &&(width==0 &&(good v &&(v.k != 2 || decide (0<=v.n))))))) (some (lV v)))) (n+1) ws)) { tmps:=T,defers:=[] } W:=by
 open zaF in exact Zac
theorem tu(hE:dy w0)(v:Val)(hv:v.Ok)(hvs:v.s.size<=1048576)(w:World)(h:eI w0.heap.size b s n w)(hw:Below w0.heap.size w0 w)(hn:n<=49999990):
  Calls Tryz.prog 48 #[.pointer (some ⟨b,0,none⟩),.agg #[.int .u8 v.k,.int .i64 v.n,.string v.s]] w (ba w0.heap.size b (aq s (xi v)) (n+1) w):=by
 have hwl:=Fu v hv hvs;have HG:=hid (λ W=>xc v W);have Xh:=hid (λ W hW=>Fm v hv Taa W hW);obtain⟨C,hC⟩:∃C:Bool,C=(v.k==0 || v.k==2 && decide (-9223372036854775808 < v.n)):=⟨_,rfl⟩;have hout:xi v=aq (bg C) (aq (bg (good v)) (some (lV v))):=by unfold xi;rw[hC]
 obtain⟨gd,hgd⟩:∃gd,gd=good v:=⟨_,rfl⟩;obtain⟨wl,hwd⟩:∃wl,wl=lV v:=⟨_,rfl⟩;rw[<- hwd] at Xh hwl hout;rw[<- hgd] at HG hout;rw[hout];have HC:=hid hC;have HH:=hid h;have hsz:=h.size;have hlt:=h.lt;have hv1:=hv.1;clear h hout hC hgd hwd hv hvs;obtain⟨vk,vn,vs⟩:=v;dsimp only at HG Xh HC hv1 ⊢;go_enter Tryz.func48,Tryz.ntmps48;have HB:=hid (av.new w 32 #[.int .u8 vk,.int .i64 vn,.string vs]);have bx:=aa w (.cells #[.int .u8 vk,.int .i64 vn,.string vs] 32);have lO:w.heap.size≠b:=by omega
 go_upto_region 1 with fail;have HS:=hid (HH.out.later bx);have HD:=hid (cy.aC (b:=b) bx hsz);generalize w.alloc _=W1 at*;clear bx HH;obtain⟨x0,x1,x2⟩:=uy HB.out;go_cut [17] (λ _ wx=>eI w0.heap.size b (aq s (bg C)) n wx/\cy w0.heap.size b W1 wx)
 case first=>
  have Kr:∀(q:Bool),q=C->Calls Tryz.prog 36 #[.pointer (some ⟨b,0,none⟩),.bool q] W1 λ e w'=>e=.returned (.tuple #[])/\eI w0.heap.size b (aq s (bg C)) n w'/\cy w0.heap.size b W1 w':=λ q hq=>(bh q W1 HS.out).mono λ e w' h2=>by subst hq;exact h2
  have MS:=hid Kr;clear Kr;by_cases c1:vk=0
  ·subst c1;have jL:=hid (show true=C by rw[HC.out];rfl);exact Zba
  ·have t1:(vk==0)=false:=by simpa using c1
   by_cases c2:vk=2
   ·subst c2;by_cases c3: -9223372036854775808 < vn
    ·have t3:decide (-9223372036854775808 < vn)=true:=decide_eq_true c3;have jL:=hid (show true=C by rw[HC.out,t3];rfl);exact Zba
    ·have t3:decide (-9223372036854775808 < vn)=false:=decide_eq_false c3;have jL:=hid (show false=C by rw[HC.out,t3];rfl);exact Zba
   ·have t2:(vk==2)=false:=by simpa using c2
    have jL:=hid (show false=C by rw[HC.out,t1,t2];rfl);clear c1 c2;exact Zba
 case rest=>
 obtain⟨h5,d5⟩:=hcut;have uD:=hid h5;have eP:=hid (HD.out.trans d5);have qc:=hid (d5.blk HB.out lO Tab);clear h5 d5 HS HD HB HC x0 x1 x2;obtain⟨x0,x1,x2⟩:=uy qc.out;go_wp2_with fail;refine(HG.out wc).mono ?_;rintro e w3 ⟨rfl,b3⟩;have HS3:=hid (uD.out.later b3);have jR:=hid (eP.out.later b3 hsz);have tq:=hid (av.later qc.out b3);clear b3 uD eP qc x0 x1 x2;go_wp2_with fail;refine(bh _ w3 HS3.out).mono ?_;rintro e w4 ⟨rfl,h4,d4⟩;have HS4:=hid h4;have pj:=hid (jR.out.trans d4);have VT:=hid (d4.blk tq.out lO Tab);clear h4 d4 HS3 jR tq;obtain⟨x0,x1,x2⟩:=uy VT.out;go_wp2_with fail;refine(Xh.out w4 (hE.aiv (hw.trans pj.out.below))).mono ?_;rintro e w5 ⟨rfl,b5⟩;have O0:=hid (HS4.out.later b5);have Eh:=hid (pj.out.later b5 hsz);clear b5 HS4 pj VT x0 x1 x2;unfold strOf;go_wp2_with fail;refine(cA ⟨wl.toArray⟩ w5 O0.out (by show wl.toArray.size<=_;simp;omega) Taa).mono ?_;rintro e w6 ⟨rfl,h6,d6⟩;have HS6:=hid h6;have MF:=hid (Eh.out.trans d6);clear h6 d6 O0 Eh;go_wp2_with fail;go_end0;refine⟨rfl,?_,MF.out⟩;have:=HS6.out;exact Zfl
def qh (q:lB):Bool:=decide (q.items.n+q.aR.n+q.group.n+q.having.n+q.order.n+q.aG.n=0)&&(q.aK.toList== [] && !q.only)
theorem Ks (q:lB)(h1:q.items.n<=1000000000)(h2:q.aR.n<=1000000000)(h3:q.group.n<=1000000000)(h4:q.having.n<=1000000000)(h5:q.order.n<=1000000000)(h6:q.aG.n<=1000000000)(w:World):
  Calls Tryz.prog 82 #[Hv q] w λ e w'=>e=.returned (.bool (qh q))/\Below w.heap.size w w':=by
 obtain⟨⟨iA,i,ic⟩,aK,only,⟨wA,wn,wc⟩,⟨gA,gn,gc⟩,⟨hA,hn,hc⟩,⟨oA,on,oc⟩,⟨lA,ln,lc⟩⟩:=q;dsimp only at h1 h2 h3 h4 h5 h6;unfold Hv jX fF;go_enter Tryz.func82,Tryz.ntmps82;by_cases c1:i+wn+gn+hn+on+ln=0
 ·obtain⟨rfl,rfl,rfl,rfl,rfl,rfl⟩:i=0/\wn=0/\gn=0/\hn=0/\on=0/\ln=0:=by omega
  clear h1 h2 h3 h4 h5 h6 c1;go_wp2_with fail
  all_goals
   go_ret;refine⟨?_,by go_grown⟩;simp_all[qh]
 ·have t1:((((((i:Int)+wn)+gn)+hn)+on)+ln==0)=false:=by simp;omega
  have t2:decide (i+wn+gn+hn+on+ln=0)=false:=decide_eq_false c1;clear c1;go_wp2_with fail
  all_goals
   go_ret;refine⟨?_,by go_grown⟩;simp only[qh,t2];simp
def Hy (x y:Val):Bool:=x.k==y.k &&(x.n==y.n && x.s.toList==y.s.toList)
def Kt (x y:fl):Bool:=
 ((x.aJ.n:Int)==(y.aJ.n:Int))&&((x.time.toList==y.time.toList)&&((x.every==y.every)&&((x.space.toList==y.space.toList)&&((x.parts==y.parts)&&((qh x.query==qh y.query)&&((x.what==y.what)&&((x.cr.toList==y.cr.toList)&&((x.a==y.a)&&((x.b==y.b)&&(((x.rows.n:Int)==(y.rows.n:Int))&&(((x.aS.n:Int)==(y.aS.n:Int))&&(((x.aR.n:Int)==(y.aR.n:Int))&&(Hy x.aK y.aK && Hy x.cP y.cP)))))))))))))
structure Ku (x:fl):Prop where
 i:x.query.items.n<=1000000000
 w:x.query.aR.n<=1000000000
 g:x.query.group.n<=1000000000
 h:x.query.having.n<=1000000000
 o:x.query.order.n<=1000000000
 l:x.query.aG.n<=1000000000
theorem Xi (x y:fl)(hx:Ku x)(hy:Ku y)(w:World):
  Calls Tryz.prog 37 #[ji x,ji y] w λ e w'=>e=.returned (.bool (Kt x y))/\Below w.heap.size w w':=by
 have NX:=hid (λ W=>Ks x.query hx.i hx.w hx.g hx.h hx.o hx.l W);have NY:=hid (λ W=>Ks y.query hy.i hy.w hy.g hy.h hy.o hy.l W);obtain⟨r,hr⟩:∃r,r=Kt x y:=⟨_,rfl⟩;rw[<- hr];obtain⟨nx,zZ⟩:∃nx,nx=qh x.query:=⟨_,rfl⟩;obtain⟨ny,hny⟩:∃ny,ny=qh y.query:=⟨_,rfl⟩;rw[<- zZ] at NX;rw[<- hny] at NY;unfold Kt at hr;rw[<- zZ,<- hny] at hr;clear hx hy zZ hny;obtain⟨xk0,xna,⟨xcA,xcn,xcc⟩,xti,xev,xsp,xpa,⟨⟨xiA,xin,xic⟩,xqf,xqo,⟨xwA,xwn,xwc⟩,⟨xgA,xgn,xgc⟩,⟨xhA,xhn,xhc⟩,⟨xoA,xon,xoc⟩,⟨xlA,xln,xlc⟩⟩,xwh,xof,xa,xb,⟨xrA,xrn,xrc⟩,⟨xsA,xsn,xsc⟩,⟨xxA,xxn,xxc⟩,⟨xfk,xfn,xfs⟩,⟨xtk,xtn,xts⟩⟩:=x;obtain⟨yk0,yna,⟨ycA,ycn,ycc⟩,yti,yev,ysp,ypa,⟨⟨yiA,yin,yic⟩,yqf,yqo,⟨ywA,ywn,ywc⟩,⟨ygA,ygn,ygc⟩,⟨yhA,yhn,yhc⟩,⟨yoA,yon,yoc⟩,⟨ylA,yln,ylc⟩⟩,ywh,yof,ya,yb,⟨yrA,yrn,yrc⟩,⟨ysA,ysn,ysc⟩,⟨yxA,yxn,yxc⟩,⟨yfk,yfn,yfs⟩,⟨ytk,ytn,yts⟩⟩:=y;dsimp only at hr NX NY;unfold Hv jX fF at NX NY;unfold ji bD jX fp fF;simp only[cons_append,nil_append];obtain⟨c0,hc0⟩:∃c:Bool,((xcn:Int)==(ycn:Int))=c:=⟨_,rfl⟩;rw[hc0] at hr;have C0:=hid hc0;obtain⟨b0,hb0⟩:∃b:Bool,b=c0:=⟨_,rfl⟩;have B0:=hid hb0;obtain⟨c1,hc1⟩:∃c:Bool,(xti.toList==yti.toList)=c:=⟨_,rfl⟩;rw[hc1] at hr;have C1:=hid hc1;obtain⟨b1,hb1⟩:∃b:Bool,b=(b0 && c1):=⟨_,rfl⟩;have B1:=hid hb1;obtain⟨c2,hc2⟩:∃c:Bool,(xev==yev)=c:=⟨_,rfl⟩;rw[hc2] at hr;have C2:=hid hc2;obtain⟨b2,hb2⟩:∃b:Bool,b=(b1 && c2):=⟨_,rfl⟩;have B2:=hid hb2;obtain⟨c3,hc3⟩:∃c:Bool,(xsp.toList==ysp.toList)=c:=⟨_,rfl⟩;rw[hc3] at hr;have C3:=hid hc3;obtain⟨b3,hb3⟩:∃b:Bool,b=(b2 && c3):=⟨_,rfl⟩;have B3:=hid hb3;obtain⟨c4,VU⟩:∃c:Bool,(xpa==ypa)=c:=⟨_,rfl⟩
 rw[VU] at hr;have C4:=hid VU;obtain⟨b4,hb4⟩:∃b:Bool,b=(b3 && c4):=⟨_,rfl⟩;have B4:=hid hb4;obtain⟨c5,hc5⟩:∃c:Bool,(nx==ny)=c:=⟨_,rfl⟩;rw[hc5] at hr;have C5:=hid hc5;obtain⟨b5,Xj⟩:∃b:Bool,b=(b4 && c5):=⟨_,rfl⟩;have B5:=hid Xj;obtain⟨c6,hc6⟩:∃c:Bool,(xwh==ywh)=c:=⟨_,rfl⟩;rw[hc6] at hr;have C6:=hid hc6;obtain⟨b6,SP⟩:∃b:Bool,b=(b5 && c6):=⟨_,rfl⟩;have B6:=hid SP;obtain⟨c7,O1⟩:∃c:Bool,(xof.toList==yof.toList)=c:=⟨_,rfl⟩;rw[O1] at hr;have C7:=hid O1;obtain⟨b7,Xk⟩:∃b:Bool,b=(b6 && c7):=⟨_,rfl⟩;have B7:=hid Xk;obtain⟨c8,hc8⟩:∃c:Bool,(xa==ya)=c:=⟨_,rfl⟩;rw[hc8] at hr;have C8:=hid hc8;obtain⟨b8,hb8⟩:∃b:Bool,b=(b7 && c8):=⟨_,rfl⟩;have B8:=hid hb8;obtain⟨c9,VV⟩:∃c:Bool,(xb==yb)=c:=⟨_,rfl⟩;rw[VV] at hr;have C9:=hid VV;obtain⟨b9,MG⟩:∃b:Bool,b=(b8 && c9):=⟨_,rfl⟩;have B9:=hid MG;obtain⟨c10,aef⟩:∃c:Bool,((xrn:Int)==(yrn:Int))=c:=⟨_,rfl⟩;rw[aef] at hr;have C10:=hid aef;obtain⟨xo,R7⟩:∃b:Bool,b=(b9 && c10):=⟨_,rfl⟩;have B10:=hid R7;obtain⟨c11,aeg⟩:∃c:Bool,((xsn:Int)==(ysn:Int))=c:=⟨_,rfl⟩;rw[aeg] at hr;have C11:=hid aeg;obtain⟨xp,R8⟩:∃b:Bool,b=(xo && c11):=⟨_,rfl⟩;have B11:=hid R8;obtain⟨c12,aeh⟩:∃c:Bool,((xxn:Int)==(yxn:Int))=c:=⟨_,rfl⟩;rw[aeh] at hr;have C12:=hid aeh;obtain⟨xq,R9⟩:∃b:Bool,b=(xp && c12):=⟨_,rfl⟩;have B12:=hid R9;obtain⟨c13,aei⟩:∃c:Bool,(Hy ⟨xfk,xfn,xfs⟩ ⟨yfk,yfn,yfs⟩)=c:=⟨_,rfl⟩;rw[aei] at hr;have C13:=hid aei;obtain⟨Ct,S0⟩:∃b:Bool,b=(xq && c13):=⟨_,rfl⟩;have B13:=hid S0;obtain⟨c14,aej⟩:∃c:Bool,(Hy ⟨xtk,xtn,xts⟩ ⟨ytk,ytn,yts⟩)=c:=⟨_,rfl⟩;rw[aej] at hr;have C14:=hid aej;obtain⟨S1,S3⟩:∃b:Bool,b=(Ct && c14):=⟨_,rfl⟩
 have B14:=hid S3;have HR:=hid (show r=S1 by rw[hr,S3,S0,R9,R8,R7,MG,hb8,Xk,SP,Xj,hb4,hb3,hb2,hb1,hb0];simp only[Bool.and_assoc]);clear hr hc0 hb0 hc1 hb1 hc2 hb2 hc3 hb3 VU hb4 hc5 Xj hc6 SP O1 Xk hc8 hb8 VV MG aef R7 aeg R8 aeh R9 aei S0 aej S3;go_enter Tryz.func37,Tryz.ntmps37;go_upto_region 1 with fail;simp only[List.append,cons_append,nil_append];have HX:=hid ((av.new w 34 #[.int .u8 xk0,.string xna,.slice xcA xcn xcc,.string xti,.int .i64 xev,.string xsp,.int .i64 xpa,.slice xiA xin xic,.string xqf,.bool xqo,.slice xwA xwn xwc,.slice xgA xgn xgc,.slice xhA xhn xhc,.slice xoA xon xoc,.slice xlA xln xlc,.int .u8 xwh,.string xof,.int .i64 xa,.int .i64 xb,.slice xrA xrn xrc,.slice xsA xsn xsc,.slice xxA xxn xxc,.int .u8 xfk,.int .i64 xfn,.string xfs,.int .u8 xtk,.int .i64 xtn,.string xts]).alloc (.cells #[.int .u8 yk0,.string yna,.slice ycA ycn ycc,.string yti,.int .i64 yev,.string ysp,.int .i64 ypa,.slice yiA yin yic,.string yqf,.bool yqo,.slice ywA ywn ywc,.slice ygA ygn ygc,.slice yhA yhn yhc,.slice yoA yon yoc,.slice ylA yln ylc,.int .u8 ywh,.string yof,.int .i64 ya,.int .i64 yb,.slice yrA yrn yrc,.slice ysA ysn ysc,.slice yxA yxn yxc,.int .u8 yfk,.int .i64 yfn,.string yfs,.int .u8 ytk,.int .i64 ytn,.string yts] 34));have hy0:=av.new (w.alloc (.cells #[.int .u8 xk0,.string xna,.slice xcA xcn xcc,.string xti,.int .i64 xev,.string xsp,.int .i64 xpa,.slice xiA xin xic,.string xqf,.bool xqo,.slice xwA xwn xwc,.slice xgA xgn xgc,.slice xhA xhn xhc,.slice xoA xon xoc,.slice xlA xln xlc,.int .u8 xwh,.string xof,.int .i64 xa,.int .i64 xb,.slice xrA xrn xrc,.slice xsA xsn xsc,.slice xxA xxn xxc,.int .u8 xfk,.int .i64 xfn,.string xfs,.int .u8 xtk,.int .i64 xtn,.string xts] 34)) 34 #[.int .u8 yk0,.string yna,.slice ycA ycn ycc,.string yti,.int .i64 yev,.string ysp,.int .i64 ypa,.slice yiA yin yic,.string yqf,.bool yqo,.slice ywA ywn ywc,.slice ygA ygn ygc,.slice yhA yhn yhc,.slice yoA yon yoc,.slice ylA yln ylc,.int .u8 ywh,.string yof,.int .i64 ya,.int .i64 yb,.slice yrA yrn yrc,.slice ysA ysn ysc,.slice yxA yxn yxc,.int .u8 yfk,.int .i64 yfn,.string yfs,.int .u8 ytk,.int .i64 ytn,.string yts]
 rw[World.size_alloc] at hy0;have HY:=hid hy0;have HB:=hid (af.then (aa w (.cells #[.int .u8 xk0,.string xna,.slice xcA xcn xcc,.string xti,.int .i64 xev,.string xsp,.int .i64 xpa,.slice xiA xin xic,.string xqf,.bool xqo,.slice xwA xwn xwc,.slice xgA xgn xgc,.slice xhA xhn xhc,.slice xoA xon xoc,.slice xlA xln xlc,.int .u8 xwh,.string xof,.int .i64 xa,.int .i64 xb,.slice xrA xrn xrc,.slice xsA xsn xsc,.slice xxA xxn xxc,.int .u8 xfk,.int .i64 xfn,.string xfs,.int .u8 xtk,.int .i64 xtn,.string xts] 34)) (aa _ (.cells #[.int .u8 yk0,.string yna,.slice ycA ycn ycc,.string yti,.int .i64 yev,.string ysp,.int .i64 ypa,.slice yiA yin yic,.string yqf,.bool yqo,.slice ywA ywn ywc,.slice ygA ygn ygc,.slice yhA yhn yhc,.slice yoA yon yoc,.slice ylA yln ylc,.int .u8 ywh,.string yof,.int .i64 ya,.int .i64 yb,.slice yrA yrn yrc,.slice ysA ysn ysc,.slice yxA yxn yxc,.int .u8 yfk,.int .i64 yfn,.string yfs,.int .u8 ytk,.int .i64 ytn,.string yts] 34)));clear hy0;generalize World.alloc (World.alloc w _) _=W at*;refine cM 114 (λ i _ v=>v=([.pointer (some ⟨w.heap.size,2,none⟩),.slice xcA xcn xcc,.int .i64 (xcn:Nat),.pointer (some ⟨(w.heap.size+1),2,none⟩),.slice ycA ycn ycc,.int .i64 (ycn:Nat),.bool c0,.bool b0,(cond b0 (.pointer (some ⟨w.heap.size,3,none⟩)) undef),(cond b0 (.string xti) undef),(cond b0 (.pointer (some ⟨(w.heap.size+1),3,none⟩)) undef),(cond b0 (.string yti) undef),(cond b0 (.bool c1) undef),.bool b1,.bool b1,(cond b1 (.pointer (some ⟨w.heap.size,4,none⟩)) undef),(cond b1 (.int .i64 xev) undef),(cond b1 (.pointer (some ⟨(w.heap.size+1),4,none⟩)) undef),(cond b1 (.int .i64 yev) undef),(cond b1 (.bool c2) undef),.bool b2,.bool b2,(cond b2 (.pointer (some ⟨w.heap.size,5,none⟩)) undef),(cond b2 (.string xsp) undef),(cond b2 (.pointer (some ⟨(w.heap.size+1),5,none⟩)) undef),(cond b2 (.string ysp) undef),(cond b2 (.bool c3) undef),.bool b3,.bool b3,(cond b3 (.pointer (some ⟨w.heap.size,6,none⟩)) undef),(cond b3 (.int .i64 xpa) undef),(cond b3 (.pointer (some ⟨(w.heap.size+1),6,none⟩)) undef),(cond b3 (.int .i64 ypa) undef),(cond b3 (.bool c4) undef),.bool b4,.bool b4,(cond b4 (.pointer (some ⟨w.heap.size,7,none⟩)) undef),(cond b4 (.agg #[.slice xiA xin xic,.string xqf,.bool xqo,.slice xwA xwn xwc,.slice xgA xgn xgc,.slice xhA xhn xhc,.slice xoA xon xoc,.slice xlA xln xlc]) undef),(cond b4 (.bool nx) undef),(cond b4 (.pointer (some ⟨(w.heap.size+1),7,none⟩)) undef),(cond b4 (.agg #[.slice yiA yin yic,.string yqf,.bool yqo,.slice ywA ywn ywc,.slice ygA ygn ygc,.slice yhA yhn yhc,.slice yoA yon yoc,.slice ylA yln ylc]) undef),(cond b4 (.bool ny) undef),(cond b4 (.bool c5) undef),.bool b5,.bool b5,(cond b5 (.pointer (some ⟨w.heap.size,15,none⟩)) undef),(cond b5 (.int .u8 xwh) undef),(cond b5 (.pointer (some ⟨(w.heap.size+1),15,none⟩)) undef),(cond b5 (.int .u8 ywh) undef),(cond b5 (.bool c6) undef),.bool b6,.bool b6,(cond b6 (.pointer (some ⟨w.heap.size,16,none⟩)) undef),(cond b6 (.string xof) undef),(cond b6 (.pointer (some ⟨(w.heap.size+1),16,none⟩)) undef),(cond b6 (.string yof) undef),(cond b6 (.bool c7) undef),.bool b7,.bool b7,(cond b7 (.pointer (some ⟨w.heap.size,17,none⟩)) undef),(cond b7 (.int .i64 xa) undef),(cond b7 (.pointer (some ⟨(w.heap.size+1),17,none⟩)) undef),(cond b7 (.int .i64 ya) undef),(cond b7 (.bool c8) undef),.bool b8,.bool b8,(cond b8 (.pointer (some ⟨w.heap.size,18,none⟩)) undef),(cond b8 (.int .i64 xb) undef),(cond b8 (.pointer (some ⟨(w.heap.size+1),18,none⟩)) undef),(cond b8 (.int .i64 yb) undef),(cond b8 (.bool c9) undef),.bool b9,.bool b9,(cond b9 (.pointer (some ⟨w.heap.size,19,none⟩)) undef),(cond b9 (.slice xrA xrn xrc) undef),(cond b9 (.int .i64 (xrn:Nat)) undef),(cond b9 (.pointer (some ⟨(w.heap.size+1),19,none⟩)) undef),(cond b9 (.slice yrA yrn yrc) undef),(cond b9 (.int .i64 (yrn:Nat)) undef),(cond b9 (.bool c10) undef),.bool xo,.bool xo,(cond xo (.pointer (some ⟨w.heap.size,20,none⟩)) undef),(cond xo (.slice xsA xsn xsc) undef),(cond xo (.int .i64 (xsn:Nat)) undef),(cond xo (.pointer (some ⟨(w.heap.size+1),20,none⟩)) undef),(cond xo (.slice ysA ysn ysc) undef),(cond xo (.int .i64 (ysn:Nat)) undef),(cond xo (.bool c11) undef),.bool xp,.bool xp,(cond xp (.pointer (some ⟨w.heap.size,21,none⟩)) undef),(cond xp (.slice xxA xxn xxc) undef),(cond xp (.int .i64 (xxn:Nat)) undef),(cond xp (.pointer (some ⟨(w.heap.size+1),21,none⟩)) undef),(cond xp (.slice yxA yxn yxc) undef),(cond xp (.int .i64 (yxn:Nat)) undef),(cond xp (.bool c12) undef),.bool xq,.bool xq,(cond xq (.pointer (some ⟨w.heap.size,22,none⟩)) undef),(cond xq (.agg #[.int .u8 xfk,.int .i64 xfn,.string xfs]) undef),(cond xq (.pointer (some ⟨(w.heap.size+1),22,none⟩)) undef),(cond xq (.agg #[.int .u8 yfk,.int .i64 yfn,.string yfs]) undef),(cond xq (.bool c13) undef),.bool Ct,.bool Ct,(cond Ct (.pointer (some ⟨w.heap.size,25,none⟩)) undef),(cond Ct (.agg #[.int .u8 xtk,.int .i64 xtn,.string xts]) undef),(cond Ct (.pointer (some ⟨(w.heap.size+1),25,none⟩)) undef),(cond Ct (.agg #[.int .u8 ytk,.int .i64 ytn,.string yts]) undef),(cond Ct (.bool c14) undef),.bool S1,.bool S1]:List Value).getD i undef) (λ i w w' v h _=>h) Tac Tac Tac ?_ ?_
 ·simp only[take_succ_cons,take_zero];refine⟨ZbT,?_,ZbT,ZbT,?_,ZbT,?_,?_,ZfK,?_,ZfK,?_,?_,?_,ZbT,ZfL,?_,ZfL,?_,?_,?_,ZbT,ZfM,?_,ZfM,?_,?_,?_,ZbT,ZfN,?_,ZfN,?_,?_,?_,ZbT,ZfO,?_,?_,ZfO,?_,?_,?_,?_,ZbT,ZfP,?_,ZfP,?_,?_,?_,ZbT,ZfQ,?_,ZfQ,?_,?_,?_,ZbT,ZfR,?_,ZfR,?_,?_,?_,ZbT,ZfS,?_,ZfS,?_,?_,?_,ZbT,Zcx,?_,Zcx,Zcx,?_,Zcx,?_,?_,ZbT,Zcy,?_,Zcy,Zcy,?_,Zcy,?_,?_,ZbT,Zcz,?_,Zcz,Zcz,?_,Zcz,?_,?_,ZbT,Zfr,?_,Zfr,?_,?_,?_,ZbT,Zfs,?_,Zfs,?_,?_,?_,ZbT,trivial⟩
  ·intro ρ w3 hc hL hr;have h0:_=_:=hr.1;have k2:=(av.later HX.out hL).cell 2;exact ZdT
  ·intro ρ w3 hc hL hr;have h0:_=_:=hr.1;have k2:=(av.later HY.out hL).cell 2;exact ZdT
  ·intro ρ w3 hc hL hr;have h0:_=_:=hr.1;have h1:_=_:=hr.2.1;have e:=C0.out;exact ae (v:=.bool c0) (w':=w3) Taj ⟨af.refl _,rfl⟩
  ·intro ρ w3 hc hL hr;have h0:_=_:=hr.1;have e:b0=c0:=B0.out;exact ae (v:=.bool b0) (w':=w3) (by rw[e];simp[go_sem,h0];done) ⟨af.refl _,rfl⟩
  ·intro ρ w3 hc hL hr;intro hg;have hg:ρ (.tmp 12)=.bool b0:=hg;cases b0
   ·exact Zae
   ·refine⟨λ _=>?_,λ hn=>absurd hg hn⟩;have h0:_=_:=hr.1;have k3:=(av.later HX.out hL).cell 3;exact ZdU
  ·intro ρ w3 hc hL hr;intro hg;have hg:ρ (.tmp 12)=.bool b0:=hg;cases b0
   ·exact Zae
   ·refine⟨λ _=>?_,λ hn=>absurd hg hn⟩;have h0:_=_:=hr.1;have k3:=(av.later HY.out hL).cell 3;exact ZdU
  ·intro ρ w3 hc hL hr;intro hg;have hg:ρ (.tmp 12)=.bool b0:=hg;cases b0
   ·exact Zae
   ·refine⟨λ _=>?_,λ hn=>absurd hg hn⟩;have h0:_=_:=hr.1;have h1:_=_:=hr.2.1;have e:=C1.out;exact ae (v:=.bool c1) (w':=w3) Taj ⟨af.refl _,rfl⟩
  ·intro ρ w3 hc hL hr;have h0:_=_:=hr.1;have h1:_=_:=hr.2.1;have e:=B1.out;cases b0
   ·have e2:b1=false:=by rw[e];rfl
    have h1:ρ (.tmp 17)=undef:=h1;exact Zft
   ·have e2:b1=c1:=by rw[e];rfl
    have h1:ρ (.tmp 17)=.bool c1:=h1;exact Zft
  ·intro ρ w3 hc hL hr;intro hg;have hg:ρ (.tmp 19)=.bool b1:=hg;cases b1
   ·exact Zae
   ·refine⟨λ _=>?_,λ hn=>absurd hg hn⟩;have h0:_=_:=hr.1;have k4:=(av.later HX.out hL).cell 4;exact ZdV
  ·intro ρ w3 hc hL hr;intro hg;have hg:ρ (.tmp 19)=.bool b1:=hg;cases b1
   ·exact Zae
   ·refine⟨λ _=>?_,λ hn=>absurd hg hn⟩;have h0:_=_:=hr.1;have k4:=(av.later HY.out hL).cell 4;exact ZdV
  ·intro ρ w3 hc hL hr;intro hg;have hg:ρ (.tmp 19)=.bool b1:=hg;cases b1
   ·exact Zae
   ·refine⟨λ _=>?_,λ hn=>absurd hg hn⟩;have h0:_=_:=hr.1;have h1:_=_:=hr.2.1;have e:=C2.out;exact ae (v:=.bool c2) (w':=w3) Taj ⟨af.refl _,rfl⟩
  ·intro ρ w3 hc hL hr;have h0:_=_:=hr.1;have h1:_=_:=hr.2.1;have e:=B2.out;cases b1
   ·have e2:b2=false:=by rw[e];rfl
    have h1:ρ (.tmp 24)=undef:=h1;exact Zfu
   ·have e2:b2=c2:=by rw[e];rfl
    have h1:ρ (.tmp 24)=.bool c2:=h1;exact Zfu
  ·intro ρ w3 hc hL hr;intro hg;have hg:ρ (.tmp 26)=.bool b2:=hg;cases b2
   ·exact Zae
   ·refine⟨λ _=>?_,λ hn=>absurd hg hn⟩;have h0:_=_:=hr.1;have k5:=(av.later HX.out hL).cell 5;exact ZdW
  ·intro ρ w3 hc hL hr;intro hg;have hg:ρ (.tmp 26)=.bool b2:=hg;cases b2
   ·exact Zae
   ·refine⟨λ _=>?_,λ hn=>absurd hg hn⟩;have h0:_=_:=hr.1;have k5:=(av.later HY.out hL).cell 5;exact ZdW
  ·intro ρ w3 hc hL hr;intro hg;have hg:ρ (.tmp 26)=.bool b2:=hg;cases b2
   ·exact Zae
   ·refine⟨λ _=>?_,λ hn=>absurd hg hn⟩;have h0:_=_:=hr.1;have h1:_=_:=hr.2.1;have e:=C3.out;exact ae (v:=.bool c3) (w':=w3) Taj ⟨af.refl _,rfl⟩
  ·intro ρ w3 hc hL hr;have h0:_=_:=hr.1;have h1:_=_:=hr.2.1;have e:=B3.out;cases b2
   ·have e2:b3=false:=by rw[e];rfl
    have h1:ρ (.tmp 31)=undef:=h1;exact Zfv
   ·have e2:b3=c3:=by rw[e];rfl
    have h1:ρ (.tmp 31)=.bool c3:=h1;exact Zfv
  ·intro ρ w3 hc hL hr;intro hg;have hg:ρ (.tmp 33)=.bool b3:=hg;cases b3
   ·exact Zae
   ·refine⟨λ _=>?_,λ hn=>absurd hg hn⟩;have h0:_=_:=hr.1;have k6:=(av.later HX.out hL).cell 6;exact ZdX
  ·intro ρ w3 hc hL hr;intro hg;have hg:ρ (.tmp 33)=.bool b3:=hg;cases b3
   ·exact Zae
   ·refine⟨λ _=>?_,λ hn=>absurd hg hn⟩;have h0:_=_:=hr.1;have k6:=(av.later HY.out hL).cell 6;exact ZdX
  ·intro ρ w3 hc hL hr;intro hg;have hg:ρ (.tmp 33)=.bool b3:=hg;cases b3
   ·exact Zae
   ·refine⟨λ _=>?_,λ hn=>absurd hg hn⟩;have h0:_=_:=hr.1;have h1:_=_:=hr.2.1;have e:=C4.out;exact ae (v:=.bool c4) (w':=w3) Taj ⟨af.refl _,rfl⟩
  ·intro ρ w3 hc hL hr;have h0:_=_:=hr.1;have h1:_=_:=hr.2.1;have e:=B4.out;cases b3
   ·have e2:b4=false:=by rw[e];rfl
    have h1:ρ (.tmp 38)=undef:=h1;exact Zfw
   ·have e2:b4=c4:=by rw[e];rfl
    have h1:ρ (.tmp 38)=.bool c4:=h1;exact Zfw
  ·intro ρ w3 hc hL hr;intro hg;have hg:ρ (.tmp 40)=.bool b4:=hg;cases b4
   ·exact Zae
   ·refine⟨λ _=>?_,λ hn=>absurd hg hn⟩;have h0:_=_:=hr.1;have k7:=(av.later HX.out hL).cell 7;have k8:=(av.later HX.out hL).cell 8;have k9:=(av.later HX.out hL).cell 9;have MH:=(av.later HX.out hL).cell 10;have MI:=(av.later HX.out hL).cell 11;have SQ:=(av.later HX.out hL).cell 12;have SR:=(av.later HX.out hL).cell 13;have SS:=(av.later HX.out hL).cell 14;exact Zdi
  ·intro ρ w3 hc hL hr;intro hg;have hg:ρ (.tmp 40)=.bool b4:=hg;cases b4
   ·exact Zae
   ·refine⟨λ _=>?_,λ hn=>absurd hg hn⟩;have h0:_=_:=hr.1;have e1:=hc.func 82;refine dG (f:=82) (args:= #[.agg #[.slice xiA xin xic,.string xqf,.bool xqo,.slice xwA xwn xwc,.slice xgA xgn xgc,.slice xhA xhn xhc,.slice xoA xon xoc,.slice xlA xln xlc]]) (w':=w3) (by simp[go_sem,e1,h0];done) ?_;refine(NX.out w3).mono ?_;exact Zgb
  ·intro ρ w3 hc hL hr;intro hg;have hg:ρ (.tmp 40)=.bool b4:=hg;cases b4
   ·exact Zae
   ·refine⟨λ _=>?_,λ hn=>absurd hg hn⟩;have h0:_=_:=hr.1;have k7:=(av.later HY.out hL).cell 7;have k8:=(av.later HY.out hL).cell 8;have k9:=(av.later HY.out hL).cell 9;have MH:=(av.later HY.out hL).cell 10;have MI:=(av.later HY.out hL).cell 11;have SQ:=(av.later HY.out hL).cell 12;have SR:=(av.later HY.out hL).cell 13;have SS:=(av.later HY.out hL).cell 14;exact Zdi
  ·intro ρ w3 hc hL hr;intro hg;have hg:ρ (.tmp 40)=.bool b4:=hg;cases b4
   ·exact Zae
   ·refine⟨λ _=>?_,λ hn=>absurd hg hn⟩;have h0:_=_:=hr.1;have e1:=hc.func 82;refine dG (f:=82) (args:= #[.agg #[.slice yiA yin yic,.string yqf,.bool yqo,.slice ywA ywn ywc,.slice ygA ygn ygc,.slice yhA yhn yhc,.slice yoA yon yoc,.slice ylA yln ylc]]) (w':=w3) (by simp[go_sem,e1,h0];done) ?_;refine(NY.out w3).mono ?_;exact Zgb
  ·intro ρ w3 hc hL hr;intro hg;have hg:ρ (.tmp 40)=.bool b4:=hg;cases b4
   ·exact Zae
   ·refine⟨λ _=>?_,λ hn=>absurd hg hn⟩;have h0:_=_:=hr.1;have h1:_=_:=hr.2.1;have e:=C5.out;exact ae (v:=.bool c5) (w':=w3) Taj ⟨af.refl _,rfl⟩
  ·intro ρ w3 hc hL hr;have h0:_=_:=hr.1;have h1:_=_:=hr.2.1;have e:=B5.out;cases b4
   ·have e2:b5=false:=by rw[e];rfl
    have h1:ρ (.tmp 47)=undef:=h1;exact Zfx
   ·have e2:b5=c5:=by rw[e];rfl
    have h1:ρ (.tmp 47)=.bool c5:=h1;exact Zfx
  ·intro ρ w3 hc hL hr;intro hg;have hg:ρ (.tmp 49)=.bool b5:=hg;cases b5
   ·exact Zae
   ·refine⟨λ _=>?_,λ hn=>absurd hg hn⟩;have h0:_=_:=hr.1;have VW:=(av.later HX.out hL).cell 15;exact ZdY
  ·intro ρ w3 hc hL hr;intro hg;have hg:ρ (.tmp 49)=.bool b5:=hg;cases b5
   ·exact Zae
   ·refine⟨λ _=>?_,λ hn=>absurd hg hn⟩;have h0:_=_:=hr.1;have VW:=(av.later HY.out hL).cell 15;exact ZdY
  ·intro ρ w3 hc hL hr;intro hg;have hg:ρ (.tmp 49)=.bool b5:=hg;cases b5
   ·exact Zae
   ·refine⟨λ _=>?_,λ hn=>absurd hg hn⟩;have h0:_=_:=hr.1;have h1:_=_:=hr.2.1;have e:=C6.out;exact ae (v:=.bool c6) (w':=w3) Taj ⟨af.refl _,rfl⟩
  ·intro ρ w3 hc hL hr;have h0:_=_:=hr.1;have h1:_=_:=hr.2.1;have e:=B6.out;cases b5
   ·have e2:b6=false:=by rw[e];rfl
    have h1:ρ (.tmp 54)=undef:=h1;exact Zfy
   ·have e2:b6=c6:=by rw[e];rfl
    have h1:ρ (.tmp 54)=.bool c6:=h1;exact Zfy
  ·intro ρ w3 hc hL hr;intro hg;have hg:ρ (.tmp 56)=.bool b6:=hg;cases b6
   ·exact Zae
   ·refine⟨λ _=>?_,λ hn=>absurd hg hn⟩;have h0:_=_:=hr.1;have O3:=(av.later HX.out hL).cell 16;exact ZdZ
  ·intro ρ w3 hc hL hr;intro hg;have hg:ρ (.tmp 56)=.bool b6:=hg;cases b6
   ·exact Zae
   ·refine⟨λ _=>?_,λ hn=>absurd hg hn⟩;have h0:_=_:=hr.1;have O3:=(av.later HY.out hL).cell 16;exact ZdZ
  ·intro ρ w3 hc hL hr;intro hg;have hg:ρ (.tmp 56)=.bool b6:=hg;cases b6
   ·exact Zae
   ·refine⟨λ _=>?_,λ hn=>absurd hg hn⟩;have h0:_=_:=hr.1;have h1:_=_:=hr.2.1;have e:=C7.out;exact ae (v:=.bool c7) (w':=w3) Taj ⟨af.refl _,rfl⟩
  ·intro ρ w3 hc hL hr;have h0:_=_:=hr.1;have h1:_=_:=hr.2.1;have e:=B7.out;cases b6
   ·have e2:b7=false:=by rw[e];rfl
    have h1:ρ (.tmp 61)=undef:=h1;exact Zfz
   ·have e2:b7=c7:=by rw[e];rfl
    have h1:ρ (.tmp 61)=.bool c7:=h1;exact Zfz
  ·intro ρ w3 hc hL hr;intro hg;have hg:ρ (.tmp 63)=.bool b7:=hg;cases b7
   ·exact Zae
   ·refine⟨λ _=>?_,λ hn=>absurd hg hn⟩;have h0:_=_:=hr.1;have k17:=(av.later HX.out hL).cell 17;exact ZdO
  ·intro ρ w3 hc hL hr;intro hg;have hg:ρ (.tmp 63)=.bool b7:=hg;cases b7
   ·exact Zae
   ·refine⟨λ _=>?_,λ hn=>absurd hg hn⟩;have h0:_=_:=hr.1;have k17:=(av.later HY.out hL).cell 17;exact ZdO
  ·intro ρ w3 hc hL hr;intro hg;have hg:ρ (.tmp 63)=.bool b7:=hg;cases b7
   ·exact Zae
   ·refine⟨λ _=>?_,λ hn=>absurd hg hn⟩;have h0:_=_:=hr.1;have h1:_=_:=hr.2.1;have e:=C8.out;exact ae (v:=.bool c8) (w':=w3) Taj ⟨af.refl _,rfl⟩
  ·intro ρ w3 hc hL hr;have h0:_=_:=hr.1;have h1:_=_:=hr.2.1;have e:=B8.out;cases b7
   ·have e2:b8=false:=by rw[e];rfl
    have h1:ρ (.tmp 68)=undef:=h1;exact ZfA
   ·have e2:b8=c8:=by rw[e];rfl
    have h1:ρ (.tmp 68)=.bool c8:=h1;exact ZfA
  ·intro ρ w3 hc hL hr;intro hg;have hg:ρ (.tmp 70)=.bool b8:=hg;cases b8
   ·exact Zae
   ·refine⟨λ _=>?_,λ hn=>absurd hg hn⟩;have h0:_=_:=hr.1;have k18:=(av.later HX.out hL).cell 18;exact ZdP
  ·intro ρ w3 hc hL hr;intro hg;have hg:ρ (.tmp 70)=.bool b8:=hg;cases b8
   ·exact Zae
   ·refine⟨λ _=>?_,λ hn=>absurd hg hn⟩;have h0:_=_:=hr.1;have k18:=(av.later HY.out hL).cell 18;exact ZdP
  ·intro ρ w3 hc hL hr;intro hg;have hg:ρ (.tmp 70)=.bool b8:=hg;cases b8
   ·exact Zae
   ·refine⟨λ _=>?_,λ hn=>absurd hg hn⟩;have h0:_=_:=hr.1;have h1:_=_:=hr.2.1;have e:=C9.out;exact ae (v:=.bool c9) (w':=w3) Taj ⟨af.refl _,rfl⟩
  ·intro ρ w3 hc hL hr;have h0:_=_:=hr.1;have h1:_=_:=hr.2.1;have e:=B9.out;cases b8
   ·have e2:b9=false:=by rw[e];rfl
    have h1:ρ (.tmp 75)=undef:=h1;exact ZfB
   ·have e2:b9=c9:=by rw[e];rfl
    have h1:ρ (.tmp 75)=.bool c9:=h1;exact ZfB
  ·intro ρ w3 hc hL hr;intro hg;have hg:ρ (.tmp 77)=.bool b9:=hg;cases b9
   ·exact Zae
   ·refine⟨λ _=>?_,λ hn=>absurd hg hn⟩;have h0:_=_:=hr.1;have k19:=(av.later HX.out hL).cell 19;exact ZdQ
  ·intro ρ w3 hc hL hr;intro hg;have hg:ρ (.tmp 77)=.bool b9:=hg;cases b9
   ·exact Zae
   ·refine⟨λ _=>?_,λ hn=>absurd hg hn⟩;have h0:_=_:=hr.1;have k19:=(av.later HY.out hL).cell 19;exact ZdQ
  ·intro ρ w3 hc hL hr;intro hg;have hg:ρ (.tmp 77)=.bool b9:=hg;cases b9
   ·exact Zae
   ·refine⟨λ _=>?_,λ hn=>absurd hg hn⟩;have h0:_=_:=hr.1;have h1:_=_:=hr.2.1;have e:=C10.out;exact ae (v:=.bool c10) (w':=w3) Taj ⟨af.refl _,rfl⟩
  ·intro ρ w3 hc hL hr;have h0:_=_:=hr.1;have h1:_=_:=hr.2.1;have e:=B10.out;cases b9
   ·have e2:xo=false:=by rw[e];rfl
    have h1:ρ (.tmp 84)=undef:=h1;exact ZfC
   ·have e2:xo=c10:=by rw[e];rfl
    have h1:ρ (.tmp 84)=.bool c10:=h1;exact ZfC
  ·intro ρ w3 hc hL hr;intro hg;have hg:ρ (.tmp 86)=.bool xo:=hg;cases xo
   ·exact Zae
   ·refine⟨λ _=>?_,λ hn=>absurd hg hn⟩;have h0:_=_:=hr.1;have k20:=(av.later HX.out hL).cell 20;exact ZdR
  ·intro ρ w3 hc hL hr;intro hg;have hg:ρ (.tmp 86)=.bool xo:=hg;cases xo
   ·exact Zae
   ·refine⟨λ _=>?_,λ hn=>absurd hg hn⟩;have h0:_=_:=hr.1;have k20:=(av.later HY.out hL).cell 20;exact ZdR
  ·intro ρ w3 hc hL hr;intro hg;have hg:ρ (.tmp 86)=.bool xo:=hg;cases xo
   ·exact Zae
   ·refine⟨λ _=>?_,λ hn=>absurd hg hn⟩;have h0:_=_:=hr.1;have h1:_=_:=hr.2.1;have e:=C11.out;exact ae (v:=.bool c11) (w':=w3) Taj ⟨af.refl _,rfl⟩
  ·intro ρ w3 hc hL hr;have h0:_=_:=hr.1;have h1:_=_:=hr.2.1;have e:=B11.out;cases xo
   ·have e2:xp=false:=by rw[e];rfl
    have h1:ρ (.tmp 93)=undef:=h1;exact ZfD
   ·have e2:xp=c11:=by rw[e];rfl
    have h1:ρ (.tmp 93)=.bool c11:=h1;exact ZfD
  ·intro ρ w3 hc hL hr;intro hg;have hg:ρ (.tmp 95)=.bool xp:=hg;cases xp
   ·exact Zae
   ·refine⟨λ _=>?_,λ hn=>absurd hg hn⟩;have h0:_=_:=hr.1;have S4:=(av.later HX.out hL).cell 21;exact Zd0
  ·intro ρ w3 hc hL hr;intro hg;have hg:ρ (.tmp 95)=.bool xp:=hg;cases xp
   ·exact Zae
   ·refine⟨λ _=>?_,λ hn=>absurd hg hn⟩;have h0:_=_:=hr.1;have S4:=(av.later HY.out hL).cell 21;exact Zd0
  ·intro ρ w3 hc hL hr;intro hg;have hg:ρ (.tmp 95)=.bool xp:=hg;cases xp
   ·exact Zae
   ·refine⟨λ _=>?_,λ hn=>absurd hg hn⟩;have h0:_=_:=hr.1;have h1:_=_:=hr.2.1;have e:=C12.out;exact ae (v:=.bool c12) (w':=w3) Taj ⟨af.refl _,rfl⟩
  ·intro ρ w3 hc hL hr;have h0:_=_:=hr.1;have h1:_=_:=hr.2.1;have e:=B12.out;cases xp
   ·have e2:xq=false:=by rw[e];rfl
    have h1:ρ (.tmp 102)=undef:=h1;exact ZfE
   ·have e2:xq=c12:=by rw[e];rfl
    have h1:ρ (.tmp 102)=.bool c12:=h1;exact ZfE
  ·intro ρ w3 hc hL hr;intro hg;have hg:ρ (.tmp 104)=.bool xq:=hg;cases xq
   ·exact Zae
   ·refine⟨λ _=>?_,λ hn=>absurd hg hn⟩;have h0:_=_:=hr.1;have Hz:=(av.later HX.out hL).cell 22;have Ia:=(av.later HX.out hL).cell 23;have Ib:=(av.later HX.out hL).cell 24;exact Zfj
  ·intro ρ w3 hc hL hr;intro hg;have hg:ρ (.tmp 104)=.bool xq:=hg;cases xq
   ·exact Zae
   ·refine⟨λ _=>?_,λ hn=>absurd hg hn⟩;have h0:_=_:=hr.1;have Hz:=(av.later HY.out hL).cell 22;have Ia:=(av.later HY.out hL).cell 23;have Ib:=(av.later HY.out hL).cell 24;exact Zfj
  ·intro ρ w3 hc hL hr;intro hg;have hg:ρ (.tmp 104)=.bool xq:=hg;cases xq
   ·exact Zae
   ·refine⟨λ _=>?_,λ hn=>absurd hg hn⟩;have h0:_=_:=hr.1;have h1:_=_:=hr.2.1;have e:=C13.out;unfold Hy at e;dsimp only at e;by_cases q1:xfk=yfk
    ·subst q1;by_cases q2:xfn=yfn
     ·subst q2;by_cases q3:xfs.toList=yfs.toList
      ·skip;have e2:c13=true:=by rw[<- e];simp[q3]
       exact ZfW
      ·skip;have e2:c13=false:=by rw[<- e];simp[q3]
       exact ZfW
     ·skip;have e2:c13=false:=by rw[<- e];simp[q2]
      exact ae (v:=.bool c13) (w':=w3) (by rw[e2];simp[go_sem,h0,h1,q2];done) ⟨af.refl _,rfl⟩
    ·skip;have e2:c13=false:=by rw[<- e];simp[q1]
     exact ae (v:=.bool c13) (w':=w3) TaU ⟨af.refl _,rfl⟩
  ·intro ρ w3 hc hL hr;have h0:_=_:=hr.1;have h1:_=_:=hr.2.1;have e:=B13.out;cases xq
   ·have e2:Ct=false:=by rw[e];rfl
    have h1:ρ (.tmp 109)=undef:=h1;exact ZfF
   ·have e2:Ct=c13:=by rw[e];rfl
    have h1:ρ (.tmp 109)=.bool c13:=h1;exact ZfF
  ·intro ρ w3 hc hL hr;intro hg;have hg:ρ (.tmp 111)=.bool Ct:=hg;cases Ct
   ·exact Zae
   ·refine⟨λ _=>?_,λ hn=>absurd hg hn⟩;have h0:_=_:=hr.1;have SU:=(av.later HX.out hL).cell 25;have SV:=(av.later HX.out hL).cell 26;have SX:=(av.later HX.out hL).cell 27;exact ZdG
  ·intro ρ w3 hc hL hr;intro hg;have hg:ρ (.tmp 111)=.bool Ct:=hg;cases Ct
   ·exact Zae
   ·refine⟨λ _=>?_,λ hn=>absurd hg hn⟩;have h0:_=_:=hr.1;have SU:=(av.later HY.out hL).cell 25;have SV:=(av.later HY.out hL).cell 26;have SX:=(av.later HY.out hL).cell 27;exact ZdG
  ·intro ρ w3 hc hL hr;intro hg;have hg:ρ (.tmp 111)=.bool Ct:=hg;cases Ct
   ·exact Zae
   ·refine⟨λ _=>?_,λ hn=>absurd hg hn⟩;have h0:_=_:=hr.1;have h1:_=_:=hr.2.1;have e:=C14.out;unfold Hy at e;dsimp only at e;by_cases q1:xtk=ytk
    ·subst q1;by_cases q2:xtn=ytn
     ·subst q2;by_cases q3:xts.toList=yts.toList
      ·skip;have e2:c14=true:=by rw[<- e];simp[q3]
       exact ZfX
      ·skip;have e2:c14=false:=by rw[<- e];simp[q3]
       exact ZfX
     ·skip;have e2:c14=false:=by rw[<- e];simp[q2]
      exact ae (v:=.bool c14) (w':=w3) (by rw[e2];simp[go_sem,h0,h1,q2];done) ⟨af.refl _,rfl⟩
    ·skip;have e2:c14=false:=by rw[<- e];simp[q1]
     exact ae (v:=.bool c14) (w':=w3) TaU ⟨af.refl _,rfl⟩
  ·intro ρ w3 hc hL hr;have h0:_=_:=hr.1;have h1:_=_:=hr.2.1;have e:=B14.out;cases Ct
   ·have e2:S1=false:=by rw[e];rfl
    have h1:ρ (.tmp 116)=undef:=h1;exact ZfG
   ·have e2:S1=c14:=by rw[e];rfl
    have h1:ρ (.tmp 116)=.bool c14:=h1;exact ZfG
 intro W2 hL;simp only[Uab];rintro a0 q0 a1 q1 a2 q2 a3 q3 a4 q4 a5 q5 a6 q6 a7 q7 a8 q8 a9 q9 a10 q10 a11 q11 a12 q12 a13 q13 S5 q14 a15 q15 a16 q16 a17 q17 a18 q18 a19 q19 a20 q20 a21 q21 a22 q22 a23 q23 a24 q24 a25 q25 a26 q26 a27 q27 a28 q28 a29 q29 a30 q30 a31 q31 a32 q32 a33 q33 a34 q34 a35 q35 a36 q36 a37 q37 a38 q38 a39 q39 a40 q40 a41 q41 a42 q42 a43 q43 a44 q44 a45 q45 a46 q46 a47 q47 a48 q48 a49 q49 a50 q50 a51 q51 a52 q52 a53 q53 a54 q54 a55 q55 a56 q56 a57 q57 a58 q58 a59 q59 a60 q60 a61 q61 a62 q62 a63 q63 a64 q64 a65 q65 a66 q66 a67 q67 a68 q68 a69 q69 a70 q70 a71 q71 a72 q72 a73 q73 a74 q74 a75 q75 a76 q76 a77 q77 a78 q78 a79 q79 a80 q80 a81 q81 a82 q82 a83 q83 a84 q84 a85 q85 a86 q86 a87 q87 a88 q88 a89 q89 a90 q90 a91 q91 a92 q92 a93 q93 a94 q94 a95 q95 a96 q96 a97 q97 a98 q98 a99 q99 avx aos avy aot avz aou avA aov avB aow a105 aox avC aoy a107 aoz avD aoA a109 aoB avE aoC avF aoD avG aoE _ rfl;clear q0 q1 q2 q3 q4 q5 q6 q7 q8 q9 q10 q11 q12 q13 q14 q15 q16 q17 q18 q19 q20 q21 q22 q23 q24 q25 q26 q27 q28 q29 q30 q31 q32 q33 q34 q35 q36 q37 q38 q39 q40 q41 q42 q43 q44 q45 q46 q47 q48 q49 q50 q51 q52 q53 q54 q55 q56 q57 q58 q59 q60 q61 q62 q63 q64 q65 q66 q67 q68 q69 q70 q71 q72 q73 q74 q75 q76 q77 q78 q79 q80 q81 q82 q83 q84 q85 q86 q87 q88 q89 q90 q91 q92 q93 q94 q95 q96 q97 q98 q99 aos aot aou aov aow aox aoy aoz aoA aoB aoC aoD aoE;simp only[cU,Act.put,Uac]
 have qc:=hid (af.then HB.out hL);go_wp2_with fail;go_ret;exact⟨by rw[HR.out];rfl,qc.out⟩
end Go.Proofs.YtehhdlgjfdnafaaGreatDoor
