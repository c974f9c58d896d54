/- Parts of the proof. -/
import Derived.Test.YtndgjggokjickaaGreatDoorXO4
namespace Go.Proofs.YtndgjggokjickaaGreatDoor.R
variable{p:Prop}
set_option maxHeartbeats 90000000
set_option maxRecDepth 100000
open Go.ChangeShapes Go.WideShapes Go.ChangeAt Go.RowKit List
set_option linter.unusedVariables false
set_option linter.unusedSimpArgs false
theorem Vi{s:ByteArray} {a:Nat} {x:List UInt8}(hb:a+x.length<=s.size):((s.extract a (a+x.length)).toList==x)=x.isPrefixOf (s.data.toList.drop a):=by
 rw[ByteArray.toList_eq,pj,drop_take,Nat.add_sub_cancel_left];rw[Bool.eq_iff_iff,beq_iff_eq,isPrefixOf_iff_prefix];constructor
 ·intro h;refine⟨(s.data.toList.drop a).drop x.length,?_⟩;have:=take_append_drop x.length (s.data.toList.drop a);rwa [h] at this
 ·rintro⟨r,h⟩;rw[<- h];simp
theorem Vj{s:ByteArray} {a:Nat} {x:List UInt8}(hb:¬a+x.length<=s.size)(ha:a<=s.size):x.isPrefixOf (s.data.toList.drop a)=false:=by rw[Bool.eq_false_iff];intro h;rw[isPrefixOf_iff_prefix] at h;have:=h.length_le;rw[length_drop] at this;simp at this;omega
theorem zf0.Kbv(h:p:=by
 have HZ:=aa ((aB.new w 172 #[ag 0,au,af 0,af 0]).alloc (.cells (signs.map λ l=>Value.string ⟨l.toArray⟩).toArray 9));have hG:aB ((w.alloc (.cells #[ag 0,au,af 0,af 0] 172)).alloc (.cells (signs.map λ l=>Value.string ⟨l.toArray⟩).toArray 9)) (w.heap.size+1) 9 (signs.map λ l=>Value.string ⟨l.toArray⟩).toArray:=by have:=aB.new (w.alloc (.cells #[ag 0,au,af 0,af 0] 172)) 9 (signs.map λ l=>Value.string ⟨l.toArray⟩).toArray;simpa using this
 have KK:aj w ((w.alloc (.cells #[ag 0,au,af 0,af 0] 172)).alloc (.cells (signs.map λ l=>Value.string ⟨l.toArray⟩).toArray 9)):=((Below.refl _ _).alloc (Nat.le_refl _) _).alloc Vb _;have HG:=aa hG;clear hG t0;simp only[signs,map_cons,map_nil] at HZ HG KK;generalize (w.alloc (.cells #[ag 0,au,af 0,af 0] 172)).alloc _=W at*;go_loopw [13] (λ u wr=>∃i n:Nat,i<=15/\u=af i/\wr=W.drewN n/\kN signs (s.data.toList.drop at_)=kN (signs.drop i) (s.data.toList.drop at_)) (λ u _=>15 - (intOf u).toNat);case atStart=>exact⟨0,0,by omega,rfl,rfl,rfl⟩
 case round=>
  obtain⟨i,n,hi,rfl,rfl,hsg⟩:=hrel;have pS:=aa hsg;clear hsg;have HZn:=aa (HZ.ae.drewN n);have bb:=KK.trans ((mR W n).mono KK.size);by_cases amo:i < 15
  ·obtain⟨x,hx,hdx,hx1,hx2⟩:=acs amo
   have hcell:(W.drewN n).cell? ⟨w.heap.size+1,i,none⟩=some (.string ⟨x.toArray⟩):=by
    rw[(HG.ae.drewN n).cell i];have:(signs.map λ l=>Value.string ⟨l.toArray⟩).toArray[i]?=some (.string ⟨x.toArray⟩):=by simp[hx]
    exact this
   generalize hWn:W.drewN n=Wn at*;have HWN:=aa hWn;have HDX:=aa hdx;clear hWn hx hdx;by_cases hto:at_+x.length<=s.size
   ·have n1:=decide_eq_true (show((at_:Int)+(x.length:Int))<=(s.size:Int) by omega);have HT:=aa (Vi hto);cases hp:x.isPrefixOf (s.data.toList.drop at_)
    ·have HP:=aa hp;have t1:((s.extract at_ (at_+x.length)).toList==x)=false:=HT.ae.trans hp;have Az:=λ W':World=>lz s at_ (at_+x.length) (at_:Int) ((at_:Int)+(x.length:Int)) rfl Tq Tq hto W'
     clear hp;exact Zdd
    ·have HP:=aa hp;have t1:((s.extract at_ (at_+x.length)).toList==x)=true:=HT.ae.trans hp;have Az:=λ W':World=>lz s at_ (at_+x.length) (at_:Int) ((at_:Int)+(x.length:Int)) rfl Tq Tq hto W'
     clear hp;go_wp2_with fail;go_quiet (fail);obtain⟨z0,z1,z2,z3,y0,y1,y2,y3⟩:=bO (HZn.ae.drewN nq);have bq:=bb.trans ((mR Wn nq).mono bb.size);have Zw:(Wn.drewN nq).cell? ⟨w.heap.size+1,i,none⟩=some (.string ⟨x.toArray⟩):=hcell;generalize Wn.drewN nq=Wq at*;clear hcell;go_wp2_with fail;refine bodyPost_ret (v:=.tuple #[.agg #[ag 4,.string ⟨x.toArray⟩,af 0,af at_],af ((at_:Int)+(x.length:Int)),af 0]) ZbH rfl ?_
     ·have e1:kN signs (s.data.toList.drop at_)=some x:=by rw[pS.ae,HDX.ae,kN,if_pos HP.ae]
      rw[rp.ae,e1];unfold zQ;simp only;have e2:s.size - ((s.data.toList.drop at_).drop x.length).length=at_+x.length:=by rw[drop_drop,length_drop,HLEN.ae];omega
      rw[e2];exact⟨rfl,vV bq (Nat.le_refl _) _ _ _ _⟩
   ·have n1:=decide_eq_false (show¬((at_:Int)+(x.length:Int))<=(s.size:Int) by omega);have HP:=aa (Vj hto Tq);exact Zdd
  ·obtain rfl:i=15:=by omega
   obtain⟨z0,z1,z2,z3,y0,y1,y2,y3⟩:=bO HZn.ae;generalize W.drewN n=Wn at*;exact ZcJ):p:=h
theorem ZW (s:ByteArray)(at_:Nat)(w:World)(ha:at_ < s.size)(mA:fM s[at_]=false)(hc:bC s[at_]=false)(hq:s[at_]≠39)(hs:s.size<=4294967280):
  ar 132 #[.string s,af at_] w (zQ s at_ w (ia (s.data.toList.drop at_))):=by
 have hd:=cH (eU s at_ ha)
 have Kx:ia (s.data.toList.drop at_)=match kN signs (s.data.toList.drop at_)with
   | some x=> .ok (⟨4,x,0⟩,(s.data.toList.drop at_).drop x.length)
   | none=> .error 30:=by
  rw[hd];simp only[ia,mA,hc,if_neg hq];rfl
 generalize ia (s.data.toList.drop at_)=R at*;have t0:(((s[at_].toNat:Nat):Int)==39)=false:=by rw[beq_eq_false_iff_ne];intro h;exact hq (UInt8.toNat_inj.1 (by simpa using(by omega:s[at_].toNat=39)))
 open zf0 in exact Zd9
theorem acy (s:ByteArray)(at_:Nat)(w:World)(ha:at_ < s.size)(hs:s.size<=4294967280):
  ar 132 #[.string s,af at_] w (zQ s at_ w (ia (s.data.toList.drop at_))):=by
 cases hl:fM s[at_]
 ·cases hd:bC s[at_]
  ·by_cases hq:s[at_]=39
   ·exact ZU s at_ w ha hl hd hq hs
   ·exact ZW s at_ w ha hl hd hq hs
  ·exact one_num s at_ w ha hl hd hs
 ·exact ZT s at_ w ha hl hs
def LX (n:Nat)(r:List UInt8):Except (Nat×Nat) (List qX):=xE n (n+1) r
def pre (acc:List qX):Except (Nat×Nat) (List qX)->Except (Nat×Nat) (List qX)
 | .error e=> .error e
 | .ok l=> .ok (acc++l)
def ZX (n:Nat):qX:=⟨⟨0,[],0⟩,n⟩
theorem xL (b:Bool)(r:List UInt8):cw false (cw b r)=cw b r:=by
 induction r generalizing b with
 | nil=>cases b <;> rfl
 | cons d r ih=>
   cases b with
   | true=>
     simp only[cw];split
     ·exact ih false
     ·exact ih true
   | false=>
     by_cases h1:qW d=true
     ·simp only[cw,if_pos h1];exact ih false
     ·by_cases h2:d=45/\r.head?=some 45
      ·simp only[cw,if_neg h1,if_pos h2];exact ih true
      ·have:cw false (d::r)=d::r:=by simp only[cw,if_neg h1,if_neg h2]
       rw[this,this]
theorem SJ (n:Nat)(r:List UInt8):LX n (cw false r)=LX n r:=by unfold LX;simp only[xE];have:=xL false r;rw[this]
theorem ahD{n:Nat} {r:List UInt8}(h:cw false r=[]):LX n r=.ok [ZX n]:=by unfold LX;simp only[xE,h];rfl
variable{r':List UInt8}
theorem ahE{n:Nat} {r:List UInt8} {c:UInt8} {e:Nat}(h:cw false r=c::r')(ho:ia (c::r')=.error e):LX n r=.error (n - (c::r').length,e):=by unfold LX;simp only[xE,h,ho]
variable{rest:List UInt8}
theorem amp{n:Nat} {r:List UInt8} {c:UInt8} {w:Wd}(hr:r.length<=n)(h:cw false r=c::r')(ho:ia (c::r')=.ok (w,rest)):LX n r=pre [⟨w,n - (c::r').length⟩] (LX n rest):=by
 have h1:=Au ho;have h2:=kq false r;rw[h] at h2;unfold LX;conv=>lhs;unfold xE
 simp only[h,ho];rw[FP n n (n+1) rest Tq Tq];cases xE n (n+1) rest <;> rfl
theorem acz (a b:List qX)(x:Except (Nat×Nat) (List qX)):pre a (pre b x)=pre (a++b) x:=by cases x <;> simp[pre]
theorem acA (x:Except (Nat×Nat) (List qX)):pre [] x=x:=by cases x <;> rfl
theorem ZY{r:List UInt8} {x:Nat}(h:ia r=.error x):x=2\/x=30:=by
 cases r with
 | nil=>simp[ia] at h;exact .inr h.symm
 | cons c r=>
   simp only[ia] at h;split at h
   ·split at h
    ·cases h
    ·injection h with h;exact .inl h.symm
   ·split at h
    ·exact Zfp
    ·split at h
     ·exact Zfp
     ·exact Zfp
theorem LF{r:List UInt8} {w:Wd}(h:ia r=.ok (w,rest)):rest <:+ r:=by obtain⟨b,hb,_⟩:=BR h;exact⟨b,hb.symm⟩
def rq (t:qX):List Value:=[ag t.w.k,.string ⟨t.w.s.toArray⟩,af t.w.n,af t.p]
theorem LG:(Tryz.prog.info? 172).map (λ i=>(i.zero,i.size,i.bytes))=some (some (.agg #[ag 0,au,af 0,af 0]),4,40):=by exact Zgu
def LH (w:World)(base:Nat)(v:Value)(l:List qX):Prop:=aH rq 172 4 w base v l
def vX (s:ByteArray)(w:World)(e:Ending)(w':World):Prop:=
 match zO s.data.toList with
 | .error (p,x)=>e=.returned (.tuple #[az,af p,af x])/\aj w w'
 | .ok l=>∃v,e=.returned (.tuple #[v,af 0,af 0])/\LH w' w.heap.size v l/\aj w w'
theorem ZZ{s:ByteArray}(h:4096 < s.size):zO s.data.toList=.error (0,2):=by unfold zO;rw[if_pos Tah]
theorem acB{s:ByteArray}(h:¬4096 < s.size):zO s.data.toList=LX s.size s.data.toList:=by
 unfold zO LX;have:s.data.toList.length=s.size:=by simp
 rw[this,if_neg h]
structure B3 (s:ByteArray) (w:World) (a:Nat) (v:Value) (acc:List qX) (wr:World):Prop where
 bel:aj w wr
 own:LH wr w.heap.size v acc
 le:a<=s.size
 len:acc.length<=a
 skip:cw false (s.data.toList.drop a)=s.data.toList.drop a
 more:LX s.size s.data.toList=pre acc (LX s.size (s.data.toList.drop a))
theorem B5 (s:ByteArray)(w:World)(hs:s.size<=4294967280):ar 85 #[.string s] w (vX s w):=by
 by_cases amq:4096 < s.size
 ·unfold vX;rw[ZZ amq];go_enter Tryz.func85,Tryz.ntmps85;go_wp2_with fail;go_ret3;exact⟨rfl,Below.refl _ _⟩
 ·have HPO:=aa (acB amq);have HLEN:=aa (show s.data.toList.length=s.size by simp);go_enter Tryz.func85,Tryz.ntmps85;go_wp2_with fail;refine(FV s 0 _ (Nat.zero_le _) hs).mono ?_;rintro e w1 ⟨rfl,rfl⟩
  have hA:B3 s w (fH s 0) (az) [] w:=by
   refine⟨Below.refl _ _,aH.nil,xK _ _,Nat.zero_le _,?_,?_⟩
   ·rw[mU];exact xL _ _
   ·rw[mU,SJ,acA];rfl
  generalize fH s 0=a0 at*;have HA:=aa hA;clear hA;go_wp2_with fail;go_loopw [5,6] (λ x y wr=>∃(a:Nat) (acc:List qX) (u:Value),x=u/\y=af a/\B3 s w a u acc wr) (λ _ y _=>s.size - (intOf y).toNat);case atStart=>exact⟨a0,[],_,rfl,rfl,HA.ae⟩
  case round=>
   obtain⟨a,acc,u,hu,rfl,hA⟩:=hrel;have hu2:=hu.symm;clear hu;subst hu2;have ahF:=hA.bel.size;have acx:=hA.len;have hae:=hA.le;have HA2:=aa hA;clear hA;by_cases ha:a < s.size
   ·go_wp2_with fail;refine(acy s a _ ha hs).mono ?_;intro e w2 hp;have HB:=aa (eU s a ha);rcases hres:ia (s.data.toList.drop a)with x |⟨d,rest⟩
    ·rw[hres] at hp;obtain⟨rfl,hb⟩:=hp;have hx:=ZY hres;have jM:=aa hres;have n1:((x:Int)==0)=false:=by rcases hx with rfl | rfl <;> rfl
     have n2:((x:Int) != 0)=true:=by rcases hx with rfl | rfl <;> rfl
     have n3:¬((x:Int)=0):=by omega
     clear hres;go_wp2_with fail;go_ret3;unfold vX;rw[HPO.ae,HA2.ae.more,ahE (by rw[HA2.ae.skip];exact cH HB.ae) (by rw[<- cH HB.ae];exact jM.ae)];have e1:s.size - (s[a]::s.data.toList.drop (a+1)).length=a:=by rw[<- cH HB.ae,length_drop,HLEN.ae];omega
     rw[e1];exact⟨rfl,HA2.ae.bel.trans ((hb.mono ahF).trans ((ah w2 _).mono (by have:=hb.size;omega)))⟩
    ·rw[hres] at hp;obtain⟨rfl,hb⟩:=hp;have jM:=aa hres;clear hres;have bW:=((Below.refl w2.heap.size w2).alloc (Nat.le_refl _) (.cells (rq ⟨d,a⟩).toArray 172)).alloc Vb (.cells (rq ⟨d,a⟩).toArray 172);have hown:LH w2 w.heap.size u acc:=HA2.ae.own.later hb;have HO:=aa (hown.later bW);have hG:aB ((w2.alloc (.cells (rq ⟨d,a⟩).toArray 172)).alloc (.cells (rq ⟨d,a⟩).toArray 172)) (w2.heap.size+1) 172 (rq ⟨d,a⟩).toArray:=by have:=aB.new (w2.alloc (.cells (rq ⟨d,a⟩).toArray 172)) 172 (rq ⟨d,a⟩).toArray;simpa using this
     have HG:=aa hG;have amr:aj w ((w2.alloc (.cells (rq ⟨d,a⟩).toArray 172)).alloc (.cells (rq ⟨d,a⟩).toArray 172)):=HA2.ae.bel.trans ((hb.mono ahF).trans (bW.mono (by have:=hb.size;omega)));have Cc:=aa amr;clear hown hG amr bW hb;have SK:rest <:+ s.data.toList:=(LF jM.ae).trans (List.drop_suffix _ _);have hq:s.data.toList.drop (s.size - rest.length)=rest:=by have:=drop_suffix SK;rwa [HLEN.ae] at this
     have aAr:rest.length < s.size - a:=by have:=Au jM.ae;rwa [length_drop,HLEN.ae] at this
     have HQ:=aa hq;have aAs:s.size - rest.length<=fH s (s.size - rest.length):=by unfold fH;rw[HQ.ae];have:=kq false rest;omega
     clear hq SK;unfold rq at HG HO Cc;go_wp2_with (first
      |(at_builtin
        refine aU rfl (.tmp 30) (.tmp 32) 164 rfl _ 40 Tryz.underlying164 LG rfl Tq ⟨d,a⟩ rfl (by simp[rq,Value.oneCell']) rfl HO.ae (w2.heap.size+1) rfl HG.ae Tq Tq Cc.ae.size ?_
        intro v2 w3 o2 g2
        have b2:=bj HO.ae g2 Cc.ae.size
        have O2:=aa o2
        have B2:=aa (Cc.ae.trans b2)
        clear o2 g2 HO HG b2 Cc))
     refine(FV s (s.size - rest.length) _ (Nat.sub_le _ _) hs).mono ?_;rintro e w4 ⟨rfl,rfl⟩;go_wp2_with fail;go_roundw
     case rel=>
      refine⟨fH s (s.size - rest.length),acc++ [qX.mk d a],v2,rfl,rfl,B2.ae,O2.ae,xK _ _,?_,?_,?_⟩
      ·rw[length_append,length_singleton];omega
      ·rw[mU];exact xL _ _
      ·have e1:s.size - (s[a]::s.data.toList.drop (a+1)).length=a:=by rw[<- cH HB.ae,length_drop,HLEN.ae];omega
       rw[HA2.ae.more,amp (by rw[length_drop,HLEN.ae];omega) (by rw[HA2.ae.skip];exact cH HB.ae) (by rw[<- cH HB.ae];exact jM.ae),e1,acz,mU,SJ,HQ.ae]
     case measure=>have:=xK s (s.size - rest.length);exact Za2
   ·have hnil:s.data.toList.drop a=[]:=drop_eq_nil_of_le Tap;have ZV:=aa hnil;clear hnil;have bW:=(Below.refl wr.heap.size wr).alloc (Nat.le_refl _) (.cells (rq (ZX s.size)).toArray 172);have HO:=aa (HA2.ae.own.later bW);have HG:=aa (aB.new wr 172 (rq (ZX s.size)).toArray);have Cc:=aa (HA2.ae.bel.trans (bW.mono ahF));clear bW;unfold rq ZX at HG HO Cc;go_wp2_with (first
     |(at_builtin
       refine aU rfl (.tmp 37) (.tmp 41) 164 rfl _ 40 Tryz.underlying164 LG rfl Tq (ZX s.size) rfl (by simp[rq,Value.oneCell']) rfl HO.ae wr.heap.size rfl HG.ae Tq Tq Cc.ae.size ?_
       intro v2 w3 o2 g2
       have b2:=bj HO.ae g2 Cc.ae.size
       have O2:=aa o2
       have B2:=aa (Cc.ae.trans b2)
       clear o2 g2 HO HG b2 Cc))
    go_ret3;unfold vX;rw[HPO.ae,HA2.ae.more,ZV.ae,ahD rfl];exact⟨v2,rfl,O2.ae,B2.ae⟩
theorem SL (t:qX):(rq t).length=4:=rfl
variable{w:World}{base:Nat}{v:Value}
theorem LH.at_{l:List qX}(h:LH w base v l) {k:Nat} {t:qX}(hk:l[k]?=some t):
  ∃g c,v=aI g l.length c/\g < w.heap.size/\w.cell? ⟨g,k*4,none⟩=some (ag t.w.k)/\w.cell? ⟨g,k*4+1,none⟩=some (.string ⟨t.w.s.toArray⟩)/\w.cell? ⟨g,k*4+2,none⟩=some (af t.w.n)/\w.cell? ⟨g,k*4+3,none⟩=some (af t.p):=by obtain⟨g,c,hv,_,hlt,hc⟩:=aH.cell SL h hk;exact⟨g,c,hv,hlt,hc 0 _ rfl,hc 1 _ rfl,hc 2 _ rfl,hc 3 _ rfl⟩
variable{A:Option Addr}
theorem LH.cells{n c:Nat} {l:List qX}(h:LH w base (.slice A n c) l)(hne:l≠ []):
  ∃g,A=some ⟨g,0,none⟩/\base<=g/\g < w.heap.size/\∀k t,l[k]?=some t->w.cell? ⟨g,k*4,none⟩=some (ag t.w.k)/\w.cell? ⟨g,k*4+1,none⟩=some (.string ⟨t.w.s.toArray⟩)/\w.cell? ⟨g,k*4+2,none⟩=some (af t.w.n)/\w.cell? ⟨g,k*4+3,none⟩=some (af t.p):=by
 match l,hne with
 | t0::l,_=>obtain⟨g,c0,hv,hb,hlt,_⟩:=aH.cell SL h (k:=0) (x:=t0) rfl;injection hv with hA _ _;refine⟨g,hA,hb,hlt,λ k t hk=>?_⟩;obtain⟨g',c',hv',_,a⟩:=h.at_ hk;injection hv' with hA' _ _;rw[hA] at hA';injection hA' with hA';injection hA' with hg _ _;subst hg;exact a
structure dv where
 g:Nat
 gl:Nat
 c:Nat
 Vk:List qX
def dv.n (ρ:dv):Nat:=ρ.Vk.length
def dv.ws (ρ:dv):dI:=ρ.Vk.map (·.w)
def dv.bad (ρ:dv):cg->Int
 | .good _=> -1
 | .bad m=>(ρ.n:Int) - m
def dv.cells (ρ:dv)(σ:cg)(big:Bool):Array Value:= #[aI ρ.gl ρ.n ρ.c,af ((ρ.n:Int) - σ.left),af (ρ.bad σ),.bool big]
structure dv.at (ρ:dv) (w:World) (σ:cg) (big:Bool):Prop where
 blk:aB w ρ.g 169 (ρ.cells σ big)
 lt:ρ.gl < ρ.g
 cell:∀k t,ρ.Vk[k]?=some t->w.cell? ⟨ρ.gl,k*4,none⟩=some (ag t.w.k)/\w.cell? ⟨ρ.gl,k*4+1,none⟩=some (.string ⟨t.w.s.toArray⟩)/\w.cell? ⟨ρ.gl,k*4+2,none⟩=some (af t.w.n)/\w.cell? ⟨ρ.gl,k*4+3,none⟩=some (af t.p)
 of:σ.of ρ.ws
 small:ρ.n<=5000
 B6:∀t∈ρ.Vk,0<=t.w.n/\t.w.n<=9223372036854775807
section
variable {ρ:dv} {w w':World} {σ:cg} {big:Bool}
theorem dv.at.later (h:ρ.at w σ big)(hb:aj w w'):ρ.at w' σ big:=
 ⟨h.blk.later hb,h.lt,λ k t hk=>by
   have hl:ρ.gl < w.heap.size:=Nat.lt_trans h.lt h.blk.lt
   have c:=λ o=>hb.cell (p:=⟨ρ.gl,o,none⟩) hl
   obtain⟨h1,h2,h3,h4⟩:=h.cell k t hk
   exact⟨(c _).trans h1,(c _).trans h2,(c _).trans h3,(c _).trans h4⟩,h.of,h.small,h.B6⟩
theorem dv.at.FW (h:ρ.at w σ big):ρ.g < w.heap.size:=h.blk.lt
theorem dv.at.set {yX:cg} {PA:Bool}(h:ρ.at w σ big)(hw:aB w' ρ.g 169 (ρ.cells yX PA))(hg:w.grownBy w' (some ρ.g))(ho:yX.of ρ.ws):ρ.at w' yX PA:=
 ⟨hw,h.lt,λ k t hk=>by
   have hl:ρ.gl < w.heap.size:=Nat.lt_trans h.lt h.blk.lt
   have c:=cell_of_heap (hg.block ρ.gl hl (λ e=>by injection e with e;have:=h.lt;omega))
   obtain⟨h1,h2,h3,h4⟩:=h.cell k t hk
   exact⟨(c _).trans h1,(c _).trans h2,(c _).trans h3,(c _).trans h4⟩,ho,h.small,h.B6⟩
theorem dv.at.left (h:ρ.at w σ big):0 < σ.left/\σ.left<=ρ.n:=by have:=cg.Pu h.of;simpa [dv.ws,dv.n] using this
theorem dv.at.far {q:Nat}(h:ρ.at w σ big)(hq:ρ.g < q)(i:Nat)(u:Value):ρ.at (w.setCell ⟨q,i,none⟩ u) σ big:=
 ⟨h.blk.far (p:=⟨q,i,none⟩) Va u,h.lt,λ k t hk=>by
   have c:=cell_of_heap (Below.heap_setCell w ⟨q,i,none⟩ u ρ.gl (by have:=h.lt;simp;omega))
   obtain⟨h1,h2,h3,h4⟩:=h.cell k t hk
   exact⟨(c _).trans h1,(c _).trans h2,(c _).trans h3,(c _).trans h4⟩,h.of,h.small,h.B6⟩
theorem dv.at.next (h:ρ.at w σ big):∃t:qX,ρ.Vk[ρ.n - σ.left]?=some t/\(∀l,σ=.good l->∃r,l=t.w::r):=by
 obtain⟨h1,h2⟩:=h.left;have hlt:ρ.n - σ.left < ρ.Vk.length:=by unfold dv.n at*;omega
 refine⟨_,getElem?_eq_getElem hlt,?_⟩;rintro l rfl;obtain⟨t,r,hl,hk⟩:=cg.of_next h.of;refine⟨r,?_⟩;have e:ρ.ws.length - l.length=ρ.n - (cg.good l).left:=by simp[dv.ws,dv.n,cg.left]
 rw[e] at hk;unfold dv.ws at hk;rw[getElem?_map,getElem?_eq_getElem hlt] at hk;simp only[Option.map_some] at hk;injection hk with hk;rw[hk];exact hl
end
structure eE (ρ:dv) (W w':World) (yX:cg) (PA:Bool):Prop where
 at_:ρ.at w' yX PA
 grown:W.grownBy w' (some ρ.g)
section
variable {ρ:dv} {W w w':World} {σ yX:cg} {big PA:Bool}
theorem eE.refl (h:ρ.at w σ big):eE ρ w w σ big:=⟨h,aR (Below.refl _ _)⟩
theorem eE.cZ (h:ρ.at w σ big)(hb:aj w w'):eE ρ w w' σ big:=⟨h.later hb,aR hb⟩
theorem eE.later (h:eE ρ W w σ big)(hb:aj w w'):eE ρ W w' σ big:=⟨h.at_.later hb,aY h.grown (aR hb)⟩
theorem eE.trans (h:eE ρ W w σ big)(k:eE ρ w w' yX PA):eE ρ W w' yX PA:=⟨k.at_,aY h.grown k.grown⟩
theorem eE.size (h:eE ρ W w σ big):W.heap.size<=w.heap.size:=h.grown.size
theorem eE.far {q:Nat}(h:eE ρ W w σ big)(hW:ρ.g < W.heap.size)(hq:W.heap.size<=q)(i:Nat)(u:Value):eE ρ W (w.setCell ⟨q,i,none⟩ u) σ big:=by
 refine⟨h.at_.far Tq i u,h.grown.os,h.grown.tape,h.grown.output,?_,λ k hk hkg=>?_⟩
 ·have:(w.setCell ⟨q,i,none⟩ u).heap.size=w.heap.size:=by simp[World.setCell]
  rw[this];exact h.grown.size
 ·rw[Below.heap_setCell w ⟨q,i,none⟩ u k Va];exact h.grown.block k hk hkg
theorem eE.blk {q:Nat} {t:TypeId} {cs:Array Value}(h:eE ρ W w σ big)(hq:aB W q t cs)(hg:q≠ρ.g):aB w q t cs:=hq.grown h.grown λ e=>hg Tbf
end
variable{σ:cg}
theorem Vl{s:List UInt8} (h:σ.head s=true):∃t r,σ=.good (t::r)/\iY s t=true:=by
 match σ with
 | .bad n=>simp[cg.head,cg.words,dJ] at h
 | .good l=>obtain⟨t,r,e,ht⟩:=Lu (s:=s) (l:=l) h;exact⟨t,r,by rw[e],ht⟩
theorem jU{s:List UInt8} (h:σ.head s=true):dr (may s) σ=.good σ.words.tail:=by rw[Lv,h];rfl
theorem jg{s:List UInt8} (h:σ.head s=false):dr (may s) σ=σ:=by rw[Lv,h];rfl
theorem ru{s:List UInt8} (h:σ.head s=true):dr (must s) σ=.good σ.words.tail:=by rw[FT,h];rfl
theorem zR{s:List UInt8} (h:σ.head s=false):dr (must s) σ=.bad σ.left:=by rw[FT,h];rfl
def vY:List (List UInt8)->Ps Unit
 | []=>pure ()
 | s::ks=>do must s;vY ks
theorem uo (s:List UInt8)(ks:List (List UInt8))(σ:cg):dr (vY (s::ks)) σ=dr (vY ks) (dr (must s) σ):=UW (x:=()) (Pt _ _)
theorem ry (σ:cg):dr (vY []) σ=σ:=UY _ _
theorem Ce (s:List UInt8)(σ:cg):dr (vY [s]) σ=dr (must s) σ:=by rw[uo,ry]
theorem sI (t:Wd)(r:dI):dr vS (.good (t::r))=if t.k=1/\tu t.s=false then .good r else .bad (r.length+1):=by
 simp only[dr,vS];by_cases h:t.k=1/\tu t.s=false
 ·simp only[h,and_self,if_true]
 ·simp only[h,if_false];rfl
theorem PB (t:Wd)(r:dI):kr vS (.good (t::r)) ⟨t.s.toArray⟩:=by
 simp only[kr,vS];by_cases h:t.k=1/\tu t.s=false
 ·simp only[h,and_self,if_true]
 ·simp only[h,if_false]
theorem LI (t:Wd)(r:dI):dr IM (.good (t::r))=if t.k=2 then .good r else .bad (r.length+1):=by
 simp only[dr,IM];by_cases h:t.k=2
 ·simp only[h,if_true]
 ·simp only[h,if_false];rfl
theorem Vm (t:Wd)(r:dI):kr IM (.good (t::r)) t.n:=by
 simp only[kr,IM];by_cases h:t.k=2
 ·simp only[h,if_true]
 ·simp only[h,if_false]
variable{α:Type}
theorem pk{p:Ps α}  {n:Nat}(h:dr p σ=.bad n)(x:α):kr p σ x:=by
 match σ with
 | .bad m=>trivial
 | .good l=>
   simp only[dr,kr] at h ⊢
   cases e:p l with
   | error m=>trivial
   | ok y=>obtain⟨y,r⟩:=y;rw[e] at h;cases h
section
variable {s:List UInt8} {op:Int} {same below:Ps Tr} {σ:cg} {x:Tr}
end
def dv.ptr (ρ:dv):Value:=aw ρ.g
variable{ρ:dv}{big:Bool}
theorem dv.at.facts(h:ρ.at w σ big):
  w.cell? ⟨ρ.g,0,none⟩=some (aI ρ.gl ρ.n ρ.c)/\w.cell? ⟨ρ.g,1,none⟩=some (af ((ρ.n:Int) - σ.left))/\w.cell? ⟨ρ.g,2,none⟩=some (af (ρ.bad σ))/\w.cell? ⟨ρ.g,3,none⟩=some (.bool big)/\
  w.frozen? ⟨ρ.g,1,none⟩=false/\w.frozen? ⟨ρ.g,2,none⟩=false/\w.frozen? ⟨ρ.g,3,none⟩=false:=
 ⟨h.blk.cell 0,h.blk.cell 1,h.blk.cell 2,h.blk.cell 3,h.blk.frozen 1,h.blk.frozen 2,h.blk.frozen 3⟩
theorem dv.at.place(h:ρ.at w σ big):((ρ.n:Int) - σ.left)=((ρ.n - σ.left:Nat):Int):=by have:=h.left;omega
theorem dv.at.SM(h:ρ.at w σ big):decide (ρ.bad σ < 0)=σ.gT:=by
 have hl:=h.left
 match σ,hl with
 | .bad m,hl=>have e:ρ.bad (.bad m)=(ρ.n:Int) - m:=rfl;have e2:(cg.bad m).left=m:=rfl;rw[e2] at hl;rw[e];simp only[cg.gT,decide_eq_false_iff_not];omega
 | .good l,_=>rfl
theorem B7{s:ByteArray} {t:Wd}:iY s.data.toList t=((t.k==1 || t.k==4)&&(t.s==s.toList)):=by unfold iY;rw[ByteArray.toList_eq]
def pX:Obj:=.cells #[ag 0,au,af 0,af 0] 172
def dF (t:qX):Array Value:= #[ag t.w.k,.string ⟨t.w.s.toArray⟩,af t.w.n,af t.p]
structure acC (ρ:dv) (w:World) (t:qX) (pl:Nat) (bd:Int):Prop where
 c0:w.cell? ⟨ρ.g,0,none⟩=some (aI ρ.gl ρ.n ρ.c)
 c1:w.cell? ⟨ρ.g,1,none⟩=some (af pl)
 c2:w.cell? ⟨ρ.g,2,none⟩=some (af bd)
 d0:w.cell? ⟨ρ.gl,pl*4,none⟩=some (ag t.w.k)
 d1:w.cell? ⟨ρ.gl,pl*4+1,none⟩=some (.string ⟨t.w.s.toArray⟩)
 d2:w.cell? ⟨ρ.gl,pl*4+2,none⟩=some (af t.w.n)
 d3:w.cell? ⟨ρ.gl,pl*4+3,none⟩=some (af t.p)
variable{w':World}{pl:Nat}{bd:Int}
theorem acC.later{t:qX}  (h:acC ρ w t pl bd)(hb:aj w w'):acC ρ w' t pl bd:=by obtain⟨h0,h1,h2,h3,h4,h5,h6⟩:=h;exact⟨(hb.cell (jS h0)).trans h0,(hb.cell (jS h1)).trans h1,(hb.cell (jS h2)).trans h2,(hb.cell (jS h3)).trans h3,(hb.cell (jS h4)).trans h4,(hb.cell (jS h5)).trans h5,(hb.cell (jS h6)).trans h6⟩
theorem dv.at.vZ(h:ρ.at w σ big):∃(t:qX) (pl:Nat) (bd:Int),pl=ρ.n - σ.left/\pl < ρ.n/\ρ.n<=5000/\bd=ρ.bad σ/\decide (bd < 0)=σ.gT/\(∀l,σ=.good l->∃r,l=t.w::r)/\0<=t.w.n/\t.w.n<=9223372036854775807/\acC ρ w t pl bd:=by obtain⟨t,ht,hg⟩:=h.next;obtain⟨d0,d1,d2,d3⟩:=h.cell _ t ht;obtain⟨c0,c1,c2,c3,f1,f2,f3⟩:=h.facts;have hl:=h.left;rw[h.place] at c1;have hn:=h.B6 t (mem_of_getElem? ht);exact⟨t,_,_,rfl,by omega,h.small,rfl,h.SM,hg,hn.1,hn.2,c0,c1,c2,d0,d1,d2,d3⟩
theorem zgS.KbO(h:p:=by
 go_enter Tryz.func133,Tryz.ntmps133;go_wp2_with fail;go_region;clear c0 c1 c2 d0 d1 d2 d3 y0 y1 y2 z0 z1 z2 z3 x0 x1 v0 v1 v2 v3;obtain⟨u0,u1,u2,u3,_⟩:=bO HT;unfold dF at x2 u0 u1 u2 u3 hb;generalize (w.alloc _).drew=W at*;go_wp2_with fail
 all_goals
  go_ret;refine⟨mb ?_,hb⟩;rw[XG.ae];generalize (t.w.s==s.toList)=X;cases X <;> rw[Bool.eq_iff_iff] <;> simp <;> omega):p:=h
theorem lL (ρ:dv)(w:World)(σ:cg)(big:Bool)(h:ρ.at w σ big)(s:ByteArray):
  ar 133 #[ρ.ptr,.string s] w λ e w'=>e=.returned (.bool (σ.head s.data.toList))/\aj w w':=by
 obtain⟨t,pl,bd,hpl,hlt,hsm,uq,cf,hg,Ij,uV,hp⟩:=h.vZ;have yJ:=hp.later (ah w pX);have LJ:=hp.later ((ah w (.cells (dF t) 172)).drew)
 have hHD:σ.head s.data.toList=(decide (bd < 0)&&((t.w.k==1 || t.w.k==4)&&(t.w.s==s.toList))):=by
  rw[cf]
  match σ with
  | .bad m=>rfl
  | .good l=>obtain⟨r,rfl⟩:=hg l rfl;rw[<- B7];rfl
 have XG:=aa hHD;have hb:=(ah w (.cells (dF t) 172)).drew;have HT:=(aB.new w 172 (dF t)).drew;clear hHD hpl hg cf uq h;unfold dv.ptr;generalize σ.head s.data.toList=R at*;open zgS in exact ZeF
def Cf (ρ:dv)(W:World)(yX:cg)(big:Bool)(e:Ending)(w':World):Prop:=e=.returned (.tuple #[])/\eE ρ W w' yX big
theorem pn (ρ:dv)(w:World)(σ:cg)(big:Bool)(h:ρ.at w σ big):
  ar 88 #[ρ.ptr] w (Cf ρ w (.bad σ.left) big):=by
 obtain⟨c0,c1,c2,c3,f1,f2,f3⟩:=h.facts;have hlf:=h.left;have cf:=h.SM;have Uh:cg.of ρ.ws (.bad σ.left):=⟨(cg.Pu h.of).1,(cg.Pu h.of).2⟩;unfold dv.ptr;by_cases hg:ρ.bad σ < 0
 ·have hB:=aB.aT h.blk 2 (af ((ρ.n:Int) - σ.left));go_enter Tryz.func88,Tryz.ntmps88;go_wp2_with fail;go_end0;exact⟨rfl,h.set hB (aC (aR (Below.refl _ _)) 2 _) Uh,aC (aR (Below.refl _ _)) 2 _⟩
 ·have uq:σ=.bad σ.left:=by
   match σ with
   | .bad m=>rfl
   | .good l=>exact absurd (by show(-1:Int)< 0;decide) hg
  have HBD:=aa uq;clear uq;go_enter Tryz.func88,Tryz.ntmps88;go_wp2_with fail;go_end0;rw[<- HBD.ae];exact⟨rfl,eE.refl h⟩
variable{l:dI}
theorem dv.at.step{t:Wd} (h:ρ.at w (.good (t::l)) big)(ht:t.k≠0):
  eE ρ w (w.setCell ⟨ρ.g,1,none⟩ (af ((ρ.n:Int) - l.length))) (.good l) big:=by have hB:=aB.aT h.blk 1 (af ((ρ.n:Int) - l.length));refine⟨h.set hB (aC (aR (Below.refl _ _)) 1 _) ⟨?_,h.of.2.tail ht⟩,aC (aR (Below.refl _ _)) 1 _⟩;exact(suffix_cons _ _).trans h.of.1
theorem rz (ρ:dv)(w:World)(σ:cg)(big:Bool)(h:ρ.at w σ big)(s:ByteArray):
  ar 87 #[ρ.ptr,.string s] w λ e w'=>e=.returned (.bool (σ.head s.data.toList))/\eE ρ w w' (dr (may s.data.toList) σ) big:=by
 have hw:=lL ρ w σ big h s;have PD:ρ.ptr=aw ρ.g:=rfl;cases hh:σ.head s.data.toList
 ·rw[hh] at hw;rw[jg hh];go_enter Tryz.func87,Tryz.ntmps87;go_wp2_with (go_at_call 133;refine hw.mono ?_;rintro e w1 ⟨rfl,b1⟩);go_ret;exact⟨rfl,eE.cZ h b1⟩
 ·rw[hh] at hw;obtain⟨t,r,rfl,ht⟩:=Vl hh;rw[jU hh];go_enter Tryz.func87,Tryz.ntmps87;have HH:=aa h;have HK:=aa (amg ht);have hsm:=h.small;clear ht hh h;go_wp2_with (go_at_call 133;refine hw.mono ?_;rintro e w1 ⟨rfl,b1⟩;obtain⟨c0,c1,c2,c3,f1,f2,f3⟩:=(HH.ae.later b1).facts;have hlf:=(HH.ae.later b1).left;have e1:(ρ.n:Int) - (cg.good (t::r)).left+1=(ρ.n:Int) - r.length:=by(simp[cg.left];omega));go_ret;have hd:=dv.at.step (HH.ae.later b1) HK.ae;exact⟨rfl,(eE.cZ HH.ae b1).trans hd⟩
theorem Vn{n k:Nat}(h:pl=n - k)(hk:k<=n):(n:Int) - k=pl:=by omega
theorem zfJ.Kbp(h:p:=by
 by_cases hk:t.w.k=2
 ·have hd:=dv.at.step HF.ae (show t.w.k≠0 by omega);have s2:(W.setCell ⟨ρ.g,1,none⟩ (af ((ρ.n:Int) - r.length))).cell? ⟨w.heap.size,2,none⟩=some (af t.w.n):=(HB.ae.far (p:=⟨ρ.g,1,none⟩) Va _).cell 2;go_wp2_with fail;go_ret;refine⟨t.w.n,Ij,uV,rfl,?_,Vm _ _⟩;rw[LI,if_pos hk];exact HD.ae.trans hd
 ·have g1:((t.w.k:Int) != 2)=true:=by simp;omega
  go_wp2_with (go_at_call 88;refine hwr.mono ?_;rintro e w1 ⟨rfl,d1⟩);go_ret;have e3:dr IM (.good (t.w::r))=.bad (r.length+1):=by rw[LI,if_neg hk]
  refine⟨0,by omega,by omega,rfl,?_,pk e3 _⟩;rw[e3];exact HD.ae.trans d1):p:=h
theorem zhn.Kb0(h:p:=by refine⟨0,by omega,by omega,rfl,?_,FQ _ _ _⟩;exact HD.ae.trans d1):p:=h
theorem zge.KbB(h:p:=by
 by_cases tz:bd < 0
 ·open zfJ in exact ZdS
 ·open zhn in exact Zfq):p:=h
theorem zdk.KaC(h:p:=by go_enter Tryz.func181,Tryz.ntmps181;open zge in exact Zen):p:=h
theorem Vo (ρ:dv)(w:World)(σ:cg)(big:Bool)(h:ρ.at w σ big):
  ar 181 #[ρ.ptr] w λ e w'=>∃x:Int,0<=x/\x<=9223372036854775807/\e=.returned (af x)/\eE ρ w w' (dr IM σ) big/\kr IM σ x:=by
 open zdk in exact Zbp
theorem zfK.Kbp(h:p:=by
 by_cases hk:t.w.k=1
 ·cases hr:tu t.w.s
  ·have HC:=aa (show t.w.k=1/\tu t.w.s=false from⟨hk,hr⟩);have hd0:=λ(W2:World) (hb2:aj W W2)=>dv.at.step (HF.ae.later hb2) (show t.w.k≠0 by omega)
   have HD0:=aa hd0;have hs0:=λ(W2:World) (hb2:aj W W2)=>(HB.ae.later hb2).cell 1
   have HS0:=aa hs0;have HX:=aa (λ(W2:World) (hb2:aj W W2)=>(HB.ae.later hb2).far (p:=⟨ρ.g,1,none⟩) Va (af ((ρ.n:Int) - r.length)));rw[hr] at hres;have jM:=aa hres;clear hd0 hs0 hr hres;go_wp2_with (go_at_call 183;go_loud (refine jM.ae.mono ?_;rintro e w1 ⟨rfl,b1⟩;obtain⟨q0,q1,q2,q3,p1,p2,p3⟩:=(HF.ae.later b1).facts;have s1:=(HX.ae w1 b1).cell 1;have e2:(ρ.n:Int) - (cg.good (t.w::r)).left=pl:=(Vn PE.ae hlf.2);rw[e2] at q1));go_ret;refine⟨⟨t.w.s.toArray⟩,rfl,?_,PB _ _⟩;rw[sI,if_pos HC.ae];exact(HD.ae.later b1).trans (HD0.ae w1 b1)
  ·have e3:dr vS (.good (t.w::r))=.bad (r.length+1):=by rw[sI,if_neg (by rw[hr];simp)]
   have HE3:=aa e3;rw[hr] at hres;have jM:=aa hres;clear hr e3 hres;go_wp2_with (first
    |(go_at_call 183;refine jM.ae.mono ?_;rintro e w1 ⟨rfl,b1⟩)
    |(go_at_call 88;refine(pn ρ _ _ big (HF.ae.later b1)).mono ?_;rintro e w2 ⟨rfl,d1⟩))
   go_ret;refine⟨ByteArray.empty,rfl,?_,pk HE3.ae _⟩;rw[HE3.ae];exact(HD.ae.later b1).trans d1
 ·have e3:dr vS (.good (t.w::r))=.bad (r.length+1):=by rw[sI,if_neg (by simp[hk])]
  have HE3:=aa e3;have g1:((t.w.k:Int) != 1)=true:=by simp;omega
  clear e3;go_wp2_with (go_at_call 88;refine hwr.mono ?_;rintro e w1 ⟨rfl,d1⟩);go_ret;refine⟨ByteArray.empty,rfl,?_,pk HE3.ae _⟩;rw[HE3.ae];exact HD.ae.trans d1):p:=h
theorem zho.Kb0(h:p:=by exact⟨ByteArray.empty,rfl,HD.ae.trans d1,FQ _ _ _⟩):p:=h
theorem zgf.KbB(h:p:=by
 have hres:=Ev ⟨t.w.s.toArray⟩ W;have Az:(⟨t.w.s.toArray⟩:ByteArray).data.toList=t.w.s:=by simp
 rw[Az] at hres;by_cases tz:bd < 0
 ·open zfK in exact ZdS
 ·open zho in exact Zfq):p:=h
theorem zdl.KaC(h:p:=by go_enter Tryz.func137,Tryz.ntmps137;open zgf in exact Zen):p:=h
theorem acD (ρ:dv)(w:World)(σ:cg)(big:Bool)(h:ρ.at w σ big):
  ar 137 #[ρ.ptr] w λ e w'=>∃x:ByteArray,e=.returned (.string x)/\eE ρ w w' (dr vS σ) big/\kr vS σ x:=by
 open zdl in exact Zbp
def bL (ks:List (List UInt8)):Array Value:=(ks.map strOf).toArray
variable{ks:List (List UInt8)}
theorem sJ{b:Nat} (h:aB w b 9 (bL ks)) {i:Nat} {s:List UInt8}(hi:ks[i]?=some s):w.cell? ⟨b,i,none⟩=some (.string ⟨s.toArray⟩):=by rw[h.cell i];simp[bL,hi,strOf]
theorem B8{l:List α} {i:Nat} {x:α}(h:l[i]?=some x):l.drop i=x::l.drop (i+1):=by obtain⟨hlt,he⟩:=List.getElem?_eq_some_iff.1 h;rw[drop_eq_getElem_cons hlt,he]
theorem Cg (ks:List (List UInt8))(n:Nat):dr (vY ks) (.bad n)=.bad n:=rfl
theorem Vp (ρ:dv)(w:World)(σ:cg)(big:Bool)(h:ρ.at w σ big)(ks:List (List UInt8))(b n:Nat)(hn:ks.length=n)(hb:aB w b 9 (bL ks))(hbg:ρ.g≠b)(hsm:n<=10):
  ar 138 #[ρ.ptr,aI b n n] w (Cf ρ w (dr (vY ks) σ) big):=by
 have HH:=aa h;have HB:=aa hb;clear h hb;go_enter Tryz.func138,Tryz.ntmps138;go_wp2_with fail;go_loopw [4] (λ u wr=>∃(i:Nat) (E:cg),i<=n/\u=af i/\eE ρ w wr E big/\dr (vY ks) σ=dr (vY (ks.drop i)) E) (λ u _=>n - (intOf u).toNat);case atStart=>exact⟨0,σ,Nat.zero_le _,rfl,eE.refl HH.ae,rfl⟩
 case round=>
  obtain⟨i,E,hi,rfl,hD,hp⟩:=hrel;have H2:=aa hD;have HP:=aa hp;clear hD hp;by_cases hlt:i < n
  ·obtain⟨s,hs⟩:∃s,ks[i]?=some s:=⟨_,getElem?_eq_getElem Tq⟩;have hc:=sJ (H2.ae.blk HB.ae (λ e=>hbg e.symm)) hs;have uW:=aa (B8 hs);clear hs;have hm:=rz ρ wr E big H2.ae.at_ ⟨s.toArray⟩;cases hh:E.head s
   ·have XG:=aa hh;rw[show E.head (⟨s.toArray⟩:ByteArray).data.toList=false from hh,jg (s:=(⟨s.toArray⟩:ByteArray).data.toList) hh] at hm;clear hh;go_wp2_with (first
     |(go_at_call 87;refine hm.mono ?_;rintro e w1 ⟨rfl,d1⟩)
     |(go_at_call 88;refine(pn ρ _ _ big d1.at_).mono ?_;rintro e w2 ⟨rfl,d2⟩))
    go_end0;refine⟨rfl,?_⟩;rw[HP.ae,uW.ae,uo,zR XG.ae,Cg];exact H2.ae.trans (d1.trans d2)
   ·have XG:=aa hh;rw[show E.head (⟨s.toArray⟩:ByteArray).data.toList=true from hh,jU (s:=(⟨s.toArray⟩:ByteArray).data.toList) hh] at hm;clear hh;go_wp2_with (first
     |(go_at_call 87;refine hm.mono ?_;rintro e w1 ⟨rfl,d1⟩))
    go_roundw;case rel=>refine⟨i+1,_,by omega,by go_num,H2.ae.trans d1,?_⟩;rw[HP.ae,uW.ae,uo,ru XG.ae]
    case measure=>exact Za2
  ·obtain rfl:i=n:=by omega
   have hd:ks.drop i=[]:=drop_eq_nil_of_le Tq;rw[hd] at HP;go_wp2_with fail;go_end0;refine⟨rfl,?_⟩;rw[HP.ae,ry];exact H2.ae
theorem FX (ρ:dv)(w:World)(σ:cg)(big:Bool)(h:ρ.at w σ big)(n:Nat)(hn:n<=1000000):
  ar 140 #[ρ.ptr,af n] w λ e w'=>e=.returned (.bool (σ.head dM))/\eE ρ w w' (dr (may dM) σ) (big || decide (64 < n)):=by
 have PD:ρ.ptr=aw ρ.g:=rfl;obtain⟨c0,c1,c2,c3,f1,f2,f3⟩:=h.facts;by_cases h64:64 < n
 ·have hB:=aB.aT h.blk 3 (.bool true);have hg:w.grownBy (w.setCell ⟨ρ.g,3,none⟩ (.bool true)) (some ρ.g):=aC (aR (Below.refl _ _)) 3 _;have hat:ρ.at (w.setCell ⟨ρ.g,3,none⟩ (.bool true)) σ true:=h.set hB hg h.of;have hm:=rz ρ _ σ true hat ⟨#[44]⟩;have e1:(big || decide (64 < n))=true:=by simp[h64]
  have hn:(64:Int)< n:=by omega
  rw[e1];clear h hat hB e1;unfold dv.ptr at*;go_enter Tryz.func140,Tryz.ntmps140;go_wp2_with (first
   |(go_at_call 87;refine hm.mono ?_;rintro e w1 ⟨rfl,d1⟩))
  go_ret;exact⟨rfl,⟨d1.at_,aY hg d1.grown⟩⟩
 ·have hm:=rz ρ _ σ big h ⟨#[44]⟩;have e1:(big || decide (64 < n))=big:=by simp[h64]
  have hn:¬(64:Int)< n:=by omega
  rw[e1];clear h e1;unfold dv.ptr at*;go_enter Tryz.func140,Tryz.ntmps140;go_wp2_with (first
   |(go_at_call 87;refine hm.mono ?_;rintro e w1 ⟨rfl,d1⟩))
  go_ret;exact⟨rfl,d1⟩
def kO (lv:Nat)(t:Wd):Int:=(ZF (opsL lv) [t]).getD 0
variable{lv:Nat}
theorem ahH{t:Wd}(h1:t.k≠1)(h4:t.k≠4):kO lv t=0:=by
 unfold kO
 have:∀ks,ZF ks [t]=none:=by
  intro ks
  induction ks with
  | nil=>rfl
  | cons a ks ih=>obtain⟨s,o⟩:=a;simp[ZF,dJ,iY,h1,h4,ih]
 rw[this];rfl
theorem SN{t:Wd}(h:t.k=1\/t.k=4):kO lv t=((opsL lv).lookup t.s).getD 0:=by
 unfold kO;congr 1;have hk:(t.k==1 || t.k==4)=true:=by rcases h with h | h <;> simp[h]
 generalize opsL lv=ks
 induction ks with
 | nil=>rfl
 | cons a ks ih=>obtain⟨s,o⟩:=a;simp only[ZF,dJ,iY,hk,Bool.true_and,List.lookup];rw[ih];cases e:(t.s==s)<;> simp
def sK (lv:Nat)(t:Wd)(w:World)(e:Ending)(w':World):Prop:=e=.returned (ag (kO lv t))/\aj w w'
theorem mW (lv:Nat)(hlv:lv=0\/lv=1\/lv=4\/lv=5)(t:qX)(w:World)(hk:t.w.k=1\/t.w.k=4):
  ar 200 #[af lv,.agg (dF t)] w (sK lv t.w w):=by
 have HR:=aa (SN (lv:=lv) hk);have hb:=ah w (.cells (dF t) 172);obtain⟨u0,u1,u2,u3,_⟩:=bO (aB.new w 172 (dF t));unfold sK;unfold dF at*;rcases hk with hk | hk
 ·have n1:((t.w.k:Int) != 1)=false:=by simp;omega
  exact ZcP
 ·have n1:((t.w.k:Int) != 1)=true:=by simp;omega
  have n2:((t.w.k:Int) != 4)=false:=by simp;omega
  exact ZcP
def ll:List (List UInt8):=[[61],[60,62],[60],[60,61],[62],[62,61]]
theorem B9{x:List UInt8} {i:Nat}(hi:i < 6):∃y,ll[i]?=some y/\((opsL 3).drop i).lookup x=if x==y then some ((10:Int)+i)else((opsL 3).drop (i+1)).lookup x:=by
 rcases(by omega:i=0\/i=1\/i=2\/i=3\/i=4\/i=5)with rfl | rfl | rfl | rfl | rfl | rfl <;> refine⟨_,rfl,?_⟩<;> simp[opsL,List.lookup,amb,amc,amd,ame,ahr,amf] <;> split <;> simp_all
theorem PF (t:qX)(w:World)(hk:t.w.k=1\/t.w.k=4):
  ar 200 #[af (3:Nat),.agg (dF t)] w (sK 3 t.w w):=by
 have HR:=aa (SN (lv:=3) hk);obtain⟨u0,u1,u2,u3,_⟩:=bO (aB.new w 172 (dF t))
 have hn:(((t.w.k:Int) != 1)=false)\/((((t.w.k:Int) != 1)=true)/\(((t.w.k:Int) != 4)=false)):=by
  rcases hk with hk | hk
  ·exact .inl Va
  ·exact .inr ⟨by simp;omega,by simp;omega⟩
 clear hk;have b1:=ai.then (ah w (.cells (dF t) 172)) (ah _ (.cells (bL ll) 9));have B1:=(aB.new w 172 (dF t)).alloc (.cells (bL ll) 9);have B2:=aB.new (w.alloc (.cells (dF t) 172)) 9 (bL ll);rw[World.size_alloc] at B2;have eL:=aa B1;have fG:=aa B2;have hb:=aa b1;clear B1 B2 b1;unfold sK;have amu:bL ll= #[.string ⟨#[61]⟩,.string ⟨#[60,62]⟩,.string ⟨#[60]⟩,.string ⟨#[60,61]⟩,.string ⟨#[62]⟩,.string ⟨#[62,61]⟩]:=rfl;rw[amu] at eL fG hb;unfold dF at*;generalize kO 3 t.w=R at*
 rcases hn with n1 |⟨n1,n2⟩;all_goals
  go_enter Tryz.func200,Tryz.ntmps200;go_wp2_with fail;clear u0 u1 u2 u3;generalize (w.alloc _).alloc _=W at*;go_loopw [6] (λ u wr=>∃k:Nat,k<=6/\u=af k/\aj W wr/\(opsL 3).lookup t.w.s=((opsL 3).drop k).lookup t.w.s) (λ u _=>6 - (intOf u).toNat);case atStart=>exact⟨0,Nat.zero_le _,rfl,Below.refl _ _,rfl⟩
  case round=>
   obtain⟨k,hi,rfl,hP,hlk⟩:=hrel;have Ee:=aa hlk;have jN:=aa hP;clear hlk hP;by_cases hlt:k < 6
   ·obtain⟨y,hy,hstep⟩:=B9 (x:=t.w.s) hlt;have HST:=aa hstep;have c2:=(fG.ae.later jN.ae).cell k;rw[<- amu,show(bL ll)[k]?=some (.string ⟨y.toArray⟩) by simp[bL,hy,strOf]] at c2;have c1:=(eL.ae.later jN.ae).cell 1;have td:k < 6:=hlt;clear hy hstep;cases he:(t.w.s==y)
    ·have HE:=aa he;have t1:(y==t.w.s)=false:=by rw[beq_eq_false_iff_ne] at he ⊢;exact λ e=>he e.symm
     clear he;go_wp2_with fail;go_region;go_wp2_with fail;go_roundw;case rel=>refine⟨k+1,by omega,by go_num,jN.ae.drew,?_⟩;rw[Ee.ae,HST.ae,HE.ae];rfl
     case measure=>simp[intOf];omega
    ·have HE:=aa he;have t1:(y==t.w.s)=true:=by rw[beq_iff_eq] at he ⊢;exact he.symm
     clear he;go_wp2_with fail;go_region;go_wp2_with fail;go_ret;refine⟨?_,ai.then hb.ae jN.ae.drew⟩;rw[HR.ae,Ee.ae,HST.ae,HE.ae];refine mS ?_;rcases(by omega:k=0\/k=1\/k=2\/k=3\/k=4\/k=5)with rfl | rfl | rfl | rfl | rfl | rfl <;> rfl
   ·obtain rfl:k=6:=by omega
    go_wp2_with fail;go_ret;rw[HR.ae,Ee.ae];exact⟨rfl,ai.then hb.ae jN.ae⟩
theorem PG (lv:Nat)(hlv:lv=0\/lv=1\/lv=3\/lv=4\/lv=5)(t:qX)(w:World):
  ar 200 #[af lv,.agg (dF t)] w (sK lv t.w w):=by
 by_cases hk:t.w.k=1\/t.w.k=4
 ·rcases hlv with rfl | rfl | rfl | rfl | rfl
  ·exact mW 0 Vb t w hk
  ·exact mW 1 Vb t w hk
  ·exact PF t w hk
  ·exact mW 4 Vb t w hk
  ·exact mW 5 Vb t w hk
 ·have hb:=ah w (.cells (dF t) 172);obtain⟨u0,u1,u2,u3,_⟩:=bO (aB.new w 172 (dF t));unfold sK;unfold dF at*;have HR:=aa (ahH (lv:=lv) (λ e=>hk (.inl e)) (λ e=>hk (.inr e)));generalize kO lv t.w=R at*;have n1:((t.w.k:Int) != 1)=true:=by simp;omega
  have n2:((t.w.k:Int) != 4)=true:=by simp;omega
  go_enter Tryz.func200,Tryz.ntmps200;go_wp2_with fail;go_ret;rw[HR.ae];exact⟨rfl,hb⟩
def qm:Obj:=.cells #[ag 0,ag 0,af 0,au,au,af 0,az] 46
variable{q:Nat}{y:Ex}
theorem dt(h:aB w q 46 (bF y).toArray):
  w.cell? ⟨q,0,none⟩=some (ag y.op)/\w.cell? ⟨q,1,none⟩=some (ag y.v.k)/\w.cell? ⟨q,2,none⟩=some (af y.v.n)/\w.cell? ⟨q,3,none⟩=some (.string y.v.s)/\w.cell? ⟨q,4,none⟩=some (.string y.name)/\w.cell? ⟨q,5,none⟩=some (af y.width)/\w.cell? ⟨q,6,none⟩=some (.slice y.A y.n y.c):=
 ⟨h.cell 0,h.cell 1,h.cell 2,h.cell 3,h.cell 4,h.cell 5,h.cell 6⟩
variable{T:TypeId}{d e f:Value}
theorem bR{a b c g:Value}(h:aB w q T #[a,b,c,d,e,f,g]):
  w.cell? ⟨q,0,none⟩=some a/\w.cell? ⟨q,1,none⟩=some b/\w.cell? ⟨q,2,none⟩=some c/\w.cell? ⟨q,3,none⟩=some d/\w.cell? ⟨q,4,none⟩=some e/\w.cell? ⟨q,5,none⟩=some f/\w.cell? ⟨q,6,none⟩=some g:=
 ⟨h.cell 0,h.cell 1,h.cell 2,h.cell 3,h.cell 4,h.cell 5,h.cell 6⟩
variable{cs:Array Value}
theorem ei(h:aB w q 46 cs):
  w.frozen? ⟨q,0,none⟩=false/\w.frozen? ⟨q,1,none⟩=false/\w.frozen? ⟨q,2,none⟩=false/\w.frozen? ⟨q,3,none⟩=false/\w.frozen? ⟨q,4,none⟩=false/\w.frozen? ⟨q,5,none⟩=false/\w.frozen? ⟨q,6,none⟩=false:=
 ⟨h.frozen 0,h.frozen 1,h.frozen 2,h.frozen 3,h.frozen 4,h.frozen 5,h.frozen 6⟩
def dT (w:World)(q:Nat)(y:Ex):World:=((((((w.setCell ⟨q,0,none⟩ (ag y.op)).setCell ⟨q,1,none⟩ (ag y.v.k)).setCell ⟨q,2,none⟩ (af y.v.n)).setCell ⟨q,3,none⟩ (.string y.v.s)).setCell ⟨q,4,none⟩ (.string y.name)).setCell ⟨q,5,none⟩ (af y.width)).setCell ⟨q,6,none⟩ (.slice y.A y.n y.c)
theorem ej{a b c g:Value}(h:aB w q T #[a,b,c,d,e,f,g])(y:Ex):aB (dT w q y) q T (bF y).toArray:=by have:=((((((h.aT 0 (ag y.op)).aT 1 (ag y.v.k)).aT 2 (af y.v.n)).aT 3 (.string y.v.s)).aT 4 (.string y.name)).aT 5 (af y.width)).aT 6 (.slice y.A y.n y.c);exact ZdI
theorem Vq{p:Nat}  (h:aB w p T cs)(hp:p≠q)(y:Ex):aB (dT w q y) p T cs:=
 ((((((h.far (p:=⟨q,0,none⟩) hp _).far (p:=⟨q,1,none⟩) hp _).far (p:=⟨q,2,none⟩) hp _).far (p:=⟨q,3,none⟩) hp _).far (p:=⟨q,4,none⟩) hp _).far (p:=⟨q,5,none⟩) hp _).far (p:=⟨q,6,none⟩) hp _
variable{W:World}
theorem eE.dT(h:eE ρ W w σ big)(hW:ρ.g < W.heap.size)(hq:W.heap.size<=q)(y:Ex):eE ρ W (dT w q y) σ big:=
 ((((((h.far hW hq 0 _).far hW hq 1 _).far hW hq 2 _).far hW hq 3 _).far hW hq 4 _).far hW hq 5 _).far hW hq 6 _
theorem afo{S:World->Nat->Prop}(hs:∀(w:World) (i:Nat) (u:Value),∀b,S w b->(∀o,(w.setCell ⟨q,i,none⟩ u).cell? ⟨b,o,none⟩=w.cell? ⟨b,o,none⟩)/\S (w.setCell ⟨q,i,none⟩ u) b)(y:Ex):∀b,S w b->(∀o,(Go.Proofs.YtndgjggokjickaaGreatDoor.R.dT w q y).cell? ⟨b,o,none⟩=w.cell? ⟨b,o,none⟩)/\S (Go.Proofs.YtndgjggokjickaaGreatDoor.R.dT w q y) b:=by intro b hb;obtain⟨c0,s0⟩:=hs w 0 (ag y.op) b hb;obtain⟨c1,s1⟩:=hs _ 1 (ag y.v.k) b s0;obtain⟨c2,s2⟩:=hs _ 2 (af y.v.n) b s1;obtain⟨c3,s3⟩:=hs _ 3 (.string y.v.s) b s2;obtain⟨c4,s4⟩:=hs _ 4 (.string y.name) b s3;obtain⟨c5,s5⟩:=hs _ 5 (af y.width) b s4;obtain⟨c6,s6⟩:=hs _ 6 (.slice y.A y.n y.c) b s5;exact⟨λ o=>(c6 o).trans ((c5 o).trans ((c4 o).trans ((c3 o).trans ((c2 o).trans ((c1 o).trans (c0 o)))))),s6⟩
variable{B:Nat}{t:Tr}
theorem Tr.at_.dT(h:t.at_ w (jo B w) y)(hq:q < B)(z:Ex):t.at_ (dT w q z) (jo B (Go.Proofs.YtndgjggokjickaaGreatDoor.R.dT w q z)) y:=Tr.at_.keep (afo (S:=λ w=>jo B w) (λ w i u=>sG hq i u) z) t y h
section
variable {lv:Nat} {σ yX:cg} {x y:Tr} {o:Int}
end
theorem Ch (lv:Nat)(z:Int)(hz:z=lv)(hlv:lv=0\/lv=1\/lv=3\/lv=4\/lv=5)(t:qX)(w:World):
  ar 200 #[af z,.agg #[ag t.w.k,.string ⟨t.w.s.toArray⟩,af t.w.n,af t.p]] w λ e w'=>e=.returned (ag (kO lv t.w))/\aj w w':=by subst hz;exact PG lv hlv t w
def ur (y:Ex):Obj:=.cells (bF y).toArray 46
def zS (y z:Ex):Obj:=.cells (bF y++bF z).toArray 46
section
variable {σ yX:cg} {x y:Tr} {o:Int}
end
section
variable {t:Wd} {r:dI} {x:Tr}
structure Plain (t:Wd):Prop where
 i:t.k≠2
 s:t.k≠3
structure LM (t:Wd):Prop where
 p:Plain t
 wt:iY Pk t=false
 wf:iY Aw t=false
 wn:iY ZA t=false
 wo:iY eC t=false
end
section
variable {n:ByteArray} {σ:cg} {z:Tr} {op:Int}
end
theorem FY (v:Val)(w:World):ar 208 #[.agg #[ag v.k,af v.n,.string v.s]] w λ e w'=>e=.returned (.agg #[ag 1,ag v.k,af v.n,.string v.s,au,af 0,az])/\aj w w':=by go_enter Tryz.func208,Tryz.ntmps208;go_wp2_with fail;refine bodyPost_ret (v:=.agg #[ag 1,ag v.k,af v.n,.string v.s,au,af 0,az]) ?_ rfl ⟨rfl,ai.then (ah w _) (ah _ _)⟩;simp[results,Tryz.results208,go_sem]
theorem cj (ρ:dv)(w:World)(σ:cg)(big:Bool)(h:ρ.at w σ big)(s:ByteArray)(hh:σ.head s.data.toList=false):
  ar 87 #[ρ.ptr,.string s] w λ e w'=>e=.returned (.bool false)/\eE ρ w w' σ big:=by have:=rz ρ w σ big h s;rw[hh,jg hh] at this;exact this
theorem nZ (ρ:dv)(w:World)(σ:cg)(big:Bool)(h:ρ.at w σ big)(s:ByteArray)(hh:σ.head s.data.toList=true):
  ar 87 #[ρ.ptr,.string s] w λ e w'=>e=.returned (.bool true)/\eE ρ w w' (.good σ.words.tail) big:=by have:=rz ρ w σ big h s;rw[hh,jU hh] at this;exact this
section
variable {P:Program} {l zs:List Oper} {Q:Exit->Act->World->Prop} {u:Nat->Value} {ch:List Nat} {G:List Value->World->Prop} {a0:Act} {w0:World}
end
theorem _root_.Go.Proofs.YtndgjggokjickaaGreatDoor.ai.cell{a b:World}(h:ai a b) {p:Addr}(hp:p.block < a.heap.size):b.cell? p=a.cell? p:=Below.cell h hp
variable{row:Option Nat}
theorem po{a b:World} (h:a.grownBy b row) {p:Addr}(hp:p.block < a.heap.size)(hr:some p.block≠row):b.cell? p=a.cell? p:=by unfold World.cell?;rw[h.block p.block hp hr]
def Ci (o0 o1 o2 o3 o4 o5 o6:Oper)(q d0 d1 d2 d3 d4 d5 d6:Tmp):Bool:=
 (tmpsOf o0== [q])&&(cW [o0,o1,o2,o3,o4,o5,o6] o0 q==none)&&(tmpsOf o1== [d0])&&(cW [o0,o1,o2,o3,o4,o5,o6] o1 d0==some 0)&&
 (tmpsOf o2== [0])&&(cW [o0,o1,o2,o3,o4,o5,o6] o2 0==none)&&(tmpsOf o3== [d2])&&(cW [o0,o1,o2,o3,o4,o5,o6] o3 d2==some 2)&&
 (tmpsOf o4== [d3])&&(cW [o0,o1,o2,o3,o4,o5,o6] o4 d3==some 3)&&(tmpsOf o5== [d1,d4])&&(cW [o0,o1,o2,o3,o4,o5,o6] o5 d1==some 1)&&(cW [o0,o1,o2,o3,o4,o5,o6] o5 d4==some 4)&&
 (tmpsOf o6== [q])&&(cW [o0,o1,o2,o3,o4,o5,o6] o6 q==none)&&
 (o0.dst==some d0)&&(o1.dst==some d1)&&(o2.dst==some d2)&&(o3.dst==some d3)&&(o4.dst==some d4)&&(o5.dst==some d5)&&(o6.dst==some d6)&&
 o0.guard.isNone && o1.guard.isNone && o2.guard.isNone && o3.guard.isNone && o4.guard.isNone && o5.guard.isNone && o6.guard.isNone
section
variable {P:Program} {β:Type} (f:β->List Value) (val:β->Value) (e:TypeId) (size base:Nat) (l:List β) (lv:Value) (Post:β->World->World->Prop) (w0:World)
def SP:List Value->World->Prop
 | [],w=>ai w0 w
 | [a],w=>∃y w1 gG,a=val y/\ai w0 w1/\Post y w1 gG/\ai gG w
 | [a,s],w=>∃y w1 gG g0,a=val y/\s=aI g0 1 1/\ai w0 w1/\Post y w1 gG/\ai gG w/\aB w g0 e (f y).toArray
 | [a,s,v],w=>∃y w1 gG w2,a=val y/\ai w0 w1/\Post y w1 gG/\ai gG w2/\aH f e size w2 base lv l/\w2.grownBy w lv.ownBlock/\aH f e size w base v (l++ [y])/\(lv=az->l=[]->aH f e size w w2.heap.size v [y])
 | _,_=>False
theorem PH (vs:List Value)(w:World)(h:SP f val e size base l lv Post w0 vs w):SP f val e size base l lv Post w0 vs w.drew:=by
 match vs,h with
 | [],h=>exact ai.trans h (ai.drew _)
 | [a],⟨y,w1,gG,h1,h2,h3,h4⟩=>exact⟨y,w1,gG,h1,h2,h3,h4.trans (ai.drew _)⟩
 | [a,s],⟨y,w1,gG,g0,h1,h2,h3,h4,h5,h6⟩=>exact Zhu
 | [a,s,v],⟨y,w1,gG,w2,h1,h2,h3,h4,h5,h6,h7,h8⟩=>exact⟨y,w1,gG,w2,h1,h2,h3,h4,h5,⟨h6.os,h6.tape,h6.output,h6.size,h6.block⟩,h7.later (ai.drew _),λ a b=>(h8 a b).later (ai.drew _)⟩
 | _::_::_::_::_,h=>exact h.elim
variable {f val e size base l lv Post w0}
variable {Q:Exit->Act->World->Prop} {a0:Act} {id:Nat} {o0 o1 o2 o3 o4 o5 o6 o7:Oper} {q d0 d1 d2 d3 d4 d5 d6:Tmp} {qb k g:Nat} {pq ptr:Value} {F:FuncId} {args:Array Value}
theorem zcq.Kar(h:p:=by
 have Ck:∀vs w,SP f val e size base l lv Post w0 vs w->w.cell? ⟨qb,k,none⟩=some lv:=by exact ZbT
 refine oV [o7] [o0,o1,o2,o3,o4,o5,o6] rfl (λ i=>if i=0 then ba qb k else if i=1 then lv else if i=2 then ptr else ba qb k) [3,4,5] (SP f val e size base l lv Post w0) (PH f val e size base l lv Post w0) (ai.refl w0) hm aZ hz hch WC rfl ?_ ?_
 ·refine⟨Zdk,ZfB,Zdn,ZcD,ZbV,?_,Zdo,trivial⟩
  ·intro ρ w vs hc hG hr;rw[t5] at hr;have r0:=hr.1;have r1:=hr.2.1;simp only[s5] at r0;simp only[s5'] at r1;refine⟨g5,?_⟩;show vs.length=2->_;intro hl
   match vs,hl with
   | [a,s],_=>
     have r1:some s=some (ρ (.tmp d4)):=r1;injection r1 with r1;obtain⟨y,w1,gG,gg,ha,hs,h2,h3,h4,h5⟩:=hG;obtain⟨k1,k2,k3⟩:=wh h2 h3 h4;obtain⟨v',w',hrun,ho,yF⟩:=eZ (P:=P) (w:=w) t ty z bytes ht jr hzs hsz hf (h1 y) k2 gg h5 hlen mI (Nat.le_trans hbase k3);refine aq (hap ρ w _ v' w' r0 (r1.symm.trans hs) hrun) ⟨y,w1,gG,w,ha,h2,h3,h4,k2,yF.grown,ho,?_⟩;intro hlv hl0;subst hl0;have k4:aH f e size w w.heap.size lv ([]:List β):=by rw[hlv];exact aH.nil
     obtain⟨v2,C4,afp,ho2,_⟩:=eZ (P:=P) (w:=w) t ty z bytes ht jr hzs hsz hf (h1 y) k4 gg h5 hlen mI (Nat.le_refl _);rw[hrun] at afp;injection afp with e1 e2;rw[e1,e2];exact ho2
 ·exact Zby):p:=h
theorem yY (t ty:TypeId)(z:Value)(bytes:Nat)
  (hm:P.follows .mixedOrders=true) (aZ:dO [o0,o1,o2,o3,o4,o5,o6] a0.tmps.size [o0,o1,o2,o3,o4,o5,o6] 0=true) (hz:eJ [o0,o1,o2,o3,o4,o5,o6,o7] [o7] 7=true) (hch:lr [o0,o1,o2,o3,o4,o5,o6] [3,4,5]=true) (Cj:Ci o0 o1 o2 o3 o4 o5 o6 q d0 d1 d2 d3 d4 d5 d6=true)
  (hq:a0.eval (.tmp q)=pq) (h0:a0.eval (.tmp 0)=ptr)
  (hfa:∀ρ w,ρ (.tmp q)=pq->(execOp ρ o0).run P w=.ok (.value (ba qb k)) w) (C3:∀ρ w,ρ (.tmp q)=pq->(execOp ρ o6).run P w=.ok (.value (ba qb k)) w)
  (hld:∀ρ w,ρ (.tmp d0)=ba qb k->w.cell? ⟨qb,k,none⟩=some lv->(execOp ρ o1).run P w=.ok (.value lv) w)
  (Ew:∀ρ w,ρ (.tmp 0)=ptr->(execOp ρ o2).run P w=.ok (.value ptr) w)
  (bU:∀ρ w,oD ρ->ρ (.tmp d2)=ptr->(execOp ρ o3).run P w=.ok (.enter F args) w)
  (JY:∀ρ w y,ρ (.tmp d3)=val y->(execOp ρ o4).run P w=.ok (.value (aI w.heap.size 1 1)) (w.alloc (.cells (f y).toArray e)))
  (hap:∀ρ w s v' w',ρ (.tmp d1)=lv->ρ (.tmp d4)=s->(Builtin.append_ #[t,t] ty #[lv,s]).run P w=.ok v' w'->(execOp ρ o5).run P w=.ok (.value v') w')
  (ht:P.underlying t=some (.slice e)) (jr:(P.info? e).map (λ i=>(i.zero,i.size,i.bytes))=some (some z,size,bytes)) (hzs:z.cells.size=size) (hsz:0 < size) (hf:∀x,(f x).length=size) (h1:∀y,∀u∈f y,u.oneCell'=true)
  (hown:aH f e size w0 base lv l) (hcell:w0.cell? ⟨qb,k,none⟩=some lv) (Ub:qb≠g) (XH:lv.ownBlock≠some g) (hlq:lv.ownBlock≠some qb) (hlen:(l.length+1)*bytes<=140737488355328) (mI:l.length+1<=140737488355328) (hbase:base<=w0.heap.size)
  (lW:∀w,ai w0 w->Calls P F args w λ e w'=>∃y,e=.returned (val y)/\Post y w w') (SQ:∀y w w',Post y w w'->w.grownBy w' (some g))
  (mg:∀y s v' w1 gG w2 W,ai w0 w1->Post y w1 gG->ai gG w2->aH f e size w2 base lv l->w2.grownBy W lv.ownBlock->aH f e size W base v' (l++ [y])->(lv=az->l=[]->aH f e size W w2.heap.size v' [y])->W.cell? ⟨qb,k,none⟩=some lv->
    wpList P [o0,o1,o2,o3,o4,o5,o6,o7].toArray Q [o7] (((((((a0.put (some d0) (ba qb k)).put (some d1) lv).put (some d2) ptr).put (some d3) (val y)).put (some d4) s).put (some d5) v').put (some d6) (ba qb k)) W):
  (Code.region id [o0,o1,o2,o3,o4,o5,o6,o7].toArray true).wp P Q a0 w0:=by
 open zcq in exact ZaV
end
def tB:List (List UInt8):=[[98,117,99,107,101,116],[99,111,117,110,116],[115,117,109],[109,105,110],[109,97,120],[97,118,103],[102,105,114,115,116],[108,97,115,116]]
def mD:List Int:=[20,22,23,24,25,26,27,28]
def xM (l:List Int):Array Value:=(l.map λ o=>Value.int .u8 o).toArray
theorem Cl{x:List UInt8} {i:Nat}(hi:i < 8):∃y o,tB[i]?=some y/\mD[i]?=some o/\(Po.drop i).lookup x=if x==y then some o else(Po.drop (i+1)).lookup x:=by
 rcases(by omega:i=0\/i=1\/i=2\/i=3\/i=4\/i=5\/i=6\/i=7)with rfl | rfl | rfl | rfl | rfl | rfl | rfl | rfl <;> refine⟨_,_,rfl,rfl,?_⟩<;> simp[Po,List.lookup,BS,IK,ZC,afk,afl,afm,Sy,ZE] <;> split <;> simp_all
section
variable {W:Ps Tr} {σ:cg} {x y:Tr} {op k:Int}
end
variable{W0:World}
theorem eE.own(h:eE ρ W0 w σ big)(hg:ρ.g < W0.heap.size)(k:w.grownBy w' row)(hr:∀G,row=some G->W0.heap.size<=G):eE ρ W0 w' σ big:=by
 have hl:=h.at_.lt;have hs:=h.size;have ng:some ρ.g≠row:=λ e=>by have:=hr _ e.symm;omega
 have nl:some ρ.gl≠row:=λ e=>by have:=hr _ e.symm;omega
 refine⟨⟨h.at_.blk.grown k ng,hl,λ j t ht=>?_,h.at_.of,h.at_.small,h.at_.B6⟩,k.os.trans h.grown.os,k.tape.trans h.grown.tape,k.output.trans h.grown.output,Nat.le_trans hs k.size,λ i hi hne=>?_⟩
 ·have hc:=cell_of_heap (k.block ρ.gl Tq nl);obtain⟨h1,h2,h3,h4⟩:=h.at_.cell j t ht;exact⟨(hc _).trans h1,(hc _).trans h2,(hc _).trans h3,(hc _).trans h4⟩
 ·rw[k.block i Tq (λ e=>by have:=hr _ e.symm;omega)];exact h.grown.block i hi hne
variable{S:Nat->Prop}
theorem PI{f:α->List Value} {e:TypeId} {size:Nat}(hf:∀x,(f x).length=size)    {l:List α}(h:aH f e size w base v l) (hS:∀g,base<=g->g < w.heap.size->S g):
  ∃A c,v=.slice A l.length c/\RL f size w S A l:=by
 obtain⟨A,c,hv,_⟩:=h.reads;refine⟨A,c,hv,?_⟩
 match l,h,hv with
 | [],_,_=>exact .inl rfl
 | x::l,h,hv=>obtain⟨g,c',hv',hb,hlt,_⟩:=h.cell hf (k:=0) (x:=x) rfl;rw[hv] at hv';injection hv' with hA _ _;refine .inr ⟨g,0,hA,hS g hb hlt,λ i y j u hy hu=>?_⟩;obtain⟨g2,c2,hv2,_,_,hc⟩:=h.cell hf hy;rw[hv] at hv2;injection hv2 with Ar _ _;rw[hA] at Ar;injection Ar with Ar;injection Ar with Ar _ _;subst Ar;rw[Nat.zero_add];exact hc j u hu
def NM (ρ:dv)(W:World)(t:Tr)(r:dI)(e:Ending)(w':World):Prop:=∃y,e=.returned (mz y)/\t.at_ w' (jo W.heap.size w') y/\eE ρ W w' (.good r) false
def cT (z:Int)(l:dI)(t:Tr)(r:dI):Prop:=∀(ρ:dv) (w:World),ρ.at w (.good l) false->ar 184 #[ρ.ptr,af z] w (NM ρ w t r)
def mh (l:dI)(t:Tr)(r:dI):Prop:=∀(ρ:dv) (w:World),ρ.at w (.good l) false->ar 199 #[ρ.ptr] w (NM ρ w t r)
variable{r:dI}
theorem NM.put(hg:ρ.g < w.heap.size)(hq:w.heap.size<=q)(hd:eE ρ w W (.good r) false)(ht:t.at_ W (jo (q+1) W) y):NM ρ w t r (.returned (mz y)) (dT W q y):=
 ⟨y,rfl,(ht.dT (Nat.lt_succ_self q) y).more Tq,hd.dT hg hq y⟩
theorem amx(hn:dJ Zz l=false)(H:cT 3 l t r):cT 2 l t r:=by intro ρ w h;have dZ:=h.FW;have hb:=ah w qm;have h0:=h.later hb;have hm:=cj ρ _ _ false h0 ⟨#[110,111,116]⟩ hn;exact ZaQ
theorem amy(hn:dJ sD l=false)(H:cT 7 l t r):cT 6 l t r:=by intro ρ w h;have dZ:=h.FW;have hb:=ah w qm;have h0:=h.later hb;have hm:=cj ρ _ _ false h0 ⟨#[45]⟩ hn;exact ZaQ
theorem zh0.Kcg(h:p:=by
 refine bodyPost_ret (v:=mz y) Zeb rfl ?_
 ·exact NM.put dZ (Nat.le_refl _) D2.ae (ht.more Tq)):p:=h
theorem zeF.Ka0(h:p:=by unfold qm at*;go_enter Tryz.func184,Tryz.ntmps184;go_wp2_with fail;refine(H ρ _ h0).mono ?_;rintro e w2 ⟨y,rfl,ht,PJ⟩;unfold mz bF;have SZ:=PJ.blk HQ.ae Tq;have jM:=aa SZ;obtain⟨z0,z1,z2,z3,z4,z5,z6⟩:=ei SZ;obtain⟨y0,y1,y2,y3,y4,y5,y6⟩:=bR SZ;have D2:=aa ((eE.cZ h hb).trans PJ);have hs2:=PJ.size;open zh0 in exact Zgq):p:=h
theorem amz(H:mh l t r):cT 7 l t r:=by intro ρ w h;open zeF in exact ZcA
variable{u:Wd}
theorem zhY.Kcg(h:p:=by
 refine bodyPost_ret (v:=mz y) Zeb rfl ?_
 ·exact NM.put dZ (Nat.le_refl _) (HD.ae.later hL) ((HT.ae.later hL).more (Nat.le_refl _))):p:=h
theorem zb3.Kan(h:p:=by have SZ:=SR.ae.later hL;have PJ:=HX.ae.later hL;obtain⟨z0,z1,z2,z3,z4,z5,z6⟩:=ei SZ;obtain⟨y0,y1,y2,y3,y4,y5,y6⟩:=bR SZ;obtain⟨x0,x1,x2,x3,x4,x5,x6⟩:=bR PJ;have jM:=aa SZ;have hqb:=SZ.lt;open zhY in exact Zgq):p:=h
theorem zeG.Ka0(h:p:=by
 have n2:(z==2)=false:=by rw[beq_eq_false_iff_ne];omega
 have n6:(z==6)=false:=by rw[beq_eq_false_iff_ne];omega
 have n7:(z==7)=false:=by rw[beq_eq_false_iff_ne];omega
 have n3:(z==3)=false:=by rw[beq_eq_false_iff_ne];omega
 have hz5:0<=z/\z<=5:=by omega
 have HBZ:=aa (λ tk=>Ch lv z hz Tq tk);have Vr:=aa hop;have HH:=aa H;clear hlv hz hop H;unfold qm at*;unfold dv.ptr;go_enter Tryz.func184,Tryz.ntmps184;go_wp2_with (first
  |(go_at_call 184;refine(HH.ae ρ _ h0).mono ?_;rintro e w2 ⟨y,rfl,ht,d2⟩;unfold mz bF))
 have hD:=((eE.cZ h hb).trans d2).later (ah w2 (.cells #[ag y.op,ag y.v.k,af y.v.n,.string y.v.s,.string y.name,af y.width,.slice y.A y.n y.c] 46));have hX:=aB.new w2 46 #[ag y.op,ag y.v.k,af y.v.n,.string y.v.s,.string y.name,af y.width,.slice y.A y.n y.c];have hQ:=(d2.blk HQ.ae Tq).alloc (.cells #[ag y.op,ag y.v.k,af y.v.n,.string y.v.s,.string y.name,af y.width,.slice y.A y.n y.c] 46);have hT:=(ht.later (ah w2 (.cells #[ag y.op,ag y.v.k,af y.v.n,.string y.v.s,.string y.name,af y.width,.slice y.A y.n y.c] 46))).more (B':=w.heap.size+1) Tq;have hqx:w.heap.size+1<=w2.heap.size:=by have:=d2.size;omega
 generalize w2.alloc _=W at*;generalize w2.heap.size=qx at*;have HD:=aa hD;have HX:=aa hX;have SR:=aa hQ;have HT:=aa hT;clear hD hX hQ hT ht d2 h0 hb HQ HH;go_loopg [] 0 (λ k wr=>wr=W);case atStart=>rfl
 case round=>
  obtain rfl:_=W:=hrel;obtain⟨tk,pl,bd,hpl,apk,amA,uq,cf,hg,Ij,uV,hp⟩:=HD.ae.at_.vZ;obtain⟨r',mY⟩:=hg _ rfl;obtain rfl:u=tk.w:=by injection mY
  have tz:bd < 0:=by simpa [cg.gT] using cf
  have HP:=aa hp;have c2:=hp.c2;have hbz:=HBZ.ae tk;rw[Vr.ae] at hbz;clear hpl hg cf uq hp mY;open zb3 in exact ZaI):p:=h
theorem sL(lv:Nat)(hlv:lv=0\/lv=1\/lv=4\/lv=5)   (hop:kO lv u=0)(H:cT ((lv:Int)+1) l t (u::r)):cT lv l t (u::r):=by intro ρ w h;obtain⟨z,hz⟩:∃z:Int,z=lv:=⟨_,rfl⟩;rw[<- hz] at H ⊢;open zeG in exact ZcA
theorem Cm{t:Wd} (hk:t.k=1)(hr:tu t.s=false)(ρ:dv)(w:World)(h:ρ.at w (.good (t::r)) false):
  ar 137 #[ρ.ptr] w λ e w'=>∃n:ByteArray,n=⟨t.s.toArray⟩/\e=.returned (.string n)/\eE ρ w w' (.good r) false:=by refine(acD ρ w _ false h).mono ?_;rintro e w' ⟨x,rfl,d,hg⟩;rw[sI,if_pos ⟨hk,hr⟩] at d;simp only[kr,vS,hk,hr,and_self,if_true] at hg;exact⟨x,hg,rfl,d⟩
theorem zdS.KaL(h:p:=by
 have iZ:=HK.ae;have hst:=dv.at.step KK.ae (show tk.w.k≠0 by omega);have HST:=aa hst;have HX:=xN.ae.far (p:=⟨ρ.g,1,none⟩) Va (af ((ρ.n:Int) - r.length));obtain⟨s0,s1,s2,s3,_⟩:=bO HX;clear HX hst;go_wp2_with (go_at_call 208;refine(FY ⟨2,tk.w.n,⟨#[]⟩⟩ _).mono ?_;rintro e w4 ⟨rfl,b4⟩;have SU:=(mX.ae.far (p:=⟨ρ.g,1,none⟩) Va (af ((ρ.n:Int) - r.length))).later b4;have ahI:=aa SU;have B4:=aa b4;obtain⟨z0,z1,z2,z3,z4,z5,z6⟩:=ei SU;obtain⟨y0,y1,y2,y3,y4,y5,y6⟩:=bR SU;clear SU b4);have HP:=ej ahI.ae ⟨1,⟨2,tk.w.n,⟨#[]⟩⟩,⟨#[]⟩,0,none,0,0⟩;have HR:=dt HP;unfold dT at HR;obtain⟨r0,r1,r2,r3,r4,r5,r6⟩:=HR;refine bodyPost_ret (v:=mz ⟨1,⟨2,tk.w.n,⟨#[]⟩⟩,⟨#[]⟩,0,none,0,0⟩) ZcH rfl ?_
 ·exact NM.put (t:=tx ⟨2,tk.w.n,ByteArray.empty⟩) dZ (Nat.le_refl _) ((HD.ae.trans HST.ae).later B4.ae) (IQ _ _ _)):p:=h
theorem zap.KG(h:p:=by
 have e1:(pl:Int)+1=(ρ.n:Int) - r.length:=by rw[hpl];simp only[cg.left,length_cons] at*;omega
 open zdS in exact Zb2):p:=h
theorem C5{t:Wd} (iZ:t.k=2):mh (t::r) (tx ⟨2,t.n,ByteArray.empty⟩) r:=by intro ρ w h;have HK:=aa iZ;clear iZ;open zap in exact Zag
theorem zhz.Kb5(h:p:=by
 refine(nZ ρ _ _ false d1.at_ ⟨#[102,97,108,115,101]⟩ (show(cg.good (tk.w::r)).head (⟨#[102,97,108,115,101]⟩:ByteArray).data.toList=true from H2.ae)).mono ?_;rintro e w2 ⟨rfl,d2⟩;go_wp2_with fail;refine(FY ⟨1,0,⟨#[]⟩⟩ _).mono ?_;rintro e w9 ⟨rfl,b4⟩;have SZ:=((d2.blk ((d1.blk (mX.ae) Tq)) Tq)).later b4;have ahI:=aa SZ;have B4:=aa b4;obtain⟨z0,z1,z2,z3,z4,z5,z6⟩:=ei SZ;obtain⟨y0,y1,y2,y3,y4,y5,y6⟩:=bR SZ;have D1:=aa d1;have D2:=aa d2;clear SZ b4;go_wp2_with fail;have HP:=ej ahI.ae ⟨1,⟨1,0,⟨#[]⟩⟩,⟨#[]⟩,0,none,0,0⟩;have HR:=dt HP;unfold dT at HR;obtain⟨r0,r1,r2,r3,r4,r5,r6⟩:=HR;refine bodyPost_ret (v:=mz ⟨1,⟨1,0,⟨#[]⟩⟩,⟨#[]⟩,0,none,0,0⟩) ZcH rfl ?_
 ·exact NM.put (t:=tx ⟨1,0,ByteArray.empty⟩) dZ (Nat.le_refl _) ((((HD.ae).trans D1.ae).trans D2.ae).later B4.ae) (IQ _ _ _)):p:=h
theorem zbx.Kah(h:p:=by open zhz in exact ZfG):p:=h
theorem zaq.KG(h:p:=by
 have e1:(pl:Int)+1=(ρ.n:Int) - r.length:=by rw[hpl];simp only[cg.left,length_cons] at*;omega
 open zbx in exact ZaB):p:=h
theorem PK{t:Wd} (hg:Plain t)(HX:iY Pk t=false)(h2:iY Aw t=true):mh (t::r) (tx ⟨1,0,ByteArray.empty⟩) r:=by intro ρ w h;have wj:=aa hg;clear hg;have H1:=aa HX;have H2:=aa h2;clear HX h2;open zaq in exact Zag
theorem zeh.KaR(h:p:=by
 have SZ:=PL.ae;have hqb:=SZ.lt;obtain⟨z0,z1,z2,z3,z4,z5,z6⟩:=ei SZ;obtain⟨y0,y1,y2,y3,y4,y5,y6⟩:=bR SZ;clear SZ;go_wp2_with fail;have HP:=ej PL.ae ⟨2,uk,n,0,none,0,0⟩;have HR:=dt HP;unfold dT uk at HR;obtain⟨r0,r1,r2,r3,r4,r5,r6⟩:=HR;refine bodyPost_ret (v:=mz ⟨2,uk,n,0,none,0,0⟩) ZcH rfl ?_
 ·rw[<- HN.ae];exact NM.put (t:=ui n) dZ (Nat.le_refl _) XJ.ae (BV _ _ _)):p:=h
theorem zdH.KaI(h:p:=by rw[show(cg.good r).head (⟨#[40]⟩:ByteArray).data.toList=false from HC.ae] at hwd;open zeh in exact Zcn):p:=h
theorem zhA.Kb5(h:p:=by refine(cj ρ _ _ false d1.at_ ⟨#[102,97,108,115,101]⟩ (show(cg.good (tk.w::r)).head (⟨#[102,97,108,115,101]⟩:ByteArray).data.toList=false from H2.ae)).mono ?_;rintro e w2 ⟨rfl,d2⟩;go_wp2_with fail;refine(cj ρ _ _ false d2.at_ ⟨#[110,117,108,108]⟩ (show(cg.good (tk.w::r)).head (⟨#[110,117,108,108]⟩:ByteArray).data.toList=false from H3.ae)).mono ?_;rintro e w3 ⟨rfl,d3⟩;go_wp2_with fail;refine(cj ρ _ _ false d3.at_ ⟨#[40]⟩ (show(cg.good (tk.w::r)).head (⟨#[40]⟩:ByteArray).data.toList=false from H4.ae)).mono ?_;open zdH in exact ZbU):p:=h
theorem zby.Kah(h:p:=by open zhA in exact ZfG):p:=h
theorem zar.KG(h:p:=by
 have e1:(pl:Int)+1=(ρ.n:Int) - r.length:=by rw[hpl];simp only[cg.left,length_cons] at*;omega
 open zby in exact ZaB):p:=h
theorem zhp.Kb1(h:p:=by clear iZ;open zar in exact Zag):p:=h
theorem LN{t:Wd} (iZ:LM t)(Ec:t.k=1)(SK:tu t.s=false)(hc:dJ eC r=false):mh (t::r) (ui ⟨t.s.toArray⟩) r:=by intro ρ w h;have HF:=aa Ec;have IH:=aa SK;clear Ec SK;have HC:=aa hc;clear hc;open zhp in exact Zfr
def amB (ρ:dv)(x:Tr)(r:dI)(y:Ex)(w w':World):Prop:=Tr.at_ w' (jo w.heap.size w') x y/\eE ρ w w' (.good r) false
theorem mj{s:List UInt8} {t:Wd} (ht:iY s t=true)(ρ:dv)(w:World)(h:ρ.at w (.good (t::r)) false)(b:Nat)(hb:aB w b 9 (bL [s]))(hbg:ρ.g≠b):
  ar 138 #[ρ.ptr,aI b 1 1] w (Cf ρ w (.good r) false):=by have:=Vp ρ w (.good (t::r)) false h [s] b 1 rfl hb hbg Tq;rw[Ce,ru (show(cg.good (t::r)).head s=true from ht)] at this;exact this
theorem LO{t:Wd} (hk:t.k=2)(ρ:dv)(w:World)(h:ρ.at w (.good (t::r)) false):
  ar 181 #[ρ.ptr] w λ e w'=>∃x:Int,x=t.n/\0<=x/\x<=9223372036854775807/\e=.returned (af x)/\eE ρ w w' (.good r) false:=by refine(Vo ρ w _ false h).mono ?_;rintro e w' ⟨x,hx0,hx1,rfl,d,hg⟩;simp only[kr,IM,hk,if_true] at hg;simp only[dr,IM,hk,if_true] at d;exact⟨x,hg,hx0,hx1,rfl,d⟩
variable{ob cb:Wd}{x:Tr}
theorem za7.Kad(h:p:=by
 have HP:=ej E0.ae ⟨o,uk,⟨#[]⟩,0,A,1,c⟩;have HR:=dt HP;unfold dT uk at HR;obtain⟨r0,r1,r2,r3,r4,r5,r6⟩:=HR;refine bodyPost_ret (v:=mz ⟨o,uk,⟨#[]⟩,0,A,1,c⟩) ZcH rfl ?_
 ·refine NM.put (t:=Av o [x]) dZ (Nat.le_refl _) DC.ae ?_;unfold Av Tr.at_;exact Zc8):p:=h
theorem zbF.Kaj(h:p:=by
 obtain⟨n22,n20,n27,n28⟩:=HC.ae;clear HC;go_wp2_with fail;have HX0:=aB.new uv 46 #[ag o,ag 0,af 0,au,au,af 0,az];have C9:=ah uv (.cells #[ag o,ag 0,af 0,au,au,af 0,az] 46);have pw:=aa (LR.ae.later C9);have uw:=aa (xP.ae.later C9);have afu:(uv.alloc (.cells #[ag o,ag 0,af 0,au,au,af 0,az] 46)).heap.size=uv.heap.size+1:=by simp
 have HX:=aa HX0;clear HX0 C9 LR xP c4;generalize uv.alloc _=Ta at*;generalize uv.heap.size=qx at*;open za7 in exact Zau):p:=h
theorem zgV.KbP(h:p:=by
 cases he:(n.data.toList==y)
 ·exact ZbD
 ·open zbF in exact ZaD):p:=h
theorem zbC.Kai(h:p:=by
 go_loopw [8] (λ u wr=>∃k:Nat,k<=8/\u=af k/\aj W8 wr/\ma n=(Po.drop k).lookup n.data.toList) (λ u _=>8 - (intOf u).toNat);case atStart=>exact Zgd
 case round=>
  obtain⟨k,hi,rfl,hP,hlk⟩:=hrel;have Ee:=aa hlk;have jN:=aa hP;clear hlk hP;by_cases hlt:k < 8
  ·open zgV in exact ZeN
  ·exact Zdy):p:=h
theorem zdI.KaI(h:p:=by rw[show(cg.good (ob::l)).head (⟨#[40]⟩:ByteArray).data.toList=true from Q1.ae] at hwd;open zbC in exact ZaC):p:=h
theorem zbz.Kah(h:p:=by refine(cj ρ _ _ false KK.ae ⟨#[116,114,117,101]⟩ (show(cg.good (tk.w::ob::l)).head (⟨#[116,114,117,101]⟩:ByteArray).data.toList=false from H1.ae)).mono ?_;rintro e w1 ⟨rfl,d1⟩;go_wp2_with fail;refine(cj ρ _ _ false d1.at_ ⟨#[102,97,108,115,101]⟩ (show(cg.good (tk.w::ob::l)).head (⟨#[102,97,108,115,101]⟩:ByteArray).data.toList=false from H2.ae)).mono ?_;rintro e w2 ⟨rfl,d2⟩;go_wp2_with fail;refine(cj ρ _ _ false d2.at_ ⟨#[110,117,108,108]⟩ (show(cg.good (tk.w::ob::l)).head (⟨#[110,117,108,108]⟩:ByteArray).data.toList=false from H3.ae)).mono ?_;rintro e w3 ⟨rfl,d3⟩;go_wp2_with fail;refine(cj ρ _ _ false d3.at_ ⟨#[40]⟩ (show(cg.good (tk.w::ob::l)).head (⟨#[40]⟩:ByteArray).data.toList=false from H4.ae)).mono ?_;open zdI in exact ZbU):p:=h
theorem zas.KG(h:p:=by
 have e1:(pl:Int)+1=(ρ.n:Int) - (ob::l).length:=by rw[hpl];simp only[cg.left,length_cons] at*;omega
 open zbz in exact ZaB):p:=h
theorem zhq.Kb1(h:p:=by clear iZ;open zas in exact Zag):p:=h
theorem C7{t:Wd}  (OP:Int)(hc:(OP==22)=false/\(OP==20)=false/\(OP==27)=false/\(OP==28)=false)(iZ:LM t)(hF:t.k=1)(ih:tu t.s=false)(q1:iY eC ob=true)(q2:ma ⟨t.s.toArray⟩=some OP)(H:cT 0 l x (cb::r))(hcb:iY ez cb=true):mh (t::ob::l) (Av OP [x]) r:=by intro ρ w h;have HF:=aa hF;have IH:=aa ih;have Q1:=aa q1;have HFN:=aa q2;have HH:=aa H;have HCB:=aa hcb;clear hF ih q1 q2 H hcb;have HC:=aa hc;clear hc;open zhq in exact Zfr
variable{sr:Wd}
theorem zht.Kb2(h:p:=by
 have XI:=uw.ae.lt;go_wp2_with fail;have Yh:=pw.ae.at_.later (ah _ (.cells (bL [ez]) 9));refine(mj Q5.ae ρ _ Yh PN.heap.size (aB.new _ _ _) Tq).mono ?_;rintro e w12 ⟨rfl,d12⟩;have PM:=ah PN (.cells (bL [ez]) 9);have SZ:=(uw.ae.later PM).grown d12.grown Va;have jM:=aa SZ;obtain⟨z0,z1,z2,z3,z4,z5,z6⟩:=ei SZ;obtain⟨y0,y1,y2,y3,y4,y5,y6⟩:=bR SZ;have DC:=aa ((pw.ae.later PM).trans d12);clear SZ d12 PM;go_wp2_with fail;have HP:=ej jM.ae ⟨21,uk,⟨#[]⟩,0,none,0,0⟩;have HR:=dt HP;unfold dT uk at HR;obtain⟨r0,r1,r2,r3,r4,r5,r6⟩:=HR;refine bodyPost_ret (v:=mz ⟨21,uk,⟨#[]⟩,0,none,0,0⟩) ZcH rfl ?_
 ·exact NM.put (t:=Av 21 []) dZ (Nat.le_refl _) DC.ae (ahv _ _ 21)):p:=h
theorem zbG.Kaj(h:p:=by
 obtain rfl:=Q3.ae;clear Q3;go_wp2_with fail;have HX0:=aB.new uv 46 #[ag 22,ag 0,af 0,au,au,af 0,az];have C9:=ah uv (.cells #[ag 22,ag 0,af 0,au,au,af 0,az] 46);have pw:=aa (LR.ae.later C9);have uw:=aa (xP.ae.later C9);have afu:(uv.alloc (.cells #[ag 22,ag 0,af 0,au,au,af 0,az] 46)).heap.size=uv.heap.size+1:=by simp
 have HX:=aa HX0;clear HX0 C9 LR xP c4;generalize uv.alloc _=Ta at*;generalize uv.heap.size=qx at*;refine(nZ ρ _ _ false pw.ae.at_ ⟨#[42]⟩ Q4.ae).mono ?_;rintro e PN ⟨rfl,d13⟩;open zht in exact Zfs):p:=h
theorem zgW.KbP(h:p:=by
 cases he:(n.data.toList==y)
 ·exact ZbD
 ·open zbG in exact ZaD):p:=h
theorem zbD.Kai(h:p:=by
 go_loopw [8] (λ u wr=>∃k:Nat,k<=8/\u=af k/\aj W8 wr/\ma n=(Po.drop k).lookup n.data.toList) (λ u _=>8 - (intOf u).toNat);case atStart=>exact Zgd
 case round=>
  obtain⟨k,hi,rfl,hP,hlk⟩:=hrel;have Ee:=aa hlk;have jN:=aa hP;clear hlk hP;by_cases hlt:k < 8
  ·open zgW in exact ZeN
  ·exact Zdy):p:=h
theorem zdJ.KaI(h:p:=by rw[show(cg.good (ob::sr::cb::r)).head (⟨#[40]⟩:ByteArray).data.toList=true from Q1.ae] at hwd;open zbD in exact ZaC):p:=h
theorem zbA.Kah(h:p:=by refine(cj ρ _ _ false KK.ae ⟨#[116,114,117,101]⟩ (show(cg.good (tk.w::ob::sr::cb::r)).head (⟨#[116,114,117,101]⟩:ByteArray).data.toList=false from H1.ae)).mono ?_;rintro e w1 ⟨rfl,d1⟩;go_wp2_with fail;refine(cj ρ _ _ false d1.at_ ⟨#[102,97,108,115,101]⟩ (show(cg.good (tk.w::ob::sr::cb::r)).head (⟨#[102,97,108,115,101]⟩:ByteArray).data.toList=false from H2.ae)).mono ?_;rintro e w2 ⟨rfl,d2⟩;go_wp2_with fail;refine(cj ρ _ _ false d2.at_ ⟨#[110,117,108,108]⟩ (show(cg.good (tk.w::ob::sr::cb::r)).head (⟨#[110,117,108,108]⟩:ByteArray).data.toList=false from H3.ae)).mono ?_;rintro e w3 ⟨rfl,d3⟩;go_wp2_with fail;refine(cj ρ _ _ false d3.at_ ⟨#[40]⟩ (show(cg.good (tk.w::ob::sr::cb::r)).head (⟨#[40]⟩:ByteArray).data.toList=false from H4.ae)).mono ?_;open zdJ in exact ZbU):p:=h
theorem zat.KG(h:p:=by
 have e1:(pl:Int)+1=(ρ.n:Int) - (ob::sr::cb::r).length:=by rw[hpl];simp only[cg.left,length_cons] at*;omega
 open zbA in exact ZaB):p:=h
theorem zhs.Kb1(h:p:=by clear iZ;open zat in exact Zag):p:=h
theorem zgC.KbJ(h:p:=by clear hF ih q1 q2 q5 q3 q4;open zhs in exact Zfr):p:=h
theorem Vs{t:Wd} (OP:Int)(q3:OP=22)(iZ:LM t)(hF:t.k=1)(ih:tu t.s=false)(q1:iY eC ob=true)(q2:ma ⟨t.s.toArray⟩=some OP)(q4:iY xG sr=true)(q5:iY ez cb=true):mh (t::ob::sr::cb::r) (Av 21 []) r:=by intro ρ w h;open zgC in exact Zew
variable{nb cm:Wd}
theorem za8.Kad(h:p:=by
 have HP:=ej E0.ae ⟨20,uk,⟨#[]⟩,kk,A,1,c⟩;have HR:=dt HP;unfold dT uk at HR;obtain⟨r0,r1,r2,r3,r4,r5,r6⟩:=HR;refine bodyPost_ret (v:=mz ⟨20,uk,⟨#[]⟩,kk,A,1,c⟩) ZcH rfl ?_
 ·rw[<- HKN.ae];refine NM.put (t:=.mk 20 jL ByteArray.empty kk [x]) dZ (Nat.le_refl _) DC.ae ?_;unfold Tr.at_;exact Zc8):p:=h
theorem zhu.Kb2(h:p:=by
 have atq:=HX.ae.frozen 5;obtain⟨x0,x1,x2,x3,x4,x5,x6⟩:=bR HX.ae;have axh:=HX.ae.lt;have HXk:=HX.ae.aT 5 (af kk);simp only[Uac] at HXk;have HQk:=uw.ae.far (p:=⟨qx,5,none⟩) Va (af kk);have DK:=pw.ae.far dZ (show w.heap.size<=qx by omega) 5 (af kk);have kI:=aa HXk;have yZ:=aa HQk;have Kf:=aa DK;clear HX uw pw HXk HQk DK;go_wp2_with fail;clear x0 x1 x2 x3 x4 x5 x6 atq;have JY:aB ((PN.setCell ⟨qx,5,none⟩ (af kk)).alloc (.cells (bL [dM]) 9)) PN.heap.size 9 (bL [dM]):=by have:=aB.new (PN.setCell ⟨qx,5,none⟩ (af kk)) 9 (bL [dM]);rwa [show(PN.setCell ⟨qx,5,none⟩ (af kk)).heap.size=PN.heap.size by simp[World.setCell]] at this
 have Yh:=Kf.ae.at_.later (ah _ (.cells (bL [dM]) 9));refine(mj HCM.ae ρ _ Yh PN.heap.size JY Tq).mono ?_;rintro e Ta ⟨rfl,d14⟩;have bcm:=ah (PN.setCell ⟨qx,5,none⟩ (af kk)) (.cells (bL [dM]) 9);have HX:=aa ((kI.ae.later bcm).grown d14.grown Va);have uw:=aa ((yZ.ae.later bcm).grown d14.grown Va);have pw:=aa ((Kf.ae.later bcm).trans d14);have amP:qx+1<=Ta.heap.size:=HX.ae.lt;clear kI yZ Kf d14 bcm Yh JY;go_wp2_with fail;open za8 in exact Zau):p:=h
theorem zbH.Kaj(h:p:=by
 obtain rfl:=Q3.ae;clear Q3;go_wp2_with fail;have HX0:=aB.new uv 46 #[ag 20,ag 0,af 0,au,au,af 0,az];have C9:=ah uv (.cells #[ag 20,ag 0,af 0,au,au,af 0,az] 46);have pw:=aa (LR.ae.later C9);have uw:=aa (xP.ae.later C9);have afu:(uv.alloc (.cells #[ag 20,ag 0,af 0,au,au,af 0,az] 46)).heap.size=uv.heap.size+1:=by simp
 have HX:=aa HX0;clear HX0 C9 LR xP c4;generalize uv.alloc _=W11 at*;generalize uv.heap.size=qx at*;refine(LO Ja.ae ρ _ pw.ae.at_).mono ?_;rintro e PN ⟨kk,zE,hk0,hF,rfl,d13⟩;have HKN:=aa zE;clear zE;open zhu in exact Zfs):p:=h
theorem zgX.KbP(h:p:=by
 cases he:(n.data.toList==y)
 ·exact ZbD
 ·open zbH in exact ZaD):p:=h
theorem zbE.Kai(h:p:=by
 go_loopw [8] (λ u wr=>∃k:Nat,k<=8/\u=af k/\aj W8 wr/\ma n=(Po.drop k).lookup n.data.toList) (λ u _=>8 - (intOf u).toNat);case atStart=>exact Zgd
 case round=>
  obtain⟨k,hi,rfl,hP,hlk⟩:=hrel;have Ee:=aa hlk;have jN:=aa hP;clear hlk hP;by_cases hlt:k < 8
  ·open zgX in exact ZeN
  ·exact Zdy):p:=h
theorem zdK.KaI(h:p:=by rw[show(cg.good (ob::nb::cm::l)).head (⟨#[40]⟩:ByteArray).data.toList=true from Q1.ae] at hwd;open zbE in exact ZaC):p:=h
theorem zbB.Kah(h:p:=by refine(cj ρ _ _ false KK.ae ⟨#[116,114,117,101]⟩ (show(cg.good (tk.w::ob::nb::cm::l)).head (⟨#[116,114,117,101]⟩:ByteArray).data.toList=false from H1.ae)).mono ?_;rintro e w1 ⟨rfl,d1⟩;go_wp2_with fail;refine(cj ρ _ _ false d1.at_ ⟨#[102,97,108,115,101]⟩ (show(cg.good (tk.w::ob::nb::cm::l)).head (⟨#[102,97,108,115,101]⟩:ByteArray).data.toList=false from H2.ae)).mono ?_;rintro e w2 ⟨rfl,d2⟩;go_wp2_with fail;refine(cj ρ _ _ false d2.at_ ⟨#[110,117,108,108]⟩ (show(cg.good (tk.w::ob::nb::cm::l)).head (⟨#[110,117,108,108]⟩:ByteArray).data.toList=false from H3.ae)).mono ?_;rintro e w3 ⟨rfl,d3⟩;go_wp2_with fail;refine(cj ρ _ _ false d3.at_ ⟨#[40]⟩ (show(cg.good (tk.w::ob::nb::cm::l)).head (⟨#[40]⟩:ByteArray).data.toList=false from H4.ae)).mono ?_;open zdK in exact ZbU):p:=h
theorem zau.KG(h:p:=by
 have e1:(pl:Int)+1=(ρ.n:Int) - (ob::nb::cm::l).length:=by rw[hpl];simp only[cg.left,length_cons] at*;omega
 open zbB in exact ZaB):p:=h
theorem zhr.Kb1(h:p:=by clear iZ;open zau in exact Zag):p:=h
theorem LS{t:Wd}  (OP:Int)(hop:OP=20)(iZ:LM t)(hF:t.k=1)(ih:tu t.s=false)(q1:iY eC ob=true)(q2:ma ⟨t.s.toArray⟩=some OP)(hk2:nb.k=2)(hcm:iY dM cm=true)(H:cT 0 l x (cb::r))(hcb:iY ez cb=true):mh (t::ob::nb::cm::l) (.mk 20 jL ByteArray.empty nb.n [x]) r:=by intro ρ w h;have HF:=aa hF;have IH:=aa ih;have Q1:=aa q1;have HFN:=aa q2;have HH:=aa H;have HCB:=aa hcb;have Q3:=aa hop;have Ja:=aa hk2;have HCM:=aa hcm;clear hF ih q1 q2 H hcb hop hk2 hcm;open zhr in exact Zfr
structure AtC (ρ:dv) (w:World) (q qx:Nat) (wr:World) (l:dI) (t:Tr) (y:Ex):Prop where
 did:eE ρ w wr (.good l) false
 blk:aB wr qx 46 (bF y).toArray
 res:aB wr q 46 #[ag 0,ag 0,af 0,au,au,af 0,az]
 tr:t.at_ wr (Bx (q+1) qx wr) y
variable{wr W2:World}{qx:Nat}
theorem AtC.more(A:AtC ρ w q qx wr l t y)(d:eE ρ wr W2 (.good l) false)(h1:ρ.g < q)(h2:q+1<=qx):AtC ρ w q qx W2 l t y:=
 ⟨A.did.trans d,d.blk A.blk Tq,d.blk A.res Tq,Tr.at_.keep (vT d.grown Tq) _ _ A.tr⟩
structure AtD (ρ:dv) (w:World) (q qx:Nat) (W:World) (r:dI) (t:Tr) (y:Ex):Prop where
 did:eE ρ w W (.good r) false
 blk:aB W qx 46 (bF y).toArray
 res:aB W q 46 #[ag 0,ag 0,af 0,au,au,af 0,az]
 tr:t.at_ W (jo (q+1) W) y
variable{Ws w3:World}{t' t2:Tr}{y' v2:Ex}{l0:dI}{bi:Int}
theorem AtC.round(dZ:ρ.g < w.heap.size)(XI:q=w.heap.size)(hqq:q+1<=qx)(A:AtC ρ w q qx wr l0 t' y')(hW:aj wr W2)(hst:eE ρ W2 Ws (.good l) false)(d2:eE ρ Ws w3 (.good r) false)
  (ht2:t2.at_ w3 (jo Ws.heap.size w3) v2):
  AtD ρ w q qx (dT ((w3.alloc (ur v2)).alloc (zS y' v2)) qx (opY bi (w3.heap.size+1) 2)) r (Av bi [t',t2]) (opY bi (w3.heap.size+1) 2):=by
 have hz1:=d2.size;have hz2:=hst.size;have hz3:=hW.size;have hqb:=A.blk.lt;have E1:aj w3 ((w3.alloc (ur v2)).alloc (zS y' v2)):=ai.then (ah w3 _) (ah _ _);have hsz:((w3.alloc (ur v2)).alloc (zS y' v2)).heap.size=w3.heap.size+2:=by simp
 have hN:aB ((w3.alloc (ur v2)).alloc (zS y' v2)) (w3.heap.size+1) 46 (bF y'++bF v2).toArray:=by have:=aB.new (w3.alloc (ur v2)) 46 (bF y'++bF v2).toArray;rw[World.size_alloc] at this;exact this
 have hX:aB ((w3.alloc (ur v2)).alloc (zS y' v2)) qx 46 (bF y').toArray:=(((A.blk.later hW).grown hst.grown Va).grown d2.grown Va).later E1;have hR:aB ((w3.alloc (ur v2)).alloc (zS y' v2)) q 46 _:=(((A.res.later hW).grown hst.grown Va).grown d2.grown Va).later E1;have hD:eE ρ w ((w3.alloc (ur v2)).alloc (zS y' v2)) (.good r) false:=(((A.did.later hW).trans hst).trans d2).later E1
 have hT:(Av bi [t',t2]).at_ ((w3.alloc (ur v2)).alloc (zS y' v2)) (Bx (q+1) qx ((w3.alloc (ur v2)).alloc (zS y' v2))) (opY bi (w3.heap.size+1) 2):=by
  refine ahu bi hN ⟨by omega,by omega,by omega⟩ ?_ ?_
  ·exact Tr.at_.keep (BU E1) _ _ (Tr.at_.keep (vT d2.grown Tq) _ _ (Tr.at_.keep (vT hst.grown Tq) _ _ (Tr.at_.keep (BU hW) _ _ A.tr)))
  ·exact Tr.at_.keep (amh Tq Tq) _ _ (ht2.later E1)
 generalize (w3.alloc (ur v2)).alloc (zS y' v2)=W5 at*;refine⟨hD.dT dZ Tq _,ej hX _,Vq hR Tq _,?_⟩;exact Tr.at_.keep (Pp (Nat.le_refl _)) _ _ (Tr.at_.keep (afo (S:=λ w=>Bx (q+1) qx w) (λ w i u=>ZH i u) _) _ _ hT)
theorem zhZ.Kcg(h:p:=by
 refine bodyPost_ret (v:=mz y) Zeb rfl ?_
 ·exact NM.put dZ (Nat.le_refl _) (HA.ae.did.later hL) (Tr.at_.keep (Pp (Nat.le_refl _)) _ _ (Tr.at_.keep (BU hL) _ _ HA.ae.tr))):p:=h
theorem zb4.Kan(h:p:=by have SZ:=HA.ae.res.later hL;have PJ:=HA.ae.blk.later hL;have hqb:=SZ.lt;obtain⟨z0,z1,z2,z3,z4,z5,z6⟩:=ei SZ;obtain⟨y0,y1,y2,y3,y4,y5,y6⟩:=bR SZ;obtain⟨x0,x1,x2,x3,x4,x5,x6⟩:=dt PJ;have jM:=aa SZ;open zhZ in exact Zgq):p:=h
theorem zfn.Kbh(h:p:=by
 have e1:(ρ.n:Int) - (cg.good (tk.w::r)).left+1=(ρ.n:Int) - r.length:=by simp only[cg.left,length_cons];omega
 have PO:=aa e1;have atv:=HA.ae.did.at_.left;clear hpl hg cf uq hp hr2 e1;open zb4 in exact ZaI):p:=h
theorem zcB.Kau(h:p:=by
 go_loopg [] 0 (λ k wr=>wr=w1);case atStart=>rfl
 case round=>
  open zfn in exact Zdv):p:=h
theorem amR(px:dJ ack (u::r)=false)(hop:kO 3 u=0)(H:cT 4 l t (u::r)):cT 3 l t (u::r):=by
 open zcB in exact Zbb
variable{l2:dI}
theorem zb5.Kan(h:p:=by
 obtain⟨ho1,ho2⟩:=ho;have e0:(o==0)=false:=by rw[beq_eq_false_iff_ne];omega
 have nS:=HA.ae.did.at_.later hL;obtain⟨q0,q1,q2,q3,f1,f2,f3⟩:=nS.facts;have e1:=PO.ae;have hst:=dv.at.step nS hk0;have td:l2.length+1<=ρ.n:=by have:=nS.left;have e2:(cg.good (tk.w::l2)).left=l2.length+1:=rfl;omega
 clear nS q0 q2 q3 f2 f3;go_upto_region 23 with (first
  |(go_at_call 184;refine(H2 ρ _ hst.at_).mono ?_;rintro e Kx ⟨v2,rfl,ht2,d2⟩;unfold mz bF;have F:=AtC.round (bi:=o) dZ rfl hqx HA.ae hL hst d2 ht2;have hz1:=d2.size;have hz2:=hst.size;have hz3:=hL.size;have B0:=((HA.ae.blk.later hL).grown hst.grown Va).grown d2.grown Va;have B1:=B0.alloc (.cells #[ag v2.op,ag v2.v.k,af v2.v.n,.string v2.v.s,.string v2.name,af v2.width,.slice v2.A v2.n v2.c] 46);have B2:=B1.alloc (.cells #[ag y.op,ag y.v.k,af y.v.n,.string y.v.s,.string y.name,af y.width,.slice y.A y.n y.c,ag v2.op,ag v2.v.k,af v2.v.n,.string v2.v.s,.string v2.name,af v2.width,.slice v2.A v2.n v2.c] 46);have N1:=aB.new Kx 46 (bF v2).toArray;have X1:=dt B1;have X2:=dt B2;have X3:=ei B2;have X4:=dt N1;unfold bF at X4;obtain⟨x0,x1,x2,x3,x4,x5,x6⟩:=X1;obtain⟨y0,y1,y2,y3,y4,y5,y6⟩:=X2;obtain⟨z0,z1,z2,z3,z4,z5,z6⟩:=X3;obtain⟨a0,a1,a2,a3,a4,a5,a6⟩:=X4;have HF:=aa F;clear B0 B1 B2 N1 F))
 clear x0 x1 x2 x3 x4 x5 x6 y0 y1 y2 y3 y4 y5 y6 z0 z1 z2 z3 z4 z5 z6 a0 a1 a2 a3 a4 a5 a6;have F:=HF.ae;clear HF;show Code.wp _ _ _ _ (dT ((Kx.alloc (ur v2)).alloc (zS y v2)) qx (opY o (Kx.heap.size+1) 2));generalize dT ((Kx.alloc (ur v2)).alloc (zS y v2)) qx (opY o (Kx.heap.size+1) 2)=W9 at*;generalize opY o (Kx.heap.size+1) 2=Y9 at*;obtain⟨x0,x1,x2,x3,x4,x5,x6⟩:=dt F.blk;obtain⟨z0,z1,z2,z3,z4,z5,z6⟩:=ei F.res;obtain⟨y0,y1,y2,y3,y4,y5,y6⟩:=bR F.res;have hqb:=F.res.lt;have HF:=aa F;clear F;go_wp2_with fail;have HP:=ej HF.ae.res Y9;have HR:=dt HP;unfold dT at HR;obtain⟨r0,r1,r2,r3,r4,r5,r6⟩:=HR;refine bodyPost_ret (v:=mz Y9) Zeb rfl ?_
 ·exact NM.put dZ (Nat.le_refl _) HF.ae.did HF.ae.tr):p:=h
theorem zfo.Kbh(h:p:=by
 have e1:(ρ.n:Int) - (cg.good (tk.w::l2)).left+1=(ρ.n:Int) - l2.length:=by simp only[cg.left,length_cons];omega
 have PO:=aa e1;have atv:=HA.ae.did.at_.left;clear hpl hg cf uq hp hr2 e1;open zb5 in exact ZaI):p:=h
theorem zcC.Kau(h:p:=by
 go_loopg [] 0 (λ k wr=>wr=w1);case atStart=>rfl
 case round=>
  open zfo in exact Zdv):p:=h
theorem atw(o:Int)(ho:5<=o/\o<=17)(hk0:u.k≠0)(px:dJ ack (u::l2)=false)(hop:kO 3 u=o)(H:cT 4 l t (u::l2))(H2:cT 4 l2 t2 r):cT 3 l (Av o [t,t2]) r:=by
 open zcC in exact Zbb
structure FZ (u:Wd):Prop where
 b0:kO 0 u=0
 b1:kO 1 u=0
 b4:kO 4 u=0
 b5:kO 5 u=0
 is_:iY ack u=false
structure xQ (l:dI):Prop where
 no:dJ Zz l=false
 mi:dJ sD l=false
theorem E3(h:mh l t (u::r))(hb:xQ l)(hu:FZ u):cT 4 l t (u::r):=
 sL 4 (.inr (.inr (.inl rfl))) hu.b4 (sL 5 (.inr (.inr (.inr rfl))) hu.b5 (amy hb.mi (amz h)))
theorem up3(h:cT 3 l t (u::r))(hb:xQ l)(hu:FZ u):cT 0 l t (u::r):=
 sL 0 (.inl rfl) hu.b0 (sL 1 (.inr (.inl rfl)) hu.b1 (amx hb.no h))
theorem LU(h:mh l t (u::r))(hb:xQ l)(hu:FZ u)(h3:kO 3 u=0):cT 0 l t (u::r):=
 up3 (amR hu.is_ h3 (E3 h hb hu)) hb hu
theorem amS{c:Wd} (o:Int)(ho:5<=o/\o<=17)(hk0:c.k≠0)(hc:FZ c)(hop:kO 3 c=o)(h:mh l t (c::l2))(hb:xQ l)(h2:mh l2 t2 (u::r))(hb2:xQ l2)(hu:FZ u):cT 0 l (Av o [t,t2]) (u::r):=
 up3 (atw o ho hk0 hc.is_ hop (E3 h hb hc) (E3 h2 hb2 hu)) hb hu
section
variable {s:List UInt8} {σ:cg} {x:Tr}
end
section
variable {α:Type} {el:Ps α} {σ yX:cg} {acc:List α} {x:α}
end
def nL (y:Sl):Value:=.slice y.A y.n y.c
def _root_.Go.Proofs.YtndgjggokjickaaGreatDoor.Sl.nil:Sl:=⟨none,0,0⟩
def El.sl(E:El α)(w:World)(S:Nat->Prop)(y:Sl)(l:List α):Prop:=E.lies w S y.A y.n l
theorem El.ux(E:El α)(w:World)(S:Nat->Prop):E.sl w S Sl.nil []:=E.ZG w S
variable{E:El α}{S':Nat->Prop}
theorem El.sl.keep{y:Sl} {l:List α}(h:E.sl w S y l)(hk:∀b,S b->(∀o,w'.cell? ⟨b,o,none⟩=w.cell? ⟨b,o,none⟩)/\S' b):E.sl w' S' y l:=El.lies.keep h hk
structure xR where
 items:Sl:=.nil
 bS:ByteArray:=ByteArray.empty
 only:Bool:=false
 cC:Sl:=.nil
 group:Sl:=.nil
 having:Sl:=.nil
 order:Sl:=.nil
 dx:Sl:=.nil
def LV (y:xR):List Value:=[nL y.items,.string y.bS,.bool y.only,nL y.cC,nL y.group,nL y.having,nL y.order,nL y.dx]
def quV (y:xR):Value:=.agg (LV y).toArray
structure Qu.at_ (w:World) (S:Nat->Prop) (q:Qu) (y:xR):Prop where
 items:rb.sl w S y.items q.items
 bS:y.bS=q.bS
 only:y.only=q.only
 cC:IP.sl w S y.cC q.cC
 group:IP.sl w S y.group q.group
 having:IP.sl w S y.having q.having
 order:sF.sl w S y.order q.order
 dx:Sz.sl w S y.dx q.dx
theorem Qu.at_.keep{q:Qu} {y:xR}(hk:∀b,S b->(∀o,w'.cell? ⟨b,o,none⟩=w.cell? ⟨b,o,none⟩)/\S' b)(h:q.at_ w S y):q.at_ w' S' y:=
 ⟨h.items.keep hk,h.bS,h.only,h.cC.keep hk,h.group.keep hk,h.having.keep hk,h.order.keep hk,h.dx.keep hk⟩
theorem Qu.E4 (w:World)(S:Nat->Prop):Qu.at_ w S {} {}:=⟨rb.ux _ _,rfl,rfl,IP.ux _ _,IP.ux _ _,IP.ux _ _,sF.ux _ _,Sz.ux _ _⟩
structure E5 where
 kind:Int:=0
 name:ByteArray:=ByteArray.empty
 cols:Sl:=.nil
 time:ByteArray:=ByteArray.empty
 every:Int:=0
 space:ByteArray:=ByteArray.empty
 parts:Int:=0
 query:xR:= {}
 what:Int:=0
 of_:ByteArray:=ByteArray.empty
 a:Int:=0
 b:Int:=0
 rows:Sl:=.nil
 ahs:Sl:=.nil
 cC:Sl:=.nil
 bS:Val:=jL
 eD:Val:=jL
def E6 (v:Val):List Value:=[ag v.k,af v.n,.string v.s]
def sM (y:E5):List Value:=[ag y.kind,.string y.name,nL y.cols,.string y.time,af y.every,.string y.space,af y.parts]++LV y.query++ [ag y.what,.string y.of_,af y.a,af y.b,nL y.rows,nL y.ahs,nL y.cC]++E6 y.bS++E6 y.eD
def stV (y:E5):Value:=.agg (sM y).toArray
variable{G:Nat}
theorem E7(h:aB w G 46 (bF y).toArray)(hS:S G)(hx:x.at_ w S y):IP.sl w S ⟨some ⟨G,0,none⟩,1,1⟩ [x]:=
 ⟨rfl,[y],Pr (f:=bF) uj (by show aB w G _ (bF y++ []).toArray;rw[append_nil];exact h) hS,.one hx⟩
def Tb (y:Ex×ByteArray):List Value:=bF y.1++ [.string y.2]
def itV (y:Ex×ByteArray):Value:=.agg (Tb y).toArray
theorem dy{a b c g i:Value}(h:aB w q T #[a,b,c,d,e,f,g,i]):
  w.cell? ⟨q,0,none⟩=some a/\w.cell? ⟨q,1,none⟩=some b/\w.cell? ⟨q,2,none⟩=some c/\w.cell? ⟨q,3,none⟩=some d/\w.cell? ⟨q,4,none⟩=some e/\w.cell? ⟨q,5,none⟩=some f/\w.cell? ⟨q,6,none⟩=some g/\w.cell? ⟨q,7,none⟩=some i:=
 ⟨h.cell 0,h.cell 1,h.cell 2,h.cell 3,h.cell 4,h.cell 5,h.cell 6,h.cell 7⟩
theorem lB(h:aB w q T cs):
  w.frozen? ⟨q,0,none⟩=false/\w.frozen? ⟨q,1,none⟩=false/\w.frozen? ⟨q,2,none⟩=false/\w.frozen? ⟨q,3,none⟩=false/\w.frozen? ⟨q,4,none⟩=false/\w.frozen? ⟨q,5,none⟩=false/\w.frozen? ⟨q,6,none⟩=false/\w.frozen? ⟨q,7,none⟩=false:=
 ⟨h.frozen 0,h.frozen 1,h.frozen 2,h.frozen 3,h.frozen 4,h.frozen 5,h.frozen 6,h.frozen 7⟩
def wu (w:World)(q:Nat)(y:Ex)(v:Value):World:=(dT w q y).setCell ⟨q,7,none⟩ v
theorem eE.wu(h:eE ρ W w σ big)(hW:ρ.g < W.heap.size)(hq:W.heap.size<=q)(y:Ex)(v:Value):eE ρ W (wu w q y v) σ big:=(h.dT hW hq y).far hW hq 7 v
theorem Tr.at_.wu(h:t.at_ w (jo B w) y)(hq:q < B)(z:Ex)(v:Value):t.at_ (wu w q z v) (jo B (Go.Proofs.YtndgjggokjickaaGreatDoor.R.wu w q z v)) y:=(h.dT hq z).set hq 7 v
theorem LW{a b c g i:Value}(h:aB w q T #[a,b,c,d,e,f,g,i])(y:Ex)(v:Value):aB (wu w q y v) q T (bF y++ [v]).toArray:=by have:=((((((((h.aT 0 (ag y.op)).aT 1 (ag y.v.k)).aT 2 (af y.v.n)).aT 3 (.string y.v.s)).aT 4 (.string y.name)).aT 5 (af y.width)).aT 6 (.slice y.A y.n y.c)).aT 7 v);exact ZdI
def itZ:Obj:=.cells #[ag 0,ag 0,af 0,au,au,af 0,az,au] 48
def kP:List Nat->Nat
 | []=>0
 | a::l=>max a (kP l)
theorem za:∀(l:List Nat) (a:Nat),kP (l++ [a])=max (kP l) a
 | [],a=>by simp[kP]
 | b::l,a=>by simp only[cons_append,kP,za l a];omega
theorem Vt{l:List Nat} {i d:Nat}(h:l[i]?=some d):kP (l.take (i+1))=max (kP (l.take i)) d:=by rw[take_add_one,h];exact za _ _
theorem LY:∀ {l:List Nat} {d:Nat},d∈l->d<=kP l
 | a::l,d,h=>by
   rcases List.mem_cons.1 h with rfl | h
   ·simp only[kP];omega
   ·have:=LY h;simp only[kP];omega
theorem wA:∀(l:List Nat) (i:Nat),kP (l.take i)<=kP l
 | [],i=>by simp[kP]
 | a::l,0=>by simp[kP]
 | a::l,i+1=>by have:=wA l i;simp only[take_succ_cons,kP];omega
theorem zb:∀ts:List Tr,Tr.iC ts=kP (ts.map Tr.depth)
 | []=>by simp[Tr.iC,kP]
 | t::ts=>by simp[Tr.iC,kP,zb ts]
def Tc (f:FuncId)(w:World)(y:Ex)(d:Nat):Prop:=∀W,aj w W->ar f #[mz y] W λ e w'=>e=.returned (af d)/\aj W w'
theorem LZ (w:World)(y:Ex)(ys:List Ex)(ds:List Nat)(S:Nat->Prop)(hS:∀b,S b->b < w.heap.size)(hn:y.n=ys.length)(hA:RL bF 7 w S y.A ys)(hd:ds.length=ys.length)(hD:∀(k:Nat) x d,ys[k]?=some x->ds[k]?=some d->Tc 89 w x d)(hm:kP ds<=1000000)(hl:ys.length<=1000000000):Tc 89 w y (kP ds+1):=by
 intro W Kx;obtain⟨JX,yv,kY,gP,yA,yn,yc⟩:=y;have hn:yn=ys.length:=hn;subst hn;have HD:=aa hD;have HM:=aa hm;have HDL:=aa hd;have HA:=aa hA;clear hD hm hd hA;unfold mz bF;have HX:=aB.new W 46 #[ag JX,ag yv.k,af yv.n,.string yv.s,.string kY,af gP,.slice yA ys.length yc];have hb:=ah W (.cells #[ag JX,ag yv.k,af yv.n,.string yv.s,.string kY,af gP,.slice yA ys.length yc] 46);go_enter Tryz.func89,Tryz.ntmps89;go_wp2_with fail;generalize W.alloc _=W1 at*;have jN:=aa hb;have HW:=aa Kx;clear hb;go_loopw [3,4] (λ m iv wr=>∃k:Nat,k<=ys.length/\iv=af k/\m=af (kP (ds.take k))/\aj W1 wr) (λ _ iv _=>ys.length - (intOf iv).toNat);case atStart=>exact Zgc
 case round=>
  obtain⟨k,hi,rfl,rfl,hW⟩:=hrel;have x6:=(HX.later hW).cell 6;simp only[Uaa] at x6;have Ez:=wA ds k;have NF:=HM.ae;by_cases hlt:k < ys.length
  ·obtain⟨x,hx⟩:∃x,ys[k]?=some x:=⟨_,getElem?_eq_getElem hlt⟩;obtain⟨d,hdd⟩:∃d,ds[k]?=some d:=⟨_,getElem?_eq_getElem (by rw[HDL.ae];exact hlt)⟩;have hDx:=HD.ae k x d hx hdd;have hdm:=LY (mem_of_getElem? hdd);have HMT:=aa (Vt hdd);have hwr:aj w wr:=Kx.trans ((ai.then jN.ae hW).mono Kx.size);rcases HA.ae with h0 |⟨b,off,hAe,hSb,hc⟩
   ·subst h0;simp at hlt
   have z:=λ j u hu=>(hwr.cell (p:=⟨b,off+k*7+j,none⟩) (hS b hSb)).trans (hc k x j u hx hu)
   have k0:=z 0 _ rfl;have k1:=z 1 _ rfl;have k2:=z 2 _ rfl;have k3:=z 3 _ rfl;have k4:=z 4 _ rfl;have k5:=z 5 _ rfl;have k6:=z 6 _ rfl;simp only[Nat.add_zero] at k0;clear hx hdd z hc;subst hAe;go_wp2_with fail;refine(hDx wr hwr).mono ?_;rintro e w' ⟨rfl,b'⟩;go_wp2_with fail;go_roundw;case rel=>refine⟨k+1,by omega,by go_num,?_,hW.trans (b'.mono hW.size)⟩;first | rw[HMT.ae,show(max ((kP (ds.take k):Nat):Int) (d:Int))=((max (kP (ds.take k)) d:Nat):Int) by omega] |(rw[HMT.ae];congr 1;split <;> omega)
   case measure=>exact Za2
  ·obtain rfl:k=ys.length:=by omega
   have lT:ds.take ys.length=ds:=take_of_length_le (Nat.le_of_eq HDL.ae);rw[lT] at Ez;simp only[lT];go_wp2_with fail;go_ret;exact⟨mS Tq,ai.then jN.ae hW⟩
mutual
def Tr.thin:Tr->Prop
 | .mk op v name width args=>args.length<=1000000000/\Tr.ze args
def Tr.ze:List Tr->Prop
 | []=>True
 | t::ts=>t.thin/\Tr.ze ts
end
mutual
theorem Tr.amV {w:World} {S:Nat->Prop}(hS:∀b,S b->b < w.heap.size):∀(t:Tr) (y:Ex),t.at_ w S y->t.thin->t.depth<=1000000->Tc 89 w y t.depth
 | .mk op v name width args,y,h,ht,hd=>by unfold Tr.at_ at h;obtain⟨_,_,_,_,hn,ys,hr,ha⟩:=h;unfold Tr.thin at ht;simp only[Tr.depth] at hd ⊢;have hl:=Tr.aO.length ha;rw[zb] at hd ⊢;exact LZ w y ys (args.map Tr.depth) S hS (by rw[hn,hl]) hr (by simp[hl]) (Tr.afw hS args ys ha ht.2 Tq) Tq (by rw[hl];exact ht.1)
theorem Tr.afw {w:World} {S:Nat->Prop}(hS:∀b,S b->b < w.heap.size):∀(ts:List Tr) (ys:List Ex),Tr.aO w S ts ys->Tr.ze ts->kP (ts.map Tr.depth)<=1000000->∀(i:Nat) x d,ys[i]?=some x->(ts.map Tr.depth)[i]?=some d->Tc 89 w x d
 | [],ys,h,_,_,i,x,d,hx,hd=>by simp at hd
 | t::ts,ys,h,ht,hm,i,x,d,hx,hd=>by
   unfold Tr.aO at h;obtain⟨y,ys',rfl,h1,h2⟩:=h;unfold Tr.ze at ht;simp only[map_cons,kP] at hm
   match i,hx,hd with
   | 0,hx,hd=>simp at hx hd;subst hx hd;exact Tr.amV hS t y h1 ht.1 Tq
   | i+1,hx,hd=>exact Tr.afw hS ts ys' h2 ht.2 Tq i x d (by simpa using hx) (by simpa using hd)
end
theorem acG{s:ByteArray} {l:List qX}(h:zO s.data.toList=.ok l) (hs:s.size<=4294967280):
  ar 85 #[.string s] w λ e w'=>∃A c,e=.returned (.tuple #[.slice A l.length c,af 0,af 0])/\LH w' w.heap.size (.slice A l.length c) l/\aj w w':=by refine(B5 s w hs).mono ?_;intro e w' hp;unfold vX at hp;rw[h] at hp;obtain⟨v,rfl,ho,hb⟩:=hp;obtain⟨A,c,rfl⟩:=ho.form;exact⟨A,c,rfl,ho,hb⟩
variable{P:Program}
theorem zdq.KaE(h:p:=by exact⟨v',w',hr,ho,ha,h4⟩):p:=h
theorem zU{f:α->List Value} {e:TypeId} {size:Nat}  {lv:Value} {l:List α} {y:α}  (t ty:TypeId)(z:Value)(bytes:Nat)(ht:P.underlying t=some (.slice e))(jr:(P.info? e).map (λ i=>(i.zero,i.size,i.bytes))=some (some z,size,bytes))(hzs:z.cells.size=size)(hsz:0 < size)
  (hf:∀x,(f x).length=size) (h1:∀u∈f y,u.oneCell'=true) (hown:aH f e size w base lv l)
  (g0:Nat) (hg0:aB w g0 e (f y).toArray) (hlen:(l.length+1)*bytes<=140737488355328) (mI:l.length+1<=140737488355328) (hbase:base<=w.heap.size):
  ∃v' w',(Builtin.append_ #[t,t] ty #[lv,aI g0 1 1]).run P w=.ok v' w'/\aH f e size w' base v' (l++ [y])/\AR f e size base lv l y w w'/\(v'.ownBlock=lv.ownBlock\/v'.ownBlock=some w.heap.size):=by
 open zdq in exact ZbF
section
variable {P:Program} {β:Type} (f:β->List Value) (val:β->Value) (e:TypeId) (size base:Nat) (l:List β) (lv:Value) (Post:β->World->World->Prop) (w0:World)
def Jb:List Value->World->Prop
 | [],w=>ai w0 w
 | [a],w=>∃y w1 gG,a=val y/\ai w0 w1/\Post y w1 gG/\ai gG w
 | [a,s],w=>∃y w1 gG g0,a=val y/\s=aI g0 1 1/\ai w0 w1/\Post y w1 gG/\ai gG w/\aB w g0 e (f y).toArray
 | [a,s,v],w=>∃y w1 gG w2,a=val y/\ai w0 w1/\Post y w1 gG/\ai gG w2/\aH f e size w2 base lv l/\w2.grownBy w lv.ownBlock/\aH f e size w base v (l++ [y])/\(v.ownBlock=lv.ownBlock\/v.ownBlock=some w2.heap.size)
 | _,_=>False
theorem Ma (vs:List Value)(w:World)(h:Jb f val e size base l lv Post w0 vs w):Jb f val e size base l lv Post w0 vs w.drew:=by
 match vs,h with
 | [],h=>exact ai.trans h (ai.drew _)
 | [a],⟨y,w1,gG,h1,h2,h3,h4⟩=>exact⟨y,w1,gG,h1,h2,h3,h4.trans (ai.drew _)⟩
 | [a,s],⟨y,w1,gG,g0,h1,h2,h3,h4,h5,h6⟩=>exact Zhu
 | [a,s,v],⟨y,w1,gG,w2,h1,h2,h3,h4,h5,h6,h7,h8⟩=>exact⟨y,w1,gG,w2,h1,h2,h3,h4,h5,⟨h6.os,h6.tape,h6.output,h6.size,h6.block⟩,h7.later (ai.drew _),h8⟩
 | _::_::_::_::_,h=>exact h.elim
variable {f val e size base l lv Post w0}
variable {Q:Exit->Act->World->Prop} {a0:Act} {id:Nat} {o0 o1 o2 o3 o4 o5 o6 o7:Oper} {q d0 d1 d2 d3 d4 d5 d6:Tmp} {qb k g:Nat} {pq ptr:Value} {F:FuncId} {args:Array Value}
theorem zcr.Kar(h:p:=by
 have Ck:∀vs w,Jb f val e size base l lv Post w0 vs w->w.cell? ⟨qb,k,none⟩=some lv:=by exact ZbT
 refine oV [o7] [o0,o1,o2,o3,o4,o5,o6] rfl (λ i=>if i=0 then ba qb k else if i=1 then lv else if i=2 then ptr else ba qb k) [3,4,5] (Jb f val e size base l lv Post w0) (Ma f val e size base l lv Post w0) (ai.refl w0) hm aZ hz hch WC rfl ?_ ?_
 ·refine⟨Zdk,ZfB,Zdn,ZcD,ZbV,?_,Zdo,trivial⟩
  ·intro ρ w vs hc hG hr;rw[t5] at hr;have r0:=hr.1;have r1:=hr.2.1;simp only[s5] at r0;simp only[s5'] at r1;refine⟨g5,?_⟩;show vs.length=2->_;intro hl
   match vs,hl with
   | [a,s],_=>have r1:some s=some (ρ (.tmp d4)):=r1;injection r1 with r1;obtain⟨y,w1,gG,gg,ha,hs,h2,h3,h4',h5⟩:=hG;obtain⟨k1,k2,k3⟩:=wh h2 h3 h4';obtain⟨v',w',hrun,ho,yF,h4⟩:=zU (P:=P) (w:=w) t ty z bytes ht jr hzs hsz hf (h1 y) k2 gg h5 hlen mI (Nat.le_trans hbase k3);exact aq (hap ρ w _ v' w' r0 (r1.symm.trans hs) hrun) ⟨y,w1,gG,w,ha,h2,h3,h4',k2,yF.grown,ho,h4⟩
 ·exact Zby):p:=h
theorem Jc (t ty:TypeId)(z:Value)(bytes:Nat)
  (hm:P.follows .mixedOrders=true) (aZ:dO [o0,o1,o2,o3,o4,o5,o6] a0.tmps.size [o0,o1,o2,o3,o4,o5,o6] 0=true) (hz:eJ [o0,o1,o2,o3,o4,o5,o6,o7] [o7] 7=true) (hch:lr [o0,o1,o2,o3,o4,o5,o6] [3,4,5]=true) (Cj:Ci o0 o1 o2 o3 o4 o5 o6 q d0 d1 d2 d3 d4 d5 d6=true)
  (hq:a0.eval (.tmp q)=pq) (h0:a0.eval (.tmp 0)=ptr)
  (hfa:∀ρ w,ρ (.tmp q)=pq->(execOp ρ o0).run P w=.ok (.value (ba qb k)) w) (C3:∀ρ w,ρ (.tmp q)=pq->(execOp ρ o6).run P w=.ok (.value (ba qb k)) w)
  (hld:∀ρ w,ρ (.tmp d0)=ba qb k->w.cell? ⟨qb,k,none⟩=some lv->(execOp ρ o1).run P w=.ok (.value lv) w)
  (Ew:∀ρ w,ρ (.tmp 0)=ptr->(execOp ρ o2).run P w=.ok (.value ptr) w)
  (bU:∀ρ w,oD ρ->ρ (.tmp d2)=ptr->(execOp ρ o3).run P w=.ok (.enter F args) w)
  (JY:∀ρ w y,ρ (.tmp d3)=val y->(execOp ρ o4).run P w=.ok (.value (aI w.heap.size 1 1)) (w.alloc (.cells (f y).toArray e)))
  (hap:∀ρ w s v' w',ρ (.tmp d1)=lv->ρ (.tmp d4)=s->(Builtin.append_ #[t,t] ty #[lv,s]).run P w=.ok v' w'->(execOp ρ o5).run P w=.ok (.value v') w')
  (ht:P.underlying t=some (.slice e)) (jr:(P.info? e).map (λ i=>(i.zero,i.size,i.bytes))=some (some z,size,bytes)) (hzs:z.cells.size=size) (hsz:0 < size) (hf:∀x,(f x).length=size) (h1:∀y,∀u∈f y,u.oneCell'=true)
  (hown:aH f e size w0 base lv l) (hcell:w0.cell? ⟨qb,k,none⟩=some lv) (Ub:qb≠g) (XH:lv.ownBlock≠some g) (hlq:lv.ownBlock≠some qb) (hlen:(l.length+1)*bytes<=140737488355328) (mI:l.length+1<=140737488355328) (hbase:base<=w0.heap.size)
  (lW:∀w,ai w0 w->Calls P F args w λ e w'=>∃y,e=.returned (val y)/\Post y w w') (SQ:∀y w w',Post y w w'->w.grownBy w' (some g))
  (mg:∀y s v' w1 gG w2 W,ai w0 w1->Post y w1 gG->ai gG w2->aH f e size w2 base lv l->w2.grownBy W lv.ownBlock->aH f e size W base v' (l++ [y])->(v'.ownBlock=lv.ownBlock\/v'.ownBlock=some w2.heap.size)->W.cell? ⟨qb,k,none⟩=some lv->
    wpList P [o0,o1,o2,o3,o4,o5,o6,o7].toArray Q [o7] (((((((a0.put (some d0) (ba qb k)).put (some d1) lv).put (some d2) ptr).put (some d3) (val y)).put (some d4) s).put (some d5) v').put (some d6) (ba qb k)) W):
  (Code.region id [o0,o1,o2,o3,o4,o5,o6,o7].toArray true).wp P Q a0 w0:=by
 open zcr in exact ZaV
end
def E8 (y:Ex×Bool):List Value:=bF y.1++ [.bool y.2]
def orV (y:Ex×Bool):Value:=.agg (E8 y).toArray
def orZ:Obj:=.cells #[ag 0,ag 0,af 0,au,au,af 0,az,.bool false] 117
def xS (B:Nat)(v:Value)(w:World):Nat->Prop:=λ b=>B<=b/\b < w.heap.size/\some b≠v.ownBlock
theorem py{g:Nat}  (h:w.grownBy w' (some g))(hg:g < B):∀b,xS B v w b->(∀o,w'.cell? ⟨b,o,none⟩=w.cell? ⟨b,o,none⟩)/\xS B v w' b:=λ b hb=>
 ⟨cell_of_heap (h.block b hb.2.1 (λ e=>by injection e with e;have:=hb.1;omega)),hb.1,Nat.lt_of_lt_of_le hb.2.1 h.size,hb.2.2⟩
theorem pz(h:aj w w'):∀b,xS B v w b->(∀o,w'.cell? ⟨b,o,none⟩=w.cell? ⟨b,o,none⟩)/\xS B v w' b:=λ b hb=>
 ⟨cell_of_heap (h.block b hb.2.1),hb.1,Nat.lt_of_lt_of_le hb.2.1 h.size,hb.2.2⟩
variable{v':Value}
theorem Co(h:w.grownBy w' v.ownBlock)(hv:v'.ownBlock=v.ownBlock\/v'.ownBlock=some w.heap.size):∀b,xS B v w b->(∀o,w'.cell? ⟨b,o,none⟩=w.cell? ⟨b,o,none⟩)/\xS B v' w' b:=λ b hb=>
 ⟨cell_of_heap (h.block b hb.2.1 hb.2.2),hb.1,Nat.lt_of_lt_of_le hb.2.1 h.size,λ e=>by
   rcases hv with hv | hv
   ·exact hb.2.2 (e.trans hv)
   ·rw[hv] at e;injection e with e;have:=hb.2.1;omega⟩
variable{B':Nat}
theorem E9(hB:B'<=B)(hv:∀g,v.ownBlock=some g->g < B):∀b,jo B w b->(∀o,w.cell? ⟨b,o,none⟩=w.cell? ⟨b,o,none⟩)/\xS B' v w b:=λ b hb=>
 ⟨λ _=>rfl,Nat.le_trans hB hb.1,hb.2,λ e=>by have:=hv b e.symm;have:=hb.1;omega⟩
theorem Mb(hB:B'<=B):∀b,xS B v w b->(∀o,w.cell? ⟨b,o,none⟩=w.cell? ⟨b,o,none⟩)/\jo B' w b:=λ b hb=>⟨λ _=>rfl,Nat.le_trans hB hb.1,hb.2.1⟩
structure ku {α:Type} (E:El α) (T:TypeId) (w:World) (B:Nat) (v:Value) (l:List α):Prop where
 has:∃ys:List E.β,aH E.f T E.size w B v ys/\mC (E.rel w (xS B v w)) l ys
section
variable {α:Type} {E:El α} {T:TypeId} {w w':World} {B g:Nat} {v:Value} {l:List α}
theorem ku.PQ (h:ku E T w B v l) {G:Nat}(hG:v.ownBlock=some G):B<=G/\G < w.heap.size:=by obtain⟨ys,h1,h2⟩:=h.has;exact⟨(h1.lt hG).2.1,(h1.lt hG).1⟩
theorem ku.grown (h:ku E T w B v l)(hb:w.grownBy w' (some g))(hg:g < B):ku E T w' B v l:=by obtain⟨ys,h1,h2⟩:=h.has;exact⟨ys,h1.grown hb (λ e=>by have:=(h1.lt e).2.1;omega),h2.imp λ x y=>E.keep (py hb hg)⟩
theorem ku.sl (h:ku E T w B v l) {B':Nat}(hB:B'<=B):∃y:Sl,v=nL y/\y.n=l.length/\E.sl w (jo B' w) y l:=by obtain⟨ys,h1,h2⟩:=h.has;obtain⟨A,c,hv,hr⟩:=PI E.hf h1 (S:=jo B' w) (λ g h3 h4=>⟨by omega,h4⟩);refine⟨⟨A,l.length,c⟩,?_,rfl,rfl,ys,hr,h2.imp λ x y=>E.keep (Mb hB)⟩;rw[hv,h2.len];rfl
theorem ku.nil (E:El α)(T:TypeId)(w:World)(B:Nat):ku E T w B (az) []:=⟨[],aH.nil,.nil⟩
end
def SlW (ρ:dv)(w:World)(l:List Tr)(r:dI)(e:Ending)(w':World):Prop:=∃y:Sl,e=.returned (nL y)/\IP.sl w' (jo w.heap.size w') y l/\eE ρ w w' (.good r) false
theorem Gb{s:ByteArray} (hs:dJ s.data.toList r=false)(ρ:dv)(w:World)(h:ρ.at w (.good r) false):ar 142 #[ρ.ptr,.string s] w (SlW ρ w [] r):=by have HL:=cj ρ w _ false h s hs;clear hs;go_enter Tryz.func142,Tryz.ntmps142;go_wp2_with fail;refine HL.mono ?_;rintro e w1 ⟨rfl,b1⟩;go_wp2_with fail;go_ret;exact⟨Sl.nil,rfl,El.ux _ _ _,b1⟩
variable{k:Wd}
theorem PS{s:ByteArray}   (hs:iY s.data.toList k=true)(H:cT 0 l x r)(ρ:dv)(w:World)(h:ρ.at w (.good (k::l)) false):ar 142 #[ρ.ptr,.string s] w (SlW ρ w [x] r):=by have HL:=nZ ρ w _ false h s hs;have dZ:=h.FW;have HH:=aa H;clear hs H;go_enter Tryz.func142,Tryz.ntmps142;go_wp2_with fail;refine HL.mono ?_;rintro e w1 ⟨rfl,b1⟩;go_wp2_with fail;refine(HH.ae ρ _ b1.at_).mono ?_;rintro e w2 ⟨y,rfl,ht,d2⟩;unfold mz bF;go_wp2_with fail;go_ret;have hs:=b1.size;exact⟨⟨some ⟨w2.heap.size,0,none⟩,1,1⟩,rfl,E7 (aB.new w2 _ _) ⟨by have:=d2.size;omega,by simp⟩ ((ht.later (ah w2 _)).more hs),(b1.trans d2).later (ah w2 (ur y))⟩
theorem Jd(hc:iY dM u=false)(n:Nat)(hn:n<=64)(ρ:dv)(w:World)(h:ρ.at w (.good (u::r)) false):
  ar 140 #[ρ.ptr,af n] w λ e w'=>e=.returned (.bool false)/\eE ρ w w' (.good (u::r)) false:=by have hh:(cg.good (u::r)).head dM=false:=hc;have:=FX ρ w _ false h n Tq;rw[hh,jg hh,show(false || decide (64 < n))=false by simp;omega] at this;exact this
theorem F2(hc:iY dM u=true)(n:Nat)(hn:n<=64)(ρ:dv)(w:World)(h:ρ.at w (.good (u::r)) false):
  ar 140 #[ρ.ptr,af n] w λ e w'=>e=.returned (.bool true)/\eE ρ w w' (.good r) false:=by have hh:(cg.good (u::r)).head dM=true:=hc;have:=FX ρ w _ false h n Tq;rw[hh,jU hh,show(false || decide (64 < n))=false by simp;omega] at this;exact this
theorem Vu(hc:iY dM u=false)(H:cT 0 l x (u::r))(ρ:dv)(w:World)(h:ρ.at w (.good l) false):ar 179 #[ρ.ptr] w (SlW ρ w [x] (u::r)):=by
 have dZ:=h.FW;have HM:=aa (λ ρ w h=>Jd (r:=r) hc 1 Tq ρ w h);have HH:=aa H;clear hc H;go_enter Tryz.func179,Tryz.ntmps179;go_wp2_with fail;refine(HH.ae ρ _ h).mono ?_;rintro e w2 ⟨y,rfl,ht,d2⟩;unfold mz bF;have hs2:=d2.size;go_wp2_with fail;have HD:=aa (d2.later (ah w2 (ur y)));have HX:=aa (aB.new w2 46 (bF y).toArray);have HT:=aa (ht.later (ah w2 (ur y)));unfold ur bF at HD HX HT;clear ht d2;generalize hW3:w2.alloc _=W3 at*;generalize w2.heap.size=g at*;clear hW3;go_loopg [3] 0 (λ k v wr=>v=aI g 1 1/\wr=W3);case atStart=>exact Zft
 case round=>obtain⟨hv,rfl⟩:=hrel;subst hv;go_wp2_with fail;refine(HM.ae ρ _ HD.ae.at_).mono ?_;rintro e w4 ⟨rfl,d4⟩;go_wp2_with fail;go_ret;have hX:=d4.blk HX.ae Tq;exact⟨⟨some ⟨g,0,none⟩,1,1⟩,rfl,E7 hX ⟨hs2,hX.lt⟩ (HT.ae.grown d4.grown Tq),HD.ae.trans d4⟩
def ElW(E:El α)(val:E.β->Value)(ρ:dv)(W:World)(x:α)(r:dI)(e:Ending)(w':World):Prop:=∃y:E.β,e=.returned (val y)/\E.rel w' (jo W.heap.size w') x y/\eE ρ W w' (.good r) false
theorem PT(hk:iY Pm k=true)(H:cT 0 l x (k::r))(ρ:dv)(w:World)(h:ρ.at w (.good l) false):ar 180 #[ρ.ptr] w (ElW sF orV ρ w (x,true) r):=by
 have HK:=aa hk;have HH:=aa H;clear hk H;have dZ:=h.FW;have hb:=ah w orZ;have h0:=h.later hb;have HQ:=aa (aB.new w 117 #[ag 0,ag 0,af 0,au,au,af 0,az,.bool false]);have hsz:(w.alloc orZ).heap.size=w.heap.size+1:=by simp
 unfold orZ at*;go_enter Tryz.func180,Tryz.ntmps180;go_wp2_with fail;refine(HH.ae ρ _ h0).mono ?_;rintro e w2 ⟨y,rfl,ht,d2⟩;unfold mz bF;have hs2:=d2.size;go_wp2_with fail;have D3:=((eE.cZ h hb).trans d2).later (ah w2 (.cells (E8 (y,false)).toArray 117));have HX:=aB.new w2 117 (E8 (y,false)).toArray;have mX:=(d2.blk HQ.ae Tq).alloc (.cells (E8 (y,false)).toArray 117);have htx:=Tr.at_.keep (Pq (.cells (E8 (y,false)).toArray 117) (show w.heap.size+1<=_ by omega)) _ _ ht;have hs3:(w2.alloc (.cells (E8 (y,false)).toArray 117)).heap.size=w2.heap.size+1:=by simp
 unfold E8 bF at D3 HX mX htx hs3;simp only[cons_append,nil_append] at D3 HX mX htx hs3;generalize w2.alloc _=W3 at*;have hm:=nZ ρ W3 _ false D3.at_ ⟨#[100,101,115,99]⟩ HK.ae;clear h0 hb HQ ht d2;refine hm.mono ?_;rintro e w4 ⟨rfl,d4⟩;have AB:=d4.blk HX Tq;have hx2:=HX.lt;have Eg:=AB.aT 7 (.bool true);simp only[setIfInBounds_toArray,set_cons_zero,set_cons_succ] at Eg;have hxf:=AB.frozen 7;have hxc:=AB.cell 7;have F3:=(d4.blk mX Tq).far (p:=⟨w2.heap.size,7,none⟩) Va (.bool true);have D6:=(D3.trans d4).far dZ (show w.heap.size<=w2.heap.size by omega) 7 (.bool true);have xd:=aa (Tr.at_.keep (Pp (Nat.le_refl _)) _ _ (Tr.at_.keep (ZH 7 (.bool true)) _ _ (Tr.at_.keep (vT d4.grown Tq) _ _ htx)));have XJ:=aa D6;have PL:=aa F3;obtain⟨x0,x1,x2,x3,x4,x5,x6,x7⟩:=dy Eg;obtain⟨y0,y1,y2,y3,y4,y5,y6,y7⟩:=dy F3;obtain⟨z0,z1,z2,z3,z4,z5,z6,z7⟩:=lB F3;clear AB Eg F3 HX mX D3 d4 hm D6 hx2;go_wp2_with fail;have HP:=LW PL.ae y (.bool true);have HR:=dy HP;unfold wu dT at HR;obtain⟨r0,r1,r2,r3,r4,r5,r6,r7⟩:=HR;refine bodyPost_ret (v:=orV (y,true)) ?_ rfl ?_
 ·simp[results,Tryz.results180,go_sem,r0,r1,r2,r3,r4,r5,r6,r7];rfl
 ·exact⟨(y,true),rfl,⟨(xd.ae.wu (Nat.lt_succ_self _) y (.bool true)).more Tq,rfl⟩,XJ.ae.wu dZ (Nat.le_refl _) y (.bool true)⟩
theorem Cp(hk:iY acm k=false)(H:cT 0 l x (k::r))(ρ:dv)(w:World)(h:ρ.at w (.good l) false):ar 178 #[ρ.ptr] w (ElW rb itV ρ w (x,ByteArray.empty) (k::r)):=by
 have HK:=aa hk;have HH:=aa H;clear hk H;have dZ:=h.FW;have hb:=ah w itZ;have h0:=h.later hb;have HQ:=aa (aB.new w 48 #[ag 0,ag 0,af 0,au,au,af 0,az,au]);have hsz:(w.alloc itZ).heap.size=w.heap.size+1:=by simp
 unfold itZ at*;go_enter Tryz.func178,Tryz.ntmps178;go_wp2_with fail;refine(HH.ae ρ _ h0).mono ?_;rintro e w2 ⟨y,rfl,ht,d2⟩;unfold mz bF;have hs2:=d2.size;go_wp2_with fail;have D3:=((eE.cZ h hb).trans d2).later (ah w2 (.cells (Tb (y,⟨#[]⟩)).toArray 48));have HX:=aB.new w2 48 (Tb (y,⟨#[]⟩)).toArray;have mX:=(d2.blk HQ.ae Tq).alloc (.cells (Tb (y,⟨#[]⟩)).toArray 48);have ht3:=(ht.later (ah w2 (.cells (Tb (y,⟨#[]⟩)).toArray 48))).more (B':=w.heap.size+1) Tq;unfold Tb bF at D3 HX mX ht3;simp only[cons_append,nil_append] at D3 HX mX ht3;generalize w2.alloc _=W3 at*;have hm:=cj ρ W3 _ false D3.at_ ⟨#[97,115]⟩ HK.ae;clear h0 hb HQ ht d2;refine hm.mono ?_;rintro e w4 ⟨rfl,d4⟩;have Eg:=d4.blk HX Tq;have F3:=d4.blk mX Tq;have HT4:=aa (ht3.grown d4.grown Tq);have HD4:=aa (D3.trans d4);have PL:=aa F3;obtain⟨x0,x1,x2,x3,x4,x5,x6,x7⟩:=dy Eg;obtain⟨y0,y1,y2,y3,y4,y5,y6,y7⟩:=dy F3;obtain⟨z0,z1,z2,z3,z4,z5,z6,z7⟩:=lB F3;clear Eg F3 HX mX ht3 D3 d4 hm;go_wp2_with fail;have HP:=LW PL.ae y (au);have HR:=dy HP;unfold wu dT at HR;obtain⟨r0,r1,r2,r3,r4,r5,r6,r7⟩:=HR;refine bodyPost_ret (v:=itV (y,⟨#[]⟩)) ?_ rfl ?_
 ·simp[results,Tryz.results178,go_sem,r0,r1,r2,r3,r4,r5,r6,r7];rfl
 ·exact⟨(y,⟨#[]⟩),rfl,⟨(HT4.ae.wu (Nat.lt_succ_self _) y (au)).more Tq,rfl⟩,HD4.ae.wu dZ (Nat.le_refl _) y (au)⟩
end Go.Proofs.YtndgjggokjickaaGreatDoor.R
