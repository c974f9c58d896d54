/- Parts of the proof. -/
import Derived.Test.YtndgjggokjickaaGreatDoorXS4
namespace Go.Proofs.YtndgjggokjickaaGreatDoor.R
variable{p:Prop}
set_option maxHeartbeats 90000000
set_option maxRecDepth 100000
open Go.ChangeShapes Go.WideShapes Go.ChangeAt Go.RowKit List
set_option linter.unusedVariables false
set_option linter.unusedSimpArgs false
theorem UC{s:ByteArray} {a:Nat} {x:List UInt8}(hb:a+x.length<=s.size):((s.extract a (a+x.length)).toList==x)=x.isPrefixOf (s.data.toList.drop a):=by
 rw[ByteArray.toList_eq,pE,drop_take,Nat.add_sub_cancel_left];rw[Bool.eq_iff_iff,beq_iff_eq,isPrefixOf_iff_prefix];constructor
 ·intro h;refine⟨(s.data.toList.drop a).drop x.length,?_⟩;have:=take_append_drop x.length (s.data.toList.drop a);rwa [h] at this
 ·rintro⟨r,h⟩;rw[<- h];simp
theorem UD{s:ByteArray} {a:Nat} {x:List UInt8}(hb:¬a+x.length<=s.size)(ha:a<=s.size):x.isPrefixOf (s.data.toList.drop a)=false:=by rw[Bool.eq_false_iff];intro h;rw[isPrefixOf_iff_prefix] at h;have:=h.length_le;rw[length_drop] at this;simp at this;omega
theorem zg7.KbK(h:p:=by
 have HZ:=aa ((aC.new w 172 #[ag 0,au,af 0,af 0]).alloc (.cells (signs.map λ l=>Value.string ⟨l.toArray⟩).toArray 9));have hG:aC ((w.alloc (.cells #[ag 0,au,af 0,af 0] 172)).alloc (.cells (signs.map λ l=>Value.string ⟨l.toArray⟩).toArray 9)) (w.heap.size+1) 9 (signs.map λ l=>Value.string ⟨l.toArray⟩).toArray:=by have:=aC.new (w.alloc (.cells #[ag 0,au,af 0,af 0] 172)) 9 (signs.map λ l=>Value.string ⟨l.toArray⟩).toArray;simpa using this
 have Kx:aj w ((w.alloc (.cells #[ag 0,au,af 0,af 0] 172)).alloc (.cells (signs.map λ l=>Value.string ⟨l.toArray⟩).toArray 9)):=((Below.refl _ _).alloc (Nat.le_refl _) _).alloc Tac _;have HG:=aa hG;clear hG t0;simp only[signs,map_cons,map_nil] at HZ HG Kx;generalize (w.alloc (.cells #[ag 0,au,af 0,af 0] 172)).alloc _=W at*;go_loopw [13] (λ u wr=>∃i n:Nat,i<=15/\u=af i/\wr=W.drewN n/\kL signs (s.data.toList.drop at_)=kL (signs.drop i) (s.data.toList.drop at_)) (λ u _=>15 - (intOf u).toNat);case atStart=>exact⟨0,0,by omega,rfl,rfl,rfl⟩
 case round=>
  obtain⟨i,n,hi,rfl,rfl,hsg⟩:=hrel;have qp:=aa hsg;clear hsg;have HZn:=aa (HZ.ae.drewN n);have bb:=Kx.trans ((nd W n).mono Kx.size);by_cases akS:i < 15
  ·obtain⟨x,hx,hdx,hx1,hx2⟩:=aaK akS
   have hcell:(W.drewN n).cell? ⟨w.heap.size+1,i,none⟩=some (.string ⟨x.toArray⟩):=by
    rw[(HG.ae.drewN n).cell i];have:(signs.map λ l=>Value.string ⟨l.toArray⟩).toArray[i]?=some (.string ⟨x.toArray⟩):=by simp[hx]
    exact this
   generalize hWn:W.drewN n=Wn at*;have HWN:=aa hWn;have S9:=aa hdx;clear hWn hx hdx;by_cases hto:at_+x.length<=s.size
   ·have n1:=decide_eq_true (show((at_:Int)+(x.length:Int))<=(s.size:Int) by omega);have HT:=aa (UC hto);cases hp:x.isPrefixOf (s.data.toList.drop at_)
    ·have HP:=aa hp;have t1:((s.extract at_ (at_+x.length)).toList==x)=false:=HT.ae.trans hp;have AP:=λ W':World=>lz s at_ (at_+x.length) (at_:Int) ((at_:Int)+(x.length:Int)) rfl WC WC hto W'
     clear hp;exact ZdJ
    ·have HP:=aa hp;have t1:((s.extract at_ (at_+x.length)).toList==x)=true:=HT.ae.trans hp;have AP:=λ W':World=>lz s at_ (at_+x.length) (at_:Int) ((at_:Int)+(x.length:Int)) rfl WC WC hto W'
     clear hp;go_wp2_with fail;go_quiet (fail);obtain⟨z0,z1,z2,z3,y0,y1,y2,y3⟩:=bR (HZn.ae.drewN nq);have bq:=bb.trans ((nd Wn nq).mono bb.size);have YF:(Wn.drewN nq).cell? ⟨w.heap.size+1,i,none⟩=some (.string ⟨x.toArray⟩):=hcell;generalize Wn.drewN nq=Wq at*;clear hcell;go_wp2_with fail;refine bodyPost_ret (v:=.tuple #[.agg #[ag 4,.string ⟨x.toArray⟩,af 0,af at_],af ((at_:Int)+(x.length:Int)),af 0]) Zb0 rfl ?_
     ·have e1:kL signs (s.data.toList.drop at_)=some x:=by rw[qp.ae,S9.ae,kL,if_pos HP.ae]
      rw[rN.ae,e1];unfold Ab;simp only;have e2:s.size - ((s.data.toList.drop at_).drop x.length).length=at_+x.length:=by rw[drop_drop,length_drop,HLEN.ae];omega
      rw[e2];exact⟨rfl,wD bq (Nat.le_refl _) _ _ _ _⟩
   ·have n1:=decide_eq_false (show¬((at_:Int)+(x.length:Int))<=(s.size:Int) by omega);have HP:=aa (UD hto WC);exact ZdJ
  ·obtain rfl:i=15:=by omega
   obtain⟨z0,z1,z2,z3,y0,y1,y2,y3⟩:=bR HZn.ae;generalize W.drewN n=Wn at*;exact Zc8):p:=h
theorem Zd (s:ByteArray)(at_:Nat)(w:World)(ha:at_ < s.size)(hc:fN s[at_]=false)(hdg:bE s[at_]=false)(hq:s[at_]≠39)(hs:s.size<=4294967280):
  ar 132 #[.string s,af at_] w (Ab s at_ w (ie (s.data.toList.drop at_))):=by
 have hd:=cI (eX s at_ ha)
 have mL:ie (s.data.toList.drop at_)=match kL signs (s.data.toList.drop at_)with
   | some x=> .ok (⟨4,x,0⟩,(s.data.toList.drop at_).drop x.length)
   | none=> .error 30:=by
  rw[hd];simp only[ie,hc,hdg,if_neg hq];rfl
 generalize ie (s.data.toList.drop at_)=R at*;have t0:(((s[at_].toNat:Nat):Int)==39)=false:=by rw[beq_eq_false_iff_ne];intro h;exact hq (UInt8.toNat_inj.1 (by simpa using(by omega:s[at_].toNat=39)))
 open zg7 in exact ZeJ
theorem aaP (s:ByteArray)(at_:Nat)(w:World)(ha:at_ < s.size)(hs:s.size<=4294967280):
  ar 132 #[.string s,af at_] w (Ab s at_ w (ie (s.data.toList.drop at_))):=by
 cases hl:fN s[at_]
 ·cases hd:bE s[at_]
  ·by_cases hq:s[at_]=39
   ·exact Zb s at_ w ha hl hd hq hs
   ·exact Zd s at_ w ha hl hd hq hs
  ·exact one_num s at_ w ha hl hd hs
 ·exact Za s at_ w ha hl hs
def LX (n:Nat)(r:List UInt8):Except (Nat×Nat) (List rJ):=xO n (n+1) r
def pre (acc:List rJ):Except (Nat×Nat) (List rJ)->Except (Nat×Nat) (List rJ)
 | .error e=> .error e
 | .ok l=> .ok (acc++l)
def Ze (n:Nat):rJ:=⟨⟨0,[],0⟩,n⟩
theorem xV (b:Bool)(r:List UInt8):cD false (cD b r)=cD b r:=by
 induction r generalizing b with
 | nil=>cases b <;> rfl
 | cons d r ih=>
   cases b with
   | true=>
     simp only[cD];split
     ·exact ih false
     ·exact ih true
   | false=>
     by_cases h1:rI d=true
     ·simp only[cD,if_pos h1];exact ih false
     ·by_cases h2:d=45/\r.head?=some 45
      ·simp only[cD,if_neg h1,if_pos h2];exact ih true
      ·have:cD false (d::r)=d::r:=by simp only[cD,if_neg h1,if_neg h2]
       rw[this,this]
theorem Sk (n:Nat)(r:List UInt8):LX n (cD false r)=LX n r:=by unfold LX;simp only[xO];have:=xV false r;rw[this]
theorem afZ{n:Nat} {r:List UInt8}(h:cD false r=[]):LX n r=.ok [Ze n]:=by unfold LX;simp only[xO,h];rfl
variable{r':List UInt8}
theorem aga{n:Nat} {r:List UInt8} {c:UInt8} {e:Nat}(h:cD false r=c::r')(ho:ie (c::r')=.error e):LX n r=.error (n - (c::r').length,e):=by unfold LX;simp only[xO,h,ho]
variable{rest:List UInt8}
theorem akT{n:Nat} {r:List UInt8} {c:UInt8} {w:Wd}(hr:r.length<=n)(h:cD false r=c::r')(ho:ie (c::r')=.ok (w,rest)):LX n r=pre [⟨w,n - (c::r').length⟩] (LX n rest):=by
 have h1:=AH ho;have h2:=jY false r;rw[h] at h2;unfold LX;conv=>lhs;unfold xO
 simp only[h,ho];rw[FQ n n (n+1) rest WC WC];cases xO n (n+1) rest <;> rfl
theorem aaQ (a b:List rJ)(x:Except (Nat×Nat) (List rJ)):pre a (pre b x)=pre (a++b) x:=by cases x <;> simp[pre]
theorem aaR (x:Except (Nat×Nat) (List rJ)):pre [] x=x:=by cases x <;> rfl
theorem Zf{r:List UInt8} {x:Nat}(h:ie r=.error x):x=2\/x=30:=by
 cases r with
 | nil=>simp[ie] at h;exact .inr h.symm
 | cons c r=>
   simp only[ie] at h;split at h
   ·split at h
    ·cases h
    ·injection h with h;exact .inl h.symm
   ·split at h
    ·exact Zgc
    ·split at h
     ·exact Zgc
     ·exact Zgc
theorem LH{r:List UInt8} {w:Wd}(h:ie r=.ok (w,rest)):rest <:+ r:=by obtain⟨b,hb,_⟩:=BW h;exact⟨b,hb.symm⟩
def rO (t:rJ):List Value:=[ag t.w.k,.string ⟨t.w.s.toArray⟩,af t.w.n,af t.p]
theorem LI:(Tryz.prog.info? 172).map (λ i=>(i.zero,i.size,i.bytes))=some (some (.agg #[ag 0,au,af 0,af 0]),4,40):=by exact ZhU
def LJ (w:World)(base:Nat)(v:Value)(l:List rJ):Prop:=aI rO 172 4 w base v l
def wE (s:ByteArray)(w:World)(e:Ending)(w':World):Prop:=
 match zZ s.data.toList with
 | .error (p,x)=>e=.returned (.tuple #[az,af p,af x])/\aj w w'
 | .ok l=>∃v,e=.returned (.tuple #[v,af 0,af 0])/\LJ w' w.heap.size v l/\aj w w'
theorem Zg{s:ByteArray}(h:4096 < s.size):zZ s.data.toList=.error (0,2):=by unfold zZ;rw[if_pos Tal]
theorem aaS{s:ByteArray}(h:¬4096 < s.size):zZ s.data.toList=LX s.size s.data.toList:=by
 unfold zZ LX;have:s.data.toList.length=s.size:=by simp
 rw[this,if_neg h]
structure Zh (s:ByteArray) (w:World) (a:Nat) (v:Value) (acc:List rJ) (wr:World):Prop where
 bel:aj w wr
 own:LJ wr w.heap.size v acc
 le:a<=s.size
 len:acc.length<=a
 skip:cD false (s.data.toList.drop a)=s.data.toList.drop a
 more:LX s.size s.data.toList=pre acc (LX s.size (s.data.toList.drop a))
theorem Zi (s:ByteArray)(w:World)(hs:s.size<=4294967280):ar 85 #[.string s] w (wE s w):=by
 by_cases akU:4096 < s.size
 ·unfold wE;rw[Zg akU];go_enter Tryz.func85,Tryz.ntmps85;go_wp2_with fail;go_ret3;exact⟨rfl,Below.refl _ _⟩
 ·have HPO:=aa (aaS akU);have HLEN:=aa (show s.data.toList.length=s.size by simp);go_enter Tryz.func85,Tryz.ntmps85;go_wp2_with fail;refine(FW s 0 _ (Nat.zero_le _) hs).mono ?_;rintro e w1 ⟨rfl,rfl⟩
  have hA:Zh s w (fJ s 0) (az) [] w:=by
   refine⟨Below.refl _ _,aI.nil,xU _ _,Nat.zero_le _,?_,?_⟩
   ·rw[np];exact xV _ _
   ·rw[np,Sk,aaR];rfl
  generalize fJ s 0=a0 at*;have HA:=aa hA;clear hA;go_wp2_with fail;go_loopw [5,6] (λ x y wr=>∃(a:Nat) (acc:List rJ) (u:Value),x=u/\y=af a/\Zh s w a u acc wr) (λ _ y _=>s.size - (intOf y).toNat);case atStart=>exact⟨a0,[],_,rfl,rfl,HA.ae⟩
  case round=>
   obtain⟨a,acc,u,hu,rfl,hA⟩:=hrel;have hu2:=hu.symm;clear hu;subst hu2;have agb:=hA.bel.size;have aaO:=hA.len;have hae:=hA.le;have LK:=aa hA;clear hA;by_cases ha:a < s.size
   ·go_wp2_with fail;refine(aaP s a _ ha hs).mono ?_;intro e w2 hp;have HB:=aa (eX s a ha);rcases hres:ie (s.data.toList.drop a)with x |⟨d,rest⟩
    ·rw[hres] at hp;obtain⟨rfl,hb⟩:=hp;have hx:=Zf hres;have jG:=aa hres;have n1:((x:Int)==0)=false:=by rcases hx with rfl | rfl <;> rfl
     have n2:((x:Int) != 0)=true:=by rcases hx with rfl | rfl <;> rfl
     have n3:¬((x:Int)=0):=by omega
     clear hres;go_wp2_with fail;go_ret3;unfold wE;rw[HPO.ae,LK.ae.more,aga (by rw[LK.ae.skip];exact cI HB.ae) (by rw[<- cI HB.ae];exact jG.ae)];have e1:s.size - (s[a]::s.data.toList.drop (a+1)).length=a:=by rw[<- cI HB.ae,length_drop,HLEN.ae];omega
     rw[e1];exact⟨rfl,LK.ae.bel.trans ((hb.mono agb).trans ((ah w2 _).mono (by have:=hb.size;omega)))⟩
    ·rw[hres] at hp;obtain⟨rfl,hb⟩:=hp;have jG:=aa hres;clear hres;have bW:=((Below.refl w2.heap.size w2).alloc (Nat.le_refl _) (.cells (rO ⟨d,a⟩).toArray 172)).alloc Tac (.cells (rO ⟨d,a⟩).toArray 172);have hown:LJ w2 w.heap.size u acc:=LK.ae.own.later hb;have HO:=aa (hown.later bW);have hG:aC ((w2.alloc (.cells (rO ⟨d,a⟩).toArray 172)).alloc (.cells (rO ⟨d,a⟩).toArray 172)) (w2.heap.size+1) 172 (rO ⟨d,a⟩).toArray:=by have:=aC.new (w2.alloc (.cells (rO ⟨d,a⟩).toArray 172)) 172 (rO ⟨d,a⟩).toArray;simpa using this
     have HG:=aa hG;have akV:aj w ((w2.alloc (.cells (rO ⟨d,a⟩).toArray 172)).alloc (.cells (rO ⟨d,a⟩).toArray 172)):=LK.ae.bel.trans ((hb.mono agb).trans (bW.mono (by have:=hb.size;omega)));have Ch:=aa akV;clear hown hG akV bW hb;have LM:rest <:+ s.data.toList:=(LH jG.ae).trans (List.drop_suffix _ _);have hq:s.data.toList.drop (s.size - rest.length)=rest:=by have:=drop_suffix LM;rwa [HLEN.ae] at this
     have ayQ:rest.length < s.size - a:=by have:=AH jG.ae;rwa [length_drop,HLEN.ae] at this
     have HQ:=aa hq;have ayR:s.size - rest.length<=fJ s (s.size - rest.length):=by unfold fJ;rw[HQ.ae];have:=jY false rest;omega
     clear hq LM;unfold rO at HG HO Ch;go_wp2_with (first
      |(at_builtin
        refine aV rfl (.tmp 30) (.tmp 32) 164 rfl _ 40 Tryz.underlying164 LI rfl WC ⟨d,a⟩ rfl (by simp[rO,Value.oneCell']) rfl HO.ae (w2.heap.size+1) rfl HG.ae WC WC Ch.ae.size ?_
        intro v2 w3 o2 g2
        have b2:=bw HO.ae g2 Ch.ae.size
        have O2:=aa o2
        have B2:=aa (Ch.ae.trans b2)
        clear o2 g2 HO HG b2 Ch))
     refine(FW s (s.size - rest.length) _ (Nat.sub_le _ _) hs).mono ?_;rintro e w4 ⟨rfl,rfl⟩;go_wp2_with fail;go_roundw
     case rel=>
      refine⟨fJ s (s.size - rest.length),acc++ [rJ.mk d a],v2,rfl,rfl,B2.ae,O2.ae,xU _ _,?_,?_,?_⟩
      ·rw[length_append,length_singleton];omega
      ·rw[np];exact xV _ _
      ·have e1:s.size - (s[a]::s.data.toList.drop (a+1)).length=a:=by rw[<- cI HB.ae,length_drop,HLEN.ae];omega
       rw[LK.ae.more,akT (by rw[length_drop,HLEN.ae];omega) (by rw[LK.ae.skip];exact cI HB.ae) (by rw[<- cI HB.ae];exact jG.ae),e1,aaQ,np,Sk,HQ.ae]
     case measure=>have:=xU s (s.size - rest.length);exact Za6
   ·have hnil:s.data.toList.drop a=[]:=drop_eq_nil_of_le Tas;have Zc:=aa hnil;clear hnil;have bW:=(Below.refl wr.heap.size wr).alloc (Nat.le_refl _) (.cells (rO (Ze s.size)).toArray 172);have HO:=aa (LK.ae.own.later bW);have HG:=aa (aC.new wr 172 (rO (Ze s.size)).toArray);have Ch:=aa (LK.ae.bel.trans (bW.mono agb));clear bW;unfold rO Ze at HG HO Ch;go_wp2_with (first
     |(at_builtin
       refine aV rfl (.tmp 37) (.tmp 41) 164 rfl _ 40 Tryz.underlying164 LI rfl WC (Ze s.size) rfl (by simp[rO,Value.oneCell']) rfl HO.ae wr.heap.size rfl HG.ae WC WC Ch.ae.size ?_
       intro v2 w3 o2 g2
       have b2:=bw HO.ae g2 Ch.ae.size
       have O2:=aa o2
       have B2:=aa (Ch.ae.trans b2)
       clear o2 g2 HO HG b2 Ch))
    go_ret3;unfold wE;rw[HPO.ae,LK.ae.more,Zc.ae,afZ rfl];exact⟨v2,rfl,O2.ae,B2.ae⟩
theorem Sm (t:rJ):(rO t).length=4:=rfl
variable{w:World}{base:Nat}{v:Value}
theorem LJ.at_{l:List rJ}(h:LJ w base v l) {k:Nat} {t:rJ}(hk:l[k]?=some t):
  ∃g c,v=aF g l.length c/\g < w.heap.size/\w.cell? ⟨g,k*4,none⟩=some (ag t.w.k)/\w.cell? ⟨g,k*4+1,none⟩=some (.string ⟨t.w.s.toArray⟩)/\w.cell? ⟨g,k*4+2,none⟩=some (af t.w.n)/\w.cell? ⟨g,k*4+3,none⟩=some (af t.p):=by obtain⟨g,c,hv,_,hlt,hc⟩:=aI.cell Sm h hk;exact⟨g,c,hv,hlt,hc 0 _ rfl,hc 1 _ rfl,hc 2 _ rfl,hc 3 _ rfl⟩
variable{A:Option Addr}
theorem LJ.cells{n c:Nat} {l:List rJ}(h:LJ w base (.slice A n c) l)(hne:l≠ []):
  ∃g,A=some ⟨g,0,none⟩/\base<=g/\g < w.heap.size/\∀k t,l[k]?=some t->w.cell? ⟨g,k*4,none⟩=some (ag t.w.k)/\w.cell? ⟨g,k*4+1,none⟩=some (.string ⟨t.w.s.toArray⟩)/\w.cell? ⟨g,k*4+2,none⟩=some (af t.w.n)/\w.cell? ⟨g,k*4+3,none⟩=some (af t.p):=by
 match l,hne with
 | t0::l,_=>obtain⟨g,c0,hv,hb,hlt,_⟩:=aI.cell Sm h (k:=0) (x:=t0) rfl;injection hv with hA _ _;refine⟨g,hA,hb,hlt,λ k t hk=>?_⟩;obtain⟨g',c',hv',_,a⟩:=h.at_ hk;injection hv' with hA' _ _;rw[hA] at hA';injection hA' with hA';injection hA' with hg _ _;subst hg;exact a
structure dv where
 g:Nat
 gl:Nat
 c:Nat
 UE:List rJ
def dv.n (ρ:dv):Nat:=ρ.UE.length
def dv.ws (ρ:dv):dI:=ρ.UE.map (·.w)
def dv.bad (ρ:dv):cq->Int
 | .good _=> -1
 | .bad m=>(ρ.n:Int) - m
def dv.cells (ρ:dv)(σ:cq)(big:Bool):Array Value:= #[aF ρ.gl ρ.n ρ.c,af ((ρ.n:Int) - σ.left),af (ρ.bad σ),.bool big]
structure dv.at (ρ:dv) (w:World) (σ:cq) (big:Bool):Prop where
 blk:aC w ρ.g 169 (ρ.cells σ big)
 lt:ρ.gl < ρ.g
 cell:∀k t,ρ.UE[k]?=some t->w.cell? ⟨ρ.gl,k*4,none⟩=some (ag t.w.k)/\w.cell? ⟨ρ.gl,k*4+1,none⟩=some (.string ⟨t.w.s.toArray⟩)/\w.cell? ⟨ρ.gl,k*4+2,none⟩=some (af t.w.n)/\w.cell? ⟨ρ.gl,k*4+3,none⟩=some (af t.p)
 of:σ.of ρ.ws
 small:ρ.n<=5000
 Zj:∀t∈ρ.UE,0<=t.w.n/\t.w.n<=9223372036854775807
section
variable {ρ:dv} {w w':World} {σ:cq} {big:Bool}
theorem dv.at.later (h:ρ.at w σ big)(hb:aj w w'):ρ.at w' σ big:=
 ⟨h.blk.later hb,h.lt,λ k t hk=>by
   have hl:ρ.gl < w.heap.size:=Nat.lt_trans h.lt h.blk.lt
   have c:=λ o=>hb.cell (p:=⟨ρ.gl,o,none⟩) hl
   obtain⟨h1,h2,h3,h4⟩:=h.cell k t hk
   exact⟨(c _).trans h1,(c _).trans h2,(c _).trans h3,(c _).trans h4⟩,h.of,h.small,h.Zj⟩
theorem dv.at.FY (h:ρ.at w σ big):ρ.g < w.heap.size:=h.blk.lt
theorem dv.at.set {zr:cq} {Pq:Bool}(h:ρ.at w σ big)(hw:aC w' ρ.g 169 (ρ.cells zr Pq))(hg:w.grownBy w' (some ρ.g))(ho:zr.of ρ.ws):ρ.at w' zr Pq:=
 ⟨hw,h.lt,λ k t hk=>by
   have hl:ρ.gl < w.heap.size:=Nat.lt_trans h.lt h.blk.lt
   have c:=cell_of_heap (hg.block ρ.gl hl (λ e=>by injection e with e;have:=h.lt;omega))
   obtain⟨h1,h2,h3,h4⟩:=h.cell k t hk
   exact⟨(c _).trans h1,(c _).trans h2,(c _).trans h3,(c _).trans h4⟩,ho,h.small,h.Zj⟩
theorem dv.at.left (h:ρ.at w σ big):0 < σ.left/\σ.left<=ρ.n:=by have:=cq.Pk h.of;simpa [dv.ws,dv.n] using this
theorem dv.at.far {q:Nat}(h:ρ.at w σ big)(hq:ρ.g < q)(i:Nat)(u:Value):ρ.at (w.setCell ⟨q,i,none⟩ u) σ big:=
 ⟨h.blk.far (p:=⟨q,i,none⟩) Tab u,h.lt,λ k t hk=>by
   have c:=cell_of_heap (Below.heap_setCell w ⟨q,i,none⟩ u ρ.gl (by have:=h.lt;simp;omega))
   obtain⟨h1,h2,h3,h4⟩:=h.cell k t hk
   exact⟨(c _).trans h1,(c _).trans h2,(c _).trans h3,(c _).trans h4⟩,h.of,h.small,h.Zj⟩
theorem dv.at.next (h:ρ.at w σ big):∃t:rJ,ρ.UE[ρ.n - σ.left]?=some t/\(∀l,σ=.good l->∃r,l=t.w::r):=by
 obtain⟨h1,h2⟩:=h.left;have hlt:ρ.n - σ.left < ρ.UE.length:=by unfold dv.n at*;omega
 refine⟨_,getElem?_eq_getElem hlt,?_⟩;rintro l rfl;obtain⟨t,r,hl,hk⟩:=cq.of_next h.of;refine⟨r,?_⟩;have e:ρ.ws.length - l.length=ρ.n - (cq.good l).left:=by simp[dv.ws,dv.n,cq.left]
 rw[e] at hk;unfold dv.ws at hk;rw[getElem?_map,getElem?_eq_getElem hlt] at hk;simp only[Option.map_some] at hk;injection hk with hk;rw[hk];exact hl
end
structure eF (ρ:dv) (W w':World) (zr:cq) (Pq:Bool):Prop where
 at_:ρ.at w' zr Pq
 grown:W.grownBy w' (some ρ.g)
section
variable {ρ:dv} {W w w':World} {σ zr:cq} {big Pq:Bool}
theorem eF.refl (h:ρ.at w σ big):eF ρ w w σ big:=⟨h,aT (Below.refl _ _)⟩
theorem eF.cZ (h:ρ.at w σ big)(hb:aj w w'):eF ρ w w' σ big:=⟨h.later hb,aT hb⟩
theorem eF.later (h:eF ρ W w σ big)(hb:aj w w'):eF ρ W w' σ big:=⟨h.at_.later hb,ba h.grown (aT hb)⟩
theorem eF.trans (h:eF ρ W w σ big)(k:eF ρ w w' zr Pq):eF ρ W w' zr Pq:=⟨k.at_,ba h.grown k.grown⟩
theorem eF.size (h:eF ρ W w σ big):W.heap.size<=w.heap.size:=h.grown.size
theorem eF.far {q:Nat}(h:eF ρ W w σ big)(hW:ρ.g < W.heap.size)(hq:W.heap.size<=q)(i:Nat)(u:Value):eF ρ W (w.setCell ⟨q,i,none⟩ u) σ big:=by
 refine⟨h.at_.far WC i u,h.grown.os,h.grown.tape,h.grown.output,?_,λ k hk hkg=>?_⟩
 ·have:(w.setCell ⟨q,i,none⟩ u).heap.size=w.heap.size:=by simp[World.setCell]
  rw[this];exact h.grown.size
 ·rw[Below.heap_setCell w ⟨q,i,none⟩ u k Tab];exact h.grown.block k hk hkg
theorem eF.blk {q:Nat} {t:TypeId} {cs:Array Value}(h:eF ρ W w σ big)(hq:aC W q t cs)(hg:q≠ρ.g):aC w q t cs:=hq.grown h.grown λ e=>hg Tbh
end
variable{σ:cq}
theorem UF{s:List UInt8} (h:σ.head s=true):∃t r,σ=.good (t::r)/\iN s t=true:=by
 match σ with
 | .bad n=>simp[cq.head,cq.words,dJ] at h
 | .good l=>obtain⟨t,r,e,ht⟩:=Lx (s:=s) (l:=l) h;exact⟨t,r,by rw[e],ht⟩
theorem jO{s:List UInt8} (h:σ.head s=true):dr (may s) σ=.good σ.words.tail:=by rw[Lz,h];rfl
theorem iY{s:List UInt8} (h:σ.head s=false):dr (may s) σ=σ:=by rw[Lz,h];rfl
theorem rP{s:List UInt8} (h:σ.head s=true):dr (must s) σ=.good σ.words.tail:=by rw[FU,h];rfl
theorem Ac{s:List UInt8} (h:σ.head s=false):dr (must s) σ=.bad σ.left:=by rw[FU,h];rfl
def wF:List (List UInt8)->Ps Unit
 | []=>pure ()
 | s::ks=>do must s;wF ks
theorem uG (s:List UInt8)(ks:List (List UInt8))(σ:cq):dr (wF (s::ks)) σ=dr (wF ks) (dr (must s) σ):=Us (x:=()) (Pj _ _)
theorem rQ (σ:cq):dr (wF []) σ=σ:=Ut _ _
theorem Ci (s:List UInt8)(σ:cq):dr (wF [s]) σ=dr (must s) σ:=by rw[uG,rQ]
theorem sV (t:Wd)(r:dI):dr wA (.good (t::r))=if t.k=1/\tK t.s=false then .good r else .bad (r.length+1):=by
 simp only[dr,wA];by_cases h:t.k=1/\tK t.s=false
 ·simp only[h,and_self,if_true]
 ·simp only[h,if_false];rfl
theorem Pr (t:Wd)(r:dI):jZ wA (.good (t::r)) ⟨t.s.toArray⟩:=by
 simp only[jZ,wA];by_cases h:t.k=1/\tK t.s=false
 ·simp only[h,and_self,if_true]
 ·simp only[h,if_false]
theorem LN (t:Wd)(r:dI):dr IB (.good (t::r))=if t.k=2 then .good r else .bad (r.length+1):=by
 simp only[dr,IB];by_cases h:t.k=2
 ·simp only[h,if_true]
 ·simp only[h,if_false];rfl
theorem UG (t:Wd)(r:dI):jZ IB (.good (t::r)) t.n:=by
 simp only[jZ,IB];by_cases h:t.k=2
 ·simp only[h,if_true]
 ·simp only[h,if_false]
variable{α:Type}
theorem pF{p:Ps α}  {n:Nat}(h:dr p σ=.bad n)(x:α):jZ p σ x:=by
 match σ with
 | .bad m=>trivial
 | .good l=>
   simp only[dr,jZ] at h ⊢
   cases e:p l with
   | error m=>trivial
   | ok y=>obtain⟨y,r⟩:=y;rw[e] at h;cases h
section
variable {s:List UInt8} {op:Int} {same below:Ps Tr} {σ:cq} {x:Tr}
end
def dv.ptr (ρ:dv):Value:=aw ρ.g
variable{ρ:dv}{big:Bool}
theorem dv.at.facts(h:ρ.at w σ big):
  w.cell? ⟨ρ.g,0,none⟩=some (aF ρ.gl ρ.n ρ.c)/\w.cell? ⟨ρ.g,1,none⟩=some (af ((ρ.n:Int) - σ.left))/\w.cell? ⟨ρ.g,2,none⟩=some (af (ρ.bad σ))/\w.cell? ⟨ρ.g,3,none⟩=some (.bool big)/\
  w.frozen? ⟨ρ.g,1,none⟩=false/\w.frozen? ⟨ρ.g,2,none⟩=false/\w.frozen? ⟨ρ.g,3,none⟩=false:=
 ⟨h.blk.cell 0,h.blk.cell 1,h.blk.cell 2,h.blk.cell 3,h.blk.frozen 1,h.blk.frozen 2,h.blk.frozen 3⟩
theorem dv.at.place(h:ρ.at w σ big):((ρ.n:Int) - σ.left)=((ρ.n - σ.left:Nat):Int):=by have:=h.left;omega
theorem dv.at.Sn(h:ρ.at w σ big):decide (ρ.bad σ < 0)=σ.gT:=by
 have hl:=h.left
 match σ,hl with
 | .bad m,hl=>have e:ρ.bad (.bad m)=(ρ.n:Int) - m:=rfl;have e2:(cq.bad m).left=m:=rfl;rw[e2] at hl;rw[e];simp only[cq.gT,decide_eq_false_iff_not];omega
 | .good l,_=>rfl
theorem Zk{s:ByteArray} {t:Wd}:iN s.data.toList t=((t.k==1 || t.k==4)&&(t.s==s.toList)):=by unfold iN;rw[ByteArray.toList_eq]
def qC:Obj:=.cells #[ag 0,au,af 0,af 0] 172
def dF (t:rJ):Array Value:= #[ag t.w.k,.string ⟨t.w.s.toArray⟩,af t.w.n,af t.p]
structure aaT (ρ:dv) (w:World) (t:rJ) (pl:Nat) (bd:Int):Prop where
 c0:w.cell? ⟨ρ.g,0,none⟩=some (aF ρ.gl ρ.n ρ.c)
 c1:w.cell? ⟨ρ.g,1,none⟩=some (af pl)
 c2:w.cell? ⟨ρ.g,2,none⟩=some (af bd)
 d0:w.cell? ⟨ρ.gl,pl*4,none⟩=some (ag t.w.k)
 d1:w.cell? ⟨ρ.gl,pl*4+1,none⟩=some (.string ⟨t.w.s.toArray⟩)
 d2:w.cell? ⟨ρ.gl,pl*4+2,none⟩=some (af t.w.n)
 d3:w.cell? ⟨ρ.gl,pl*4+3,none⟩=some (af t.p)
variable{w':World}{pl:Nat}{bd:Int}
theorem aaT.later{t:rJ}  (h:aaT ρ w t pl bd)(hb:aj w w'):aaT ρ w' t pl bd:=by obtain⟨h0,h1,h2,h3,h4,h5,h6⟩:=h;exact⟨(hb.cell (lu h0)).trans h0,(hb.cell (lu h1)).trans h1,(hb.cell (lu h2)).trans h2,(hb.cell (lu h3)).trans h3,(hb.cell (lu h4)).trans h4,(hb.cell (lu h5)).trans h5,(hb.cell (lu h6)).trans h6⟩
theorem dv.at.wG(h:ρ.at w σ big):∃(t:rJ) (pl:Nat) (bd:Int),pl=ρ.n - σ.left/\pl < ρ.n/\ρ.n<=5000/\bd=ρ.bad σ/\decide (bd < 0)=σ.gT/\(∀l,σ=.good l->∃r,l=t.w::r)/\0<=t.w.n/\t.w.n<=9223372036854775807/\aaT ρ w t pl bd:=by obtain⟨t,ht,hg⟩:=h.next;obtain⟨d0,d1,d2,d3⟩:=h.cell _ t ht;obtain⟨c0,c1,c2,c3,f1,f2,f3⟩:=h.facts;have hl:=h.left;rw[h.place] at c1;have hn:=h.Zj t (mem_of_getElem? ht);exact⟨t,_,_,rfl,by omega,h.small,rfl,h.Sn,hg,hn.1,hn.2,c0,c1,c2,d0,d1,d2,d3⟩
theorem zh1.Kb5(h:p:=by
 go_enter Tryz.func133,Tryz.ntmps133;go_wp2_with fail;go_region;clear c0 c1 c2 d0 d1 d2 d3 y0 y1 x9 z0 z1 z2 z3 x0 x1 v0 v1 v2 v3;obtain⟨u0,u1,u2,u3,_⟩:=bR HT;unfold dF at x2 u0 u1 u2 u3 hb;generalize (w.alloc _).drew=W at*;go_wp2_with fail
 all_goals
  go_ret;refine⟨ml ?_,hb⟩;rw[WO.ae];generalize (t.w.s==s.toList)=X;cases X <;> rw[Bool.eq_iff_iff] <;> simp <;> omega):p:=h
theorem lK (ρ:dv)(w:World)(σ:cq)(big:Bool)(h:ρ.at w σ big)(s:ByteArray):
  ar 133 #[ρ.ptr,.string s] w λ e w'=>e=.returned (.bool (σ.head s.data.toList))/\aj w w':=by
 obtain⟨t,pl,bd,hpl,hlt,hsm,uH,ck,hg,JZ,vn,hp⟩:=h.wG;have Ea:=hp.later (ah w qC);have LO:=hp.later ((ah w (.cells (dF t) 172)).drew)
 have hHD:σ.head s.data.toList=(decide (bd < 0)&&((t.w.k==1 || t.w.k==4)&&(t.w.s==s.toList))):=by
  rw[ck]
  match σ with
  | .bad m=>rfl
  | .good l=>obtain⟨r,rfl⟩:=hg l rfl;rw[<- Zk];rfl
 have WO:=aa hHD;have hb:=(ah w (.cells (dF t) 172)).drew;have HT:=(aC.new w 172 (dF t)).drew;clear hHD hpl hg ck uH h;unfold dv.ptr;generalize σ.head s.data.toList=R at*;open zh1 in exact Zfh
def Cj (ρ:dv)(W:World)(zr:cq)(big:Bool)(e:Ending)(w':World):Prop:=e=.returned (.tuple #[])/\eF ρ W w' zr big
theorem pG (ρ:dv)(w:World)(σ:cq)(big:Bool)(h:ρ.at w σ big):
  ar 88 #[ρ.ptr] w (Cj ρ w (.bad σ.left) big):=by
 obtain⟨c0,c1,c2,c3,f1,f2,f3⟩:=h.facts;have T4:=h.left;have ck:=h.Sn;have TI:cq.of ρ.ws (.bad σ.left):=⟨(cq.Pk h.of).1,(cq.Pk h.of).2⟩;unfold dv.ptr;by_cases hg:ρ.bad σ < 0
 ·have hB:=aC.aW h.blk 2 (af ((ρ.n:Int) - σ.left));go_enter Tryz.func88,Tryz.ntmps88;go_wp2_with fail;go_end0;exact⟨rfl,h.set hB (aG (aT (Below.refl _ _)) 2 _) TI,aG (aT (Below.refl _ _)) 2 _⟩
 ·have uH:σ=.bad σ.left:=by
   match σ with
   | .bad m=>rfl
   | .good l=>exact absurd (by show(-1:Int)< 0;decide) hg
  have HBD:=aa uH;clear uH;go_enter Tryz.func88,Tryz.ntmps88;go_wp2_with fail;go_end0;rw[<- HBD.ae];exact⟨rfl,eF.refl h⟩
variable{l:dI}
theorem dv.at.step{t:Wd} (h:ρ.at w (.good (t::l)) big)(ht:t.k≠0):
  eF ρ w (w.setCell ⟨ρ.g,1,none⟩ (af ((ρ.n:Int) - l.length))) (.good l) big:=by have hB:=aC.aW h.blk 1 (af ((ρ.n:Int) - l.length));refine⟨h.set hB (aG (aT (Below.refl _ _)) 1 _) ⟨?_,h.of.2.tail ht⟩,aG (aT (Below.refl _ _)) 1 _⟩;exact(suffix_cons _ _).trans h.of.1
theorem rR (ρ:dv)(w:World)(σ:cq)(big:Bool)(h:ρ.at w σ big)(s:ByteArray):
  ar 87 #[ρ.ptr,.string s] w λ e w'=>e=.returned (.bool (σ.head s.data.toList))/\eF ρ w w' (dr (may s.data.toList) σ) big:=by
 have hw:=lK ρ w σ big h s;have Pt:ρ.ptr=aw ρ.g:=rfl;cases hh:σ.head s.data.toList
 ·rw[hh] at hw;rw[iY hh];go_enter Tryz.func87,Tryz.ntmps87;go_wp2_with (go_at_call 133;refine hw.mono ?_;rintro e w1 ⟨rfl,b1⟩);go_ret;exact⟨rfl,eF.cZ h b1⟩
 ·rw[hh] at hw;obtain⟨t,r,rfl,ht⟩:=UF hh;rw[jO hh];go_enter Tryz.func87,Tryz.ntmps87;have HH:=aa h;have HK:=aa (akK ht);have hsm:=h.small;clear ht hh h;go_wp2_with (go_at_call 133;refine hw.mono ?_;rintro e w1 ⟨rfl,b1⟩;obtain⟨c0,c1,c2,c3,f1,f2,f3⟩:=(HH.ae.later b1).facts;have T4:=(HH.ae.later b1).left;have e1:(ρ.n:Int) - (cq.good (t::r)).left+1=(ρ.n:Int) - r.length:=by(simp[cq.left];omega));go_ret;have hd:=dv.at.step (HH.ae.later b1) HK.ae;exact⟨rfl,(eF.cZ HH.ae b1).trans hd⟩
theorem UH{n k:Nat}(h:pl=n - k)(hk:k<=n):(n:Int) - k=pl:=by omega
theorem zgU.KbE(h:p:=by
 by_cases hk:t.w.k=2
 ·have hd:=dv.at.step HF.ae (show t.w.k≠0 by omega);have s2:(W.setCell ⟨ρ.g,1,none⟩ (af ((ρ.n:Int) - r.length))).cell? ⟨w.heap.size,2,none⟩=some (af t.w.n):=(HB.ae.far (p:=⟨ρ.g,1,none⟩) Tab _).cell 2;go_wp2_with fail;go_ret;refine⟨t.w.n,JZ,vn,rfl,?_,UG _ _⟩;rw[LN,if_pos hk];exact HD.ae.trans hd
 ·have g1:((t.w.k:Int) != 2)=true:=by simp;omega
  go_wp2_with (go_at_call 88;refine hwr.mono ?_;rintro e w1 ⟨rfl,d1⟩);go_ret;have e3:dr IB (.good (t.w::r))=.bad (r.length+1):=by rw[LN,if_neg hk]
  refine⟨0,by omega,by omega,rfl,?_,pF e3 _⟩;rw[e3];exact HD.ae.trans d1):p:=h
theorem ziA.Kcj(h:p:=by refine⟨0,by omega,by omega,rfl,?_,FT _ _ _⟩;exact HD.ae.trans d1):p:=h
theorem zhr.KbS(h:p:=by
 by_cases Et:bd < 0
 ·open zgU in exact Zer
 ·open ziA in exact Zgd):p:=h
theorem zet.KaP(h:p:=by go_enter Tryz.func181,Tryz.ntmps181;open zhr in exact ZeX):p:=h
theorem UI (ρ:dv)(w:World)(σ:cq)(big:Bool)(h:ρ.at w σ big):
  ar 181 #[ρ.ptr] w λ e w'=>∃x:Int,0<=x/\x<=9223372036854775807/\e=.returned (af x)/\eF ρ w w' (dr IB σ) big/\jZ IB σ x:=by
 open zet in exact ZbE
theorem zgV.KbE(h:p:=by
 by_cases hk:t.w.k=1
 ·cases hr:tK t.w.s
  ·have HC:=aa (show t.w.k=1/\tK t.w.s=false from⟨hk,hr⟩);have hd0:=λ(W2:World) (hb2:aj W W2)=>dv.at.step (HF.ae.later hb2) (show t.w.k≠0 by omega)
   have R7:=aa hd0;have hs0:=λ(W2:World) (hb2:aj W W2)=>(HB.ae.later hb2).cell 1
   have HS0:=aa hs0;have HX:=aa (λ(W2:World) (hb2:aj W W2)=>(HB.ae.later hb2).far (p:=⟨ρ.g,1,none⟩) Tab (af ((ρ.n:Int) - r.length)));rw[hr] at hres;have jG:=aa hres;clear hd0 hs0 hr hres;go_wp2_with (go_at_call 183;go_loud (refine jG.ae.mono ?_;rintro e w1 ⟨rfl,b1⟩;obtain⟨q0,q1,q2,q3,p1,p2,p3⟩:=(HF.ae.later b1).facts;have s1:=(HX.ae w1 b1).cell 1;have e2:(ρ.n:Int) - (cq.good (t.w::r)).left=pl:=(UH Pu.ae T4.2);rw[e2] at q1));go_ret;refine⟨⟨t.w.s.toArray⟩,rfl,?_,Pr _ _⟩;rw[sV,if_pos HC.ae];exact(HD.ae.later b1).trans (R7.ae w1 b1)
  ·have e3:dr wA (.good (t.w::r))=.bad (r.length+1):=by rw[sV,if_neg (by rw[hr];simp)]
   have HE3:=aa e3;rw[hr] at hres;have jG:=aa hres;clear hr e3 hres;go_wp2_with (first
    |(go_at_call 183;refine jG.ae.mono ?_;rintro e w1 ⟨rfl,b1⟩)
    |(go_at_call 88;refine(pG ρ _ _ big (HF.ae.later b1)).mono ?_;rintro e w2 ⟨rfl,d1⟩))
   go_ret;refine⟨ByteArray.empty,rfl,?_,pF HE3.ae _⟩;rw[HE3.ae];exact(HD.ae.later b1).trans d1
 ·have e3:dr wA (.good (t.w::r))=.bad (r.length+1):=by rw[sV,if_neg (by simp[hk])]
  have HE3:=aa e3;have g1:((t.w.k:Int) != 1)=true:=by simp;omega
  clear e3;go_wp2_with (go_at_call 88;refine hwr.mono ?_;rintro e w1 ⟨rfl,d1⟩);go_ret;refine⟨ByteArray.empty,rfl,?_,pF HE3.ae _⟩;rw[HE3.ae];exact HD.ae.trans d1):p:=h
theorem ziB.Kcj(h:p:=by exact⟨ByteArray.empty,rfl,HD.ae.trans d1,FT _ _ _⟩):p:=h
theorem zhs.KbS(h:p:=by
 have hres:=Es ⟨t.w.s.toArray⟩ W;have AP:(⟨t.w.s.toArray⟩:ByteArray).data.toList=t.w.s:=by simp
 rw[AP] at hres;by_cases Et:bd < 0
 ·open zgV in exact Zer
 ·open ziB in exact Zgd):p:=h
theorem zeu.KaP(h:p:=by go_enter Tryz.func137,Tryz.ntmps137;open zhs in exact ZeX):p:=h
theorem aaU (ρ:dv)(w:World)(σ:cq)(big:Bool)(h:ρ.at w σ big):
  ar 137 #[ρ.ptr] w λ e w'=>∃x:ByteArray,e=.returned (.string x)/\eF ρ w w' (dr wA σ) big/\jZ wA σ x:=by
 open zeu in exact ZbE
def bO (ks:List (List UInt8)):Array Value:=(ks.map strOf).toArray
variable{ks:List (List UInt8)}
theorem sW{b:Nat} (h:aC w b 9 (bO ks)) {i:Nat} {s:List UInt8}(hi:ks[i]?=some s):w.cell? ⟨b,i,none⟩=some (.string ⟨s.toArray⟩):=by rw[h.cell i];simp[bO,hi,strOf]
theorem Zl{l:List α} {i:Nat} {x:α}(h:l[i]?=some x):l.drop i=x::l.drop (i+1):=by obtain⟨hlt,he⟩:=List.getElem?_eq_some_iff.1 h;rw[drop_eq_getElem_cons hlt,he]
theorem Ck (ks:List (List UInt8))(n:Nat):dr (wF ks) (.bad n)=.bad n:=rfl
theorem UJ (ρ:dv)(w:World)(σ:cq)(big:Bool)(h:ρ.at w σ big)(ks:List (List UInt8))(b n:Nat)(hn:ks.length=n)(hb:aC w b 9 (bO ks))(hbg:ρ.g≠b)(hsm:n<=10):
  ar 138 #[ρ.ptr,aF b n n] w (Cj ρ w (dr (wF ks) σ) big):=by
 have HH:=aa h;have HB:=aa hb;clear h hb;go_enter Tryz.func138,Tryz.ntmps138;go_wp2_with fail;go_loopw [4] (λ u wr=>∃(i:Nat) (zr:cq),i<=n/\u=af i/\eF ρ w wr zr big/\dr (wF ks) σ=dr (wF (ks.drop i)) zr) (λ u _=>n - (intOf u).toNat);case atStart=>exact⟨0,σ,Nat.zero_le _,rfl,eF.refl HH.ae,rfl⟩
 case round=>
  obtain⟨i,zr,hi,rfl,hD,hst⟩:=hrel;have HD:=aa hD;have HS:=aa hst;clear hD hst;by_cases hlt:i < n
  ·obtain⟨s,hs⟩:∃s,ks[i]?=some s:=⟨_,getElem?_eq_getElem WC⟩;have hc:=sW (HD.ae.blk HB.ae (λ e=>hbg e.symm)) hs;have vo:=aa (Zl hs);clear hs;have hm:=rR ρ wr zr big HD.ae.at_ ⟨s.toArray⟩;cases hh:zr.head s
   ·have WO:=aa hh;rw[show zr.head (⟨s.toArray⟩:ByteArray).data.toList=false from hh,iY (s:=(⟨s.toArray⟩:ByteArray).data.toList) hh] at hm;clear hh;go_wp2_with (first
     |(go_at_call 87;refine hm.mono ?_;rintro e w1 ⟨rfl,d1⟩)
     |(go_at_call 88;refine(pG ρ _ _ big d1.at_).mono ?_;rintro e w2 ⟨rfl,d2⟩))
    go_end0;refine⟨rfl,?_⟩;rw[HS.ae,vo.ae,uG,Ac WO.ae,Ck];exact HD.ae.trans (d1.trans d2)
   ·have WO:=aa hh;rw[show zr.head (⟨s.toArray⟩:ByteArray).data.toList=true from hh,jO (s:=(⟨s.toArray⟩:ByteArray).data.toList) hh] at hm;clear hh;go_wp2_with (first
     |(go_at_call 87;refine hm.mono ?_;rintro e w1 ⟨rfl,d1⟩))
    go_roundw;case rel=>refine⟨i+1,_,by omega,by go_num,HD.ae.trans d1,?_⟩;rw[HS.ae,vo.ae,uG,rP WO.ae]
    case measure=>exact Za6
  ·obtain rfl:i=n:=by omega
   have hd:ks.drop i=[]:=drop_eq_nil_of_le WC;rw[hd] at HS;go_wp2_with fail;go_end0;refine⟨rfl,?_⟩;rw[HS.ae,rQ];exact HD.ae
theorem FZ (ρ:dv)(w:World)(σ:cq)(big:Bool)(h:ρ.at w σ big)(n:Nat)(hn:n<=1000000):
  ar 140 #[ρ.ptr,af n] w λ e w'=>e=.returned (.bool (σ.head dM))/\eF ρ w w' (dr (may dM) σ) (big || decide (64 < n)):=by
 have Pt:ρ.ptr=aw ρ.g:=rfl;obtain⟨c0,c1,c2,c3,f1,f2,f3⟩:=h.facts;by_cases h64:64 < n
 ·have hB:=aC.aW h.blk 3 (.bool true);have hg:w.grownBy (w.setCell ⟨ρ.g,3,none⟩ (.bool true)) (some ρ.g):=aG (aT (Below.refl _ _)) 3 _;have hat:ρ.at (w.setCell ⟨ρ.g,3,none⟩ (.bool true)) σ true:=h.set hB hg h.of;have hm:=rR ρ _ σ true hat ⟨#[44]⟩;have e1:(big || decide (64 < n))=true:=by simp[h64]
  have hn:(64:Int)< n:=by omega
  rw[e1];clear h hat hB e1;unfold dv.ptr at*;go_enter Tryz.func140,Tryz.ntmps140;go_wp2_with (first
   |(go_at_call 87;refine hm.mono ?_;rintro e w1 ⟨rfl,d1⟩))
  go_ret;exact⟨rfl,⟨d1.at_,ba hg d1.grown⟩⟩
 ·have hm:=rR ρ _ σ big h ⟨#[44]⟩;have e1:(big || decide (64 < n))=big:=by simp[h64]
  have hn:¬(64:Int)< n:=by omega
  rw[e1];clear h e1;unfold dv.ptr at*;go_enter Tryz.func140,Tryz.ntmps140;go_wp2_with (first
   |(go_at_call 87;refine hm.mono ?_;rintro e w1 ⟨rfl,d1⟩))
  go_ret;exact⟨rfl,d1⟩
def kM (lv:Nat)(t:Wd):Int:=(YN (opsL lv) [t]).getD 0
variable{lv:Nat}
theorem agd{t:Wd}(h1:t.k≠1)(h4:t.k≠4):kM lv t=0:=by
 unfold kM
 have:∀ks,YN ks [t]=none:=by
  intro ks
  induction ks with
  | nil=>rfl
  | cons a ks ih=>obtain⟨s,o⟩:=a;simp[YN,dJ,iN,h1,h4,ih]
 rw[this];rfl
theorem Sp{t:Wd}(h:t.k=1\/t.k=4):kM lv t=((opsL lv).lookup t.s).getD 0:=by
 unfold kM;congr 1;have hk:(t.k==1 || t.k==4)=true:=by rcases h with h | h <;> simp[h]
 generalize opsL lv=ks
 induction ks with
 | nil=>rfl
 | cons a ks ih=>obtain⟨s,o⟩:=a;simp only[YN,dJ,iN,hk,Bool.true_and,List.lookup];rw[ih];cases e:(t.s==s)<;> simp
def sX (lv:Nat)(t:Wd)(w:World)(e:Ending)(w':World):Prop:=e=.returned (ag (kM lv t))/\aj w w'
theorem nt (lv:Nat)(hlv:lv=0\/lv=1\/lv=4\/lv=5)(t:rJ)(w:World)(hk:t.w.k=1\/t.w.k=4):
  ar 200 #[af lv,.agg (dF t)] w (sX lv t.w w):=by
 have HR:=aa (Sp (lv:=lv) hk);have hb:=ah w (.cells (dF t) 172);obtain⟨u0,u1,u2,u3,_⟩:=bR (aC.new w 172 (dF t));unfold sX;unfold dF at*;rcases hk with hk | hk
 ·have n1:((t.w.k:Int) != 1)=false:=by simp;omega
  exact Zdh
 ·have n1:((t.w.k:Int) != 1)=true:=by simp;omega
  have n2:((t.w.k:Int) != 4)=false:=by simp;omega
  exact Zdh
def lq:List (List UInt8):=[[61],[60,62],[60],[60,61],[62],[62,61]]
theorem Zm{x:List UInt8} {i:Nat}(hi:i < 6):∃y,lq[i]?=some y/\((opsL 3).drop i).lookup x=if x==y then some ((10:Int)+i)else((opsL 3).drop (i+1)).lookup x:=by
 rcases(by omega:i=0\/i=1\/i=2\/i=3\/i=4\/i=5)with rfl | rfl | rfl | rfl | rfl | rfl <;> refine⟨_,rfl,?_⟩<;> simp[opsL,List.lookup,akF,akG,akH,akI,afN,akJ] <;> split <;> simp_all
theorem Pv (t:rJ)(w:World)(hk:t.w.k=1\/t.w.k=4):
  ar 200 #[af (3:Nat),.agg (dF t)] w (sX 3 t.w w):=by
 have HR:=aa (Sp (lv:=3) hk);obtain⟨u0,u1,u2,u3,_⟩:=bR (aC.new w 172 (dF t))
 have hn:(((t.w.k:Int) != 1)=false)\/((((t.w.k:Int) != 1)=true)/\(((t.w.k:Int) != 4)=false)):=by
  rcases hk with hk | hk
  ·exact .inl Tab
  ·exact .inr ⟨by simp;omega,by simp;omega⟩
 clear hk;have b1:=ai.then (ah w (.cells (dF t) 172)) (ah _ (.cells (bO lq) 9));have B1:=(aC.new w 172 (dF t)).alloc (.cells (bO lq) 9);have B2:=aC.new (w.alloc (.cells (dF t) 172)) 9 (bO lq);rw[World.size_alloc] at B2;have eN:=aa B1;have fH:=aa B2;have hb:=aa b1;clear B1 B2 b1;unfold sX;have akX:bO lq= #[.string ⟨#[61]⟩,.string ⟨#[60,62]⟩,.string ⟨#[60]⟩,.string ⟨#[60,61]⟩,.string ⟨#[62]⟩,.string ⟨#[62,61]⟩]:=rfl;rw[akX] at eN fH hb;unfold dF at*;generalize kM 3 t.w=R at*
 rcases hn with n1 |⟨n1,n2⟩;all_goals
  go_enter Tryz.func200,Tryz.ntmps200;go_wp2_with fail;clear u0 u1 u2 u3;generalize (w.alloc _).alloc _=W at*;go_loopw [6] (λ u wr=>∃i:Nat,i<=6/\u=af i/\aj W wr/\(opsL 3).lookup t.w.s=((opsL 3).drop i).lookup t.w.s) (λ u _=>6 - (intOf u).toNat);case atStart=>exact⟨0,Nat.zero_le _,rfl,Below.refl _ _,rfl⟩
  case round=>
   obtain⟨i,hi,rfl,nX,hlk⟩:=hrel;have Ec:=aa hlk;have jH:=aa nX;clear hlk nX;by_cases hlt:i < 6
   ·obtain⟨y,hy,hstep⟩:=Zm (x:=t.w.s) hlt;have HST:=aa hstep;have c2:=(fH.ae.later jH.ae).cell i;rw[<- akX,show(bO lq)[i]?=some (.string ⟨y.toArray⟩) by simp[bO,hy,strOf]] at c2;have c1:=(eN.ae.later jH.ae).cell 1;have qA:i < 6:=hlt;clear hy hstep;cases he:(t.w.s==y)
    ·have HE:=aa he;have t1:(y==t.w.s)=false:=by rw[beq_eq_false_iff_ne] at he ⊢;exact λ e=>he e.symm
     clear he;go_wp2_with fail;go_region;go_wp2_with fail;go_roundw;case rel=>refine⟨i+1,by omega,by go_num,jH.ae.drew,?_⟩;rw[Ec.ae,HST.ae,HE.ae];rfl
     case measure=>simp[intOf];omega
    ·have HE:=aa he;have t1:(y==t.w.s)=true:=by rw[beq_iff_eq] at he ⊢;exact he.symm
     clear he;go_wp2_with fail;go_region;go_wp2_with fail;go_ret;refine⟨?_,ai.then hb.ae jH.ae.drew⟩;rw[HR.ae,Ec.ae,HST.ae,HE.ae];refine nk ?_;rcases(by omega:i=0\/i=1\/i=2\/i=3\/i=4\/i=5)with rfl | rfl | rfl | rfl | rfl | rfl <;> rfl
   ·obtain rfl:i=6:=by omega
    go_wp2_with fail;go_ret;rw[HR.ae,Ec.ae];exact⟨rfl,ai.then hb.ae jH.ae⟩
theorem Pw (lv:Nat)(hlv:lv=0\/lv=1\/lv=3\/lv=4\/lv=5)(t:rJ)(w:World):
  ar 200 #[af lv,.agg (dF t)] w (sX lv t.w w):=by
 by_cases hk:t.w.k=1\/t.w.k=4
 ·rcases hlv with rfl | rfl | rfl | rfl | rfl
  ·exact nt 0 Tac t w hk
  ·exact nt 1 Tac t w hk
  ·exact Pv t w hk
  ·exact nt 4 Tac t w hk
  ·exact nt 5 Tac t w hk
 ·have hb:=ah w (.cells (dF t) 172);obtain⟨u0,u1,u2,u3,_⟩:=bR (aC.new w 172 (dF t));unfold sX;unfold dF at*;have HR:=aa (agd (lv:=lv) (λ e=>hk (.inl e)) (λ e=>hk (.inr e)));generalize kM lv t.w=R at*;have n1:((t.w.k:Int) != 1)=true:=by simp;omega
  have n2:((t.w.k:Int) != 4)=true:=by simp;omega
  go_enter Tryz.func200,Tryz.ntmps200;go_wp2_with fail;go_ret;rw[HR.ae];exact⟨rfl,hb⟩
def qI:Obj:=.cells #[ag 0,ag 0,af 0,au,au,af 0,az] 46
variable{q:Nat}{y:Ex}
theorem dt(h:aC w q 46 (bI y).toArray):
  w.cell? ⟨q,0,none⟩=some (ag y.op)/\w.cell? ⟨q,1,none⟩=some (ag y.v.k)/\w.cell? ⟨q,2,none⟩=some (af y.v.n)/\w.cell? ⟨q,3,none⟩=some (.string y.v.s)/\w.cell? ⟨q,4,none⟩=some (.string y.name)/\w.cell? ⟨q,5,none⟩=some (af y.width)/\w.cell? ⟨q,6,none⟩=some (.slice y.A y.n y.c):=
 ⟨h.cell 0,h.cell 1,h.cell 2,h.cell 3,h.cell 4,h.cell 5,h.cell 6⟩
variable{T:TypeId}{d e f:Value}
theorem bU{a b c g:Value}(h:aC w q T #[a,b,c,d,e,f,g]):
  w.cell? ⟨q,0,none⟩=some a/\w.cell? ⟨q,1,none⟩=some b/\w.cell? ⟨q,2,none⟩=some c/\w.cell? ⟨q,3,none⟩=some d/\w.cell? ⟨q,4,none⟩=some e/\w.cell? ⟨q,5,none⟩=some f/\w.cell? ⟨q,6,none⟩=some g:=
 ⟨h.cell 0,h.cell 1,h.cell 2,h.cell 3,h.cell 4,h.cell 5,h.cell 6⟩
variable{cs:Array Value}
theorem eo(h:aC w q 46 cs):
  w.frozen? ⟨q,0,none⟩=false/\w.frozen? ⟨q,1,none⟩=false/\w.frozen? ⟨q,2,none⟩=false/\w.frozen? ⟨q,3,none⟩=false/\w.frozen? ⟨q,4,none⟩=false/\w.frozen? ⟨q,5,none⟩=false/\w.frozen? ⟨q,6,none⟩=false:=
 ⟨h.frozen 0,h.frozen 1,h.frozen 2,h.frozen 3,h.frozen 4,h.frozen 5,h.frozen 6⟩
def dX (w:World)(q:Nat)(y:Ex):World:=((((((w.setCell ⟨q,0,none⟩ (ag y.op)).setCell ⟨q,1,none⟩ (ag y.v.k)).setCell ⟨q,2,none⟩ (af y.v.n)).setCell ⟨q,3,none⟩ (.string y.v.s)).setCell ⟨q,4,none⟩ (.string y.name)).setCell ⟨q,5,none⟩ (af y.width)).setCell ⟨q,6,none⟩ (.slice y.A y.n y.c)
theorem ep{a b c g:Value}(h:aC w q T #[a,b,c,d,e,f,g])(y:Ex):aC (dX w q y) q T (bI y).toArray:=by have:=((((((h.aW 0 (ag y.op)).aW 1 (ag y.v.k)).aW 2 (af y.v.n)).aW 3 (.string y.v.s)).aW 4 (.string y.name)).aW 5 (af y.width)).aW 6 (.slice y.A y.n y.c);exact Zef
theorem UK{p:Nat}  (h:aC w p T cs)(hp:p≠q)(y:Ex):aC (dX w q y) p T cs:=
 ((((((h.far (p:=⟨q,0,none⟩) hp _).far (p:=⟨q,1,none⟩) hp _).far (p:=⟨q,2,none⟩) hp _).far (p:=⟨q,3,none⟩) hp _).far (p:=⟨q,4,none⟩) hp _).far (p:=⟨q,5,none⟩) hp _).far (p:=⟨q,6,none⟩) hp _
variable{W:World}
theorem eF.dX(h:eF ρ W w σ big)(hW:ρ.g < W.heap.size)(hq:W.heap.size<=q)(y:Ex):eF ρ W (dX w q y) σ big:=
 ((((((h.far hW hq 0 _).far hW hq 1 _).far hW hq 2 _).far hW hq 3 _).far hW hq 4 _).far hW hq 5 _).far hW hq 6 _
theorem adF{S:World->Nat->Prop}(hs:∀(w:World) (i:Nat) (u:Value),∀b,S w b->(∀o,(w.setCell ⟨q,i,none⟩ u).cell? ⟨b,o,none⟩=w.cell? ⟨b,o,none⟩)/\S (w.setCell ⟨q,i,none⟩ u) b)(y:Ex):∀b,S w b->(∀o,(Go.Proofs.YtndgjggokjickaaGreatDoor.R.dX w q y).cell? ⟨b,o,none⟩=w.cell? ⟨b,o,none⟩)/\S (Go.Proofs.YtndgjggokjickaaGreatDoor.R.dX w q y) b:=by intro b hb;obtain⟨c0,s0⟩:=hs w 0 (ag y.op) b hb;obtain⟨c1,s1⟩:=hs _ 1 (ag y.v.k) b s0;obtain⟨c2,s2⟩:=hs _ 2 (af y.v.n) b s1;obtain⟨c3,s3⟩:=hs _ 3 (.string y.v.s) b s2;obtain⟨c4,s4⟩:=hs _ 4 (.string y.name) b s3;obtain⟨c5,s5⟩:=hs _ 5 (af y.width) b s4;obtain⟨c6,s6⟩:=hs _ 6 (.slice y.A y.n y.c) b s5;exact⟨λ o=>(c6 o).trans ((c5 o).trans ((c4 o).trans ((c3 o).trans ((c2 o).trans ((c1 o).trans (c0 o)))))),s6⟩
variable{B:Nat}{t:Tr}
theorem Tr.at_.dX(h:t.at_ w (jf B w) y)(hq:q < B)(z:Ex):t.at_ (dX w q z) (jf B (Go.Proofs.YtndgjggokjickaaGreatDoor.R.dX w q z)) y:=Tr.at_.keep (adF (S:=λ w=>jf B w) (λ w i u=>sT hq i u) z) t y h
section
variable {lv:Nat} {σ zr:cq} {x y:Tr} {o:Int}
end
theorem Cl (lv:Nat)(z:Int)(hz:z=lv)(hlv:lv=0\/lv=1\/lv=3\/lv=4\/lv=5)(t:rJ)(w:World):
  ar 200 #[af z,.agg #[ag t.w.k,.string ⟨t.w.s.toArray⟩,af t.w.n,af t.p]] w λ e w'=>e=.returned (ag (kM lv t.w))/\aj w w':=by subst hz;exact Pw lv hlv t w
def uI (y:Ex):Obj:=.cells (bI y).toArray 46
def Ad (y z:Ex):Obj:=.cells (bI y++bI z).toArray 46
section
variable {σ zr:cq} {x y:Tr} {o:Int}
end
section
variable {t:Wd} {r:dI} {x:Tr}
structure Plain (t:Wd):Prop where
 i:t.k≠2
 s:t.k≠3
structure LQ (t:Wd):Prop where
 p:Plain t
 wt:iN OY t=false
 wf:iN AK t=false
 wn:iN YJ t=false
 wo:iN eC t=false
end
section
variable {n:ByteArray} {σ:cq} {z:Tr} {op:Int}
end
theorem Ga (v:Val)(w:World):ar 208 #[.agg #[ag v.k,af v.n,.string v.s]] w λ e w'=>e=.returned (.agg #[ag 1,ag v.k,af v.n,.string v.s,au,af 0,az])/\aj w w':=by go_enter Tryz.func208,Tryz.ntmps208;go_wp2_with fail;refine bodyPost_ret (v:=.agg #[ag 1,ag v.k,af v.n,.string v.s,au,af 0,az]) ?_ rfl ⟨rfl,ai.then (ah w _) (ah _ _)⟩;simp[results,Tryz.results208,go_sem]
theorem cw (ρ:dv)(w:World)(σ:cq)(big:Bool)(h:ρ.at w σ big)(s:ByteArray)(hh:σ.head s.data.toList=false):
  ar 87 #[ρ.ptr,.string s] w λ e w'=>e=.returned (.bool false)/\eF ρ w w' σ big:=by have:=rR ρ w σ big h s;rw[hh,iY hh] at this;exact this
theorem oD (ρ:dv)(w:World)(σ:cq)(big:Bool)(h:ρ.at w σ big)(s:ByteArray)(hh:σ.head s.data.toList=true):
  ar 87 #[ρ.ptr,.string s] w λ e w'=>e=.returned (.bool true)/\eF ρ w w' (.good σ.words.tail) big:=by have:=rR ρ w σ big h s;rw[hh,jO hh] at this;exact this
section
variable {P:Program} {l zs:List Oper} {Q:Exit->Act->World->Prop} {u:Nat->Value} {ch:List Nat} {G:List Value->World->Prop} {a0:Act} {w0:World}
end
theorem _root_.Go.Proofs.YtndgjggokjickaaGreatDoor.ai.cell{a b:World}(h:ai a b) {p:Addr}(hp:p.block < a.heap.size):b.cell? p=a.cell? p:=Below.cell h hp
variable{row:Option Nat}
theorem pH{a b:World} (h:a.grownBy b row) {p:Addr}(hp:p.block < a.heap.size)(hr:some p.block≠row):b.cell? p=a.cell? p:=by unfold World.cell?;rw[h.block p.block hp hr]
def Cm (o0 o1 o2 o3 o4 o5 o6:Oper)(q d0 d1 d2 d3 d4 d5 d6:Tmp):Bool:=
 (tmpsOf o0== [q])&&(cY [o0,o1,o2,o3,o4,o5,o6] o0 q==none)&&(tmpsOf o1== [d0])&&(cY [o0,o1,o2,o3,o4,o5,o6] o1 d0==some 0)&&
 (tmpsOf o2== [0])&&(cY [o0,o1,o2,o3,o4,o5,o6] o2 0==none)&&(tmpsOf o3== [d2])&&(cY [o0,o1,o2,o3,o4,o5,o6] o3 d2==some 2)&&
 (tmpsOf o4== [d3])&&(cY [o0,o1,o2,o3,o4,o5,o6] o4 d3==some 3)&&(tmpsOf o5== [d1,d4])&&(cY [o0,o1,o2,o3,o4,o5,o6] o5 d1==some 1)&&(cY [o0,o1,o2,o3,o4,o5,o6] o5 d4==some 4)&&
 (tmpsOf o6== [q])&&(cY [o0,o1,o2,o3,o4,o5,o6] o6 q==none)&&
 (o0.dst==some d0)&&(o1.dst==some d1)&&(o2.dst==some d2)&&(o3.dst==some d3)&&(o4.dst==some d4)&&(o5.dst==some d5)&&(o6.dst==some d6)&&
 o0.guard.isNone && o1.guard.isNone && o2.guard.isNone && o3.guard.isNone && o4.guard.isNone && o5.guard.isNone && o6.guard.isNone
section
variable {P:Program} {β:Type} (f:β->List Value) (val:β->Value) (e:TypeId) (size base:Nat) (l:List β) (lv:Value) (Post:β->World->World->Prop) (w0:World)
def Sq:List Value->World->Prop
 | [],w=>ai w0 w
 | [a],w=>∃y w1 gI,a=val y/\ai w0 w1/\Post y w1 gI/\ai gI w
 | [a,s],w=>∃y w1 gI g0,a=val y/\s=aF g0 1 1/\ai w0 w1/\Post y w1 gI/\ai gI w/\aC w g0 e (f y).toArray
 | [a,s,v],w=>∃y w1 gI w2,a=val y/\ai w0 w1/\Post y w1 gI/\ai gI w2/\aI f e size w2 base lv l/\w2.grownBy w lv.ownBlock/\aI f e size w base v (l++ [y])/\(lv=az->l=[]->aI f e size w w2.heap.size v [y])
 | _,_=>False
theorem Px (vs:List Value)(w:World)(h:Sq f val e size base l lv Post w0 vs w):Sq f val e size base l lv Post w0 vs w.drew:=by
 match vs,h with
 | [],h=>exact ai.trans h (ai.drew _)
 | [a],⟨y,w1,gI,h1,h2,h3,h4⟩=>exact⟨y,w1,gI,h1,h2,h3,h4.trans (ai.drew _)⟩
 | [a,s],⟨y,w1,gI,g0,h1,h2,h3,h4,h5,h6⟩=>exact Zio
 | [a,s,v],⟨y,w1,gI,w2,h1,h2,h3,h4,h5,h6,h7,h8⟩=>exact⟨y,w1,gI,w2,h1,h2,h3,h4,h5,⟨h6.os,h6.tape,h6.output,h6.size,h6.block⟩,h7.later (ai.drew _),λ a b=>(h8 a b).later (ai.drew _)⟩
 | _::_::_::_::_,h=>exact h.elim
variable {f val e size base l lv Post w0}
variable {Q:Exit->Act->World->Prop} {a0:Act} {id:Nat} {o0 o1 o2 o3 o4 o5 o6 o7:Oper} {q d0 d1 d2 d3 d4 d5 d6:Tmp} {qb k g:Nat} {pq ptr:Value} {F:FuncId} {args:Array Value}
theorem zc7.KaB(h:p:=by
 have Co:∀vs w,Sq f val e size base l lv Post w0 vs w->w.cell? ⟨qb,k,none⟩=some lv:=by exact Zci
 refine py [o7] [o0,o1,o2,o3,o4,o5,o6] rfl (λ i=>if i=0 then bj qb k else if i=1 then lv else if i=2 then ptr else bj qb k) [3,4,5] (Sq f val e size base l lv Post w0) (Px f val e size base l lv Post w0) (ai.refl w0) hm bh hz hch Taa rfl ?_ ?_
 ·refine⟨ZdR,Zgs,ZdQ,Zc1,Zck,?_,ZdS,trivial⟩
  ·intro ρ w vs hc hG hr;rw[t5] at hr;have r0:=hr.1;have r1:=hr.2.1;simp only[s5] at r0;simp only[s5'] at r1;refine⟨g5,?_⟩;show vs.length=2->_;intro hl
   match vs,hl with
   | [a,s],_=>
     have r1:some s=some (ρ (.tmp d4)):=r1;injection r1 with r1;obtain⟨y,w1,gI,gg,ha,hs,h2,h3,h4,h5⟩:=hG;obtain⟨k1,k2,k3⟩:=wH h2 h3 h4;obtain⟨v',w',hrun,ho,yS⟩:=fg (P:=P) (w:=w) t ty z bytes ht jm hzs hsz hf (h1 y) k2 gg h5 hlen mS (Nat.le_trans hbase k3);refine aq (hap ρ w _ v' w' r0 (r1.symm.trans hs) hrun) ⟨y,w1,gI,w,ha,h2,h3,h4,k2,yS.grown,ho,?_⟩;intro hlv hl0;subst hl0;have k4:aI f e size w w.heap.size lv ([]:List β):=by rw[hlv];exact aI.nil
     obtain⟨v2,Zo,adG,Q7,_⟩:=fg (P:=P) (w:=w) t ty z bytes ht jm hzs hsz hf (h1 y) k4 gg h5 hlen mS (Nat.le_refl _);rw[hrun] at adG;injection adG with e1 e2;rw[e1,e2];exact Q7
 ·exact ZbQ):p:=h
theorem zt (t ty:TypeId)(z:Value)(bytes:Nat)
  (hm:P.follows .mixedOrders=true) (bh:dO [o0,o1,o2,o3,o4,o5,o6] a0.tmps.size [o0,o1,o2,o3,o4,o5,o6] 0=true) (hz:eK [o0,o1,o2,o3,o4,o5,o6,o7] [o7] 7=true) (hch:lx [o0,o1,o2,o3,o4,o5,o6] [3,4,5]=true) (Cn:Cm o0 o1 o2 o3 o4 o5 o6 q d0 d1 d2 d3 d4 d5 d6=true)
  (hq:a0.eval (.tmp q)=pq) (h0:a0.eval (.tmp 0)=ptr)
  (T8:∀ρ w,ρ (.tmp q)=pq->(execOp ρ o0).run P w=.ok (.value (bj qb k)) w) (Zn:∀ρ w,ρ (.tmp q)=pq->(execOp ρ o6).run P w=.ok (.value (bj qb k)) w)
  (T5:∀ρ w,ρ (.tmp d0)=bj qb k->w.cell? ⟨qb,k,none⟩=some lv->(execOp ρ o1).run P w=.ok (.value lv) w)
  (Eu:∀ρ w,ρ (.tmp 0)=ptr->(execOp ρ o2).run P w=.ok (.value ptr) w)
  (cg:∀ρ w,oT ρ->ρ (.tmp d2)=ptr->(execOp ρ o3).run P w=.ok (.enter F args) w)
  (JX:∀ρ w y,ρ (.tmp d3)=val y->(execOp ρ o4).run P w=.ok (.value (aF w.heap.size 1 1)) (w.alloc (.cells (f y).toArray e)))
  (hap:∀ρ w s v' w',ρ (.tmp d1)=lv->ρ (.tmp d4)=s->(Builtin.append_ #[t,t] ty #[lv,s]).run P w=.ok v' w'->(execOp ρ o5).run P w=.ok (.value v') w')
  (ht:P.underlying t=some (.slice e)) (jm:(P.info? e).map (λ i=>(i.zero,i.size,i.bytes))=some (some z,size,bytes)) (hzs:z.cells.size=size) (hsz:0 < size) (hf:∀x,(f x).length=size) (h1:∀y,∀u∈f y,u.oneCell'=true)
  (hown:aI f e size w0 base lv l) (hcell:w0.cell? ⟨qb,k,none⟩=some lv) (TC:qb≠g) (WQ:lv.ownBlock≠some g) (hlq:lv.ownBlock≠some qb) (hlen:(l.length+1)*bytes<=140737488355328) (mS:l.length+1<=140737488355328) (hbase:base<=w0.heap.size)
  (lU:∀w,ai w0 w->Calls P F args w λ e w'=>∃y,e=.returned (val y)/\Post y w w') (Sr:∀y w w',Post y w w'->w.grownBy w' (some g))
  (mn:∀y s v' w1 gI w2 W,ai w0 w1->Post y w1 gI->ai gI w2->aI f e size w2 base lv l->w2.grownBy W lv.ownBlock->aI f e size W base v' (l++ [y])->(lv=az->l=[]->aI f e size W w2.heap.size v' [y])->W.cell? ⟨qb,k,none⟩=some lv->
    wpList P [o0,o1,o2,o3,o4,o5,o6,o7].toArray Q [o7] (((((((a0.put (some d0) (bj qb k)).put (some d1) lv).put (some d2) ptr).put (some d3) (val y)).put (some d4) s).put (some d5) v').put (some d6) (bj qb k)) W):
  (Code.region id [o0,o1,o2,o3,o4,o5,o6,o7].toArray true).wp P Q a0 w0:=by
 open zc7 in exact Za3
end
def tM:List (List UInt8):=[[98,117,99,107,101,116],[99,111,117,110,116],[115,117,109],[109,105,110],[109,97,120],[97,118,103],[102,105,114,115,116],[108,97,115,116]]
def mN:List Int:=[20,22,23,24,25,26,27,28]
def xW (l:List Int):Array Value:=(l.map λ o=>Value.int .u8 o).toArray
theorem Cq{x:List UInt8} {i:Nat}(hi:i < 8):∃y o,tM[i]?=some y/\mN[i]?=some o/\(Pc.drop i).lookup x=if x==y then some o else(Pc.drop (i+1)).lookup x:=by
 rcases(by omega:i=0\/i=1\/i=2\/i=3\/i=4\/i=5\/i=6\/i=7)with rfl | rfl | rfl | rfl | rfl | rfl | rfl | rfl <;> refine⟨_,_,rfl,rfl,?_⟩<;> simp[Pc,List.lookup,BX,Iy,YL,adC,adD,adE,RZ,YM] <;> split <;> simp_all
section
variable {W:Ps Tr} {σ:cq} {x y:Tr} {op k:Int}
end
variable{W0:World}
theorem eF.own(h:eF ρ W0 w σ big)(hg:ρ.g < W0.heap.size)(k:w.grownBy w' row)(hr:∀G,row=some G->W0.heap.size<=G):eF ρ W0 w' σ big:=by
 have hl:=h.at_.lt;have hs:=h.size;have ng:some ρ.g≠row:=λ e=>by have:=hr _ e.symm;omega
 have nl:some ρ.gl≠row:=λ e=>by have:=hr _ e.symm;omega
 refine⟨⟨h.at_.blk.grown k ng,hl,λ j t ht=>?_,h.at_.of,h.at_.small,h.at_.Zj⟩,k.os.trans h.grown.os,k.tape.trans h.grown.tape,k.output.trans h.grown.output,Nat.le_trans hs k.size,λ i hi hne=>?_⟩
 ·have hc:=cell_of_heap (k.block ρ.gl WC nl);obtain⟨h1,h2,h3,h4⟩:=h.at_.cell j t ht;exact⟨(hc _).trans h1,(hc _).trans h2,(hc _).trans h3,(hc _).trans h4⟩
 ·rw[k.block i WC (λ e=>by have:=hr _ e.symm;omega)];exact h.grown.block i hi hne
variable{S:Nat->Prop}
theorem Py{f:α->List Value} {e:TypeId} {size:Nat}(hf:∀x,(f x).length=size)    {l:List α}(h:aI f e size w base v l) (hS:∀g,base<=g->g < w.heap.size->S g):
  ∃A c,v=.slice A l.length c/\RL f size w S A l:=by
 obtain⟨A,c,hv,_⟩:=h.reads;refine⟨A,c,hv,?_⟩
 match l,h,hv with
 | [],_,_=>exact .inl rfl
 | x::l,h,hv=>obtain⟨g,c',hv',hb,hlt,_⟩:=h.cell hf (k:=0) (x:=x) rfl;rw[hv] at hv';injection hv' with hA _ _;refine .inr ⟨g,0,hA,hS g hb hlt,λ i y j u hy hu=>?_⟩;obtain⟨g2,c2,hv2,_,_,hc⟩:=h.cell hf hy;rw[hv] at hv2;injection hv2 with xH _ _;rw[hA] at xH;injection xH with xH;injection xH with xH _ _;subst xH;rw[Nat.zero_add];exact hc j u hu
def NI (ρ:dv)(W:World)(t:Tr)(r:dI)(e:Ending)(w':World):Prop:=∃y,e=.returned (mK y)/\t.at_ w' (jf W.heap.size w') y/\eF ρ W w' (.good r) false
def cW (z:Int)(l:dI)(t:Tr)(r:dI):Prop:=∀(ρ:dv) (w:World),ρ.at w (.good l) false->ar 184 #[ρ.ptr,af z] w (NI ρ w t r)
def mo (l:dI)(t:Tr)(r:dI):Prop:=∀(ρ:dv) (w:World),ρ.at w (.good l) false->ar 199 #[ρ.ptr] w (NI ρ w t r)
variable{r:dI}
theorem NI.put(hg:ρ.g < w.heap.size)(hq:w.heap.size<=q)(hd:eF ρ w W (.good r) false)(ht:t.at_ W (jf (q+1) W) y):NI ρ w t r (.returned (mK y)) (dX W q y):=
 ⟨y,rfl,(ht.dX (Nat.lt_succ_self q) y).more WC,hd.dX hg hq y⟩
theorem ala(hn:dJ YI l=false)(H:cW 3 l t r):cW 2 l t r:=by intro ρ w h;have ee:=h.FY;have hb:=ah w qI;have h0:=h.later hb;have hm:=cw ρ _ _ false h0 ⟨#[110,111,116]⟩ hn;exact ZaX
theorem alb(hn:dJ sR l=false)(H:cW 7 l t r):cW 6 l t r:=by intro ρ w h;have ee:=h.FY;have hb:=ah w qI;have h0:=h.later hb;have hm:=cw ρ _ _ false h0 ⟨#[45]⟩ hn;exact ZaX
theorem zjg.KcA(h:p:=by
 refine bodyPost_ret (v:=mK y) ZeL rfl ?_
 ·exact NI.put ee (Nat.le_refl _) D2.ae (ht.more WC)):p:=h
theorem zfG.Kbc(h:p:=by unfold qI at*;go_enter Tryz.func184,Tryz.ntmps184;go_wp2_with fail;refine(H ρ _ h0).mono ?_;rintro e w2 ⟨y,rfl,ht,Pz⟩;unfold mK bI;have Sz:=Pz.blk HQ.ae WC;have jG:=aa Sz;obtain⟨z0,z1,z2,z3,z4,z5,z6⟩:=eo Sz;obtain⟨y0,y1,x9,y3,y4,y5,y6⟩:=bU Sz;have D2:=aa ((eF.cZ h hb).trans Pz);have hs2:=Pz.size;open zjg in exact Zhj):p:=h
theorem alc(H:mo l t r):cW 7 l t r:=by intro ρ w h;open zfG in exact ZcY
variable{u:Wd}
theorem zje.KcA(h:p:=by
 refine bodyPost_ret (v:=mK y) ZeL rfl ?_
 ·exact NI.put ee (Nat.le_refl _) (HD.ae.later hL) ((HT.ae.later hL).more (Nat.le_refl _))):p:=h
theorem zcI.Kaw(h:p:=by have Sz:=Ss.ae.later hL;have Pz:=HX.ae.later hL;obtain⟨z0,z1,z2,z3,z4,z5,z6⟩:=eo Sz;obtain⟨y0,y1,x9,y3,y4,y5,y6⟩:=bU Sz;obtain⟨x0,x1,x2,x3,x4,x5,x6⟩:=bU Pz;have jG:=aa Sz;have hqb:=Sz.lt;open zje in exact Zhj):p:=h
theorem zfH.Kbc(h:p:=by
 have n2:(z==2)=false:=by rw[beq_eq_false_iff_ne];omega
 have n6:(z==6)=false:=by rw[beq_eq_false_iff_ne];omega
 have n7:(z==7)=false:=by rw[beq_eq_false_iff_ne];omega
 have n3:(z==3)=false:=by rw[beq_eq_false_iff_ne];omega
 have hz5:0<=z/\z<=5:=by omega
 have HBZ:=aa (λ tk=>Cl lv z hz WC tk);have UL:=aa hop;have HH:=aa H;clear hlv hz hop H;unfold qI at*;unfold dv.ptr;go_enter Tryz.func184,Tryz.ntmps184;go_wp2_with (first
  |(go_at_call 184;refine(HH.ae ρ _ h0).mono ?_;rintro e w2 ⟨y,rfl,ht,d2⟩;unfold mK bI))
 have hD:=((eF.cZ h hb).trans d2).later (ah w2 (.cells #[ag y.op,ag y.v.k,af y.v.n,.string y.v.s,.string y.name,af y.width,.slice y.A y.n y.c] 46));have hX:=aC.new w2 46 #[ag y.op,ag y.v.k,af y.v.n,.string y.v.s,.string y.name,af y.width,.slice y.A y.n y.c];have hQ:=(d2.blk HQ.ae WC).alloc (.cells #[ag y.op,ag y.v.k,af y.v.n,.string y.v.s,.string y.name,af y.width,.slice y.A y.n y.c] 46);have hT:=(ht.later (ah w2 (.cells #[ag y.op,ag y.v.k,af y.v.n,.string y.v.s,.string y.name,af y.width,.slice y.A y.n y.c] 46))).more (B':=w.heap.size+1) WC;have hqx:w.heap.size+1<=w2.heap.size:=by have:=d2.size;omega
 generalize w2.alloc _=W at*;generalize w2.heap.size=qx at*;have HD:=aa hD;have HX:=aa hX;have Ss:=aa hQ;have HT:=aa hT;clear hD hX hQ hT ht d2 h0 hb HQ HH;go_loopg [] 0 (λ k wr=>wr=W);case atStart=>rfl
 case round=>
  obtain rfl:_=W:=hrel;obtain⟨tk,pl,bd,hpl,anR,ald,uH,ck,hg,JZ,vn,hp⟩:=HD.ae.at_.wG;obtain⟨r',ny⟩:=hg _ rfl;obtain rfl:u=tk.w:=by injection ny
  have Et:bd < 0:=by simpa [cq.gT] using ck
  have HP:=aa hp;have c2:=hp.c2;have R9:=HBZ.ae tk;rw[UL.ae] at R9;clear hpl hg ck uH hp ny;open zcI in exact ZaP):p:=h
theorem sY(lv:Nat)(hlv:lv=0\/lv=1\/lv=4\/lv=5)   (hop:kM lv u=0)(H:cW ((lv:Int)+1) l t (u::r)):cW lv l t (u::r):=by intro ρ w h;obtain⟨z,hz⟩:∃z:Int,z=lv:=⟨_,rfl⟩;rw[<- hz] at H ⊢;open zfH in exact ZcY
theorem Cr{t:Wd} (hk:t.k=1)(hr:tK t.s=false)(ρ:dv)(w:World)(h:ρ.at w (.good (t::r)) false):
  ar 137 #[ρ.ptr] w λ e w'=>∃n:ByteArray,n=⟨t.s.toArray⟩/\e=.returned (.string n)/\eF ρ w w' (.good r) false:=by refine(aaU ρ w _ false h).mono ?_;rintro e w' ⟨x,rfl,d,hg⟩;rw[sV,if_pos ⟨hk,hr⟩] at d;simp only[jZ,wA,hk,hr,and_self,if_true] at hg;exact⟨x,hg,rfl,d⟩
theorem ze3.KaZ(h:p:=by
 have iO:=HK.ae;have hst:=dv.at.step Kx.ae (show tk.w.k≠0 by omega);have HST:=aa hst;have HX:=xX.ae.far (p:=⟨ρ.g,1,none⟩) Tab (af ((ρ.n:Int) - r.length));obtain⟨s0,s1,s2,s3,_⟩:=bR HX;clear HX hst;go_wp2_with (go_at_call 208;refine(Ga ⟨2,tk.w.n,⟨#[]⟩⟩ _).mono ?_;rintro e w4 ⟨rfl,b4⟩;have Su:=(nx.ae.far (p:=⟨ρ.g,1,none⟩) Tab (af ((ρ.n:Int) - r.length))).later b4;have age:=aa Su;have B4:=aa b4;obtain⟨z0,z1,z2,z3,z4,z5,z6⟩:=eo Su;obtain⟨y0,y1,x9,y3,y4,y5,y6⟩:=bU Su;clear Su b4);have HP:=ep age.ae ⟨1,⟨2,tk.w.n,⟨#[]⟩⟩,⟨#[]⟩,0,none,0,0⟩;have HR:=dt HP;unfold dX at HR;obtain⟨r0,r1,r2,r3,r4,r5,r6⟩:=HR;refine bodyPost_ret (v:=mK ⟨1,⟨2,tk.w.n,⟨#[]⟩⟩,⟨#[]⟩,0,none,0,0⟩) Zc6 rfl ?_
 ·exact NI.put (t:=tL ⟨2,tk.w.n,ByteArray.empty⟩) ee (Nat.le_refl _) ((HD.ae.trans HST.ae).later B4.ae) (ID _ _ _)):p:=h
theorem zap.Kaa(h:p:=by
 have e1:(pl:Int)+1=(ρ.n:Int) - r.length:=by rw[hpl];simp only[cq.left,length_cons] at*;omega
 open ze3 in exact Zcp):p:=h
theorem Zp{t:Wd} (iO:t.k=2):mo (t::r) (tL ⟨2,t.n,ByteArray.empty⟩) r:=by intro ρ w h;have HK:=aa iO;clear iO;open zap in exact Zag
theorem ziM.Kco(h:p:=by
 refine(oD ρ _ _ false d1.at_ ⟨#[102,97,108,115,101]⟩ (show(cq.good (tk.w::r)).head (⟨#[102,97,108,115,101]⟩:ByteArray).data.toList=true from H2.ae)).mono ?_;rintro e w2 ⟨rfl,d2⟩;go_wp2_with fail;refine(Ga ⟨1,0,⟨#[]⟩⟩ _).mono ?_;rintro e w9 ⟨rfl,b4⟩;have Sz:=((d2.blk ((d1.blk (nx.ae) WC)) WC)).later b4;have age:=aa Sz;have B4:=aa b4;obtain⟨z0,z1,z2,z3,z4,z5,z6⟩:=eo Sz;obtain⟨y0,y1,x9,y3,y4,y5,y6⟩:=bU Sz;have D1:=aa d1;have D2:=aa d2;clear Sz b4;go_wp2_with fail;have HP:=ep age.ae ⟨1,⟨1,0,⟨#[]⟩⟩,⟨#[]⟩,0,none,0,0⟩;have HR:=dt HP;unfold dX at HR;obtain⟨r0,r1,r2,r3,r4,r5,r6⟩:=HR;refine bodyPost_ret (v:=mK ⟨1,⟨1,0,⟨#[]⟩⟩,⟨#[]⟩,0,none,0,0⟩) Zc6 rfl ?_
 ·exact NI.put (t:=tL ⟨1,0,ByteArray.empty⟩) ee (Nat.le_refl _) ((((HD.ae).trans D1.ae).trans D2.ae).later B4.ae) (ID _ _ _)):p:=h
theorem zb6.Kao(h:p:=by open ziM in exact Zgv):p:=h
theorem zaq.Kaa(h:p:=by
 have e1:(pl:Int)+1=(ρ.n:Int) - r.length:=by rw[hpl];simp only[cq.left,length_cons] at*;omega
 open zb6 in exact ZaH):p:=h
theorem PA{t:Wd} (hg:Plain t)(HX:iN OY t=false)(h2:iN AK t=true):mo (t::r) (tL ⟨1,0,ByteArray.empty⟩) r:=by intro ρ w h;have wI:=aa hg;clear hg;have H1:=aa HX;have H2:=aa h2;clear HX h2;open zaq in exact Zag
theorem zfh.Ka3(h:p:=by
 have Sz:=PB.ae;have hqb:=Sz.lt;obtain⟨z0,z1,z2,z3,z4,z5,z6⟩:=eo Sz;obtain⟨y0,y1,x9,y3,y4,y5,y6⟩:=bU Sz;clear Sz;go_wp2_with fail;have Lw:=ep PB.ae ⟨2,uE,n,0,none,0,0⟩;have HR:=dt Lw;unfold dX uE at HR;obtain⟨r0,r1,r2,r3,r4,r5,r6⟩:=HR;refine bodyPost_ret (v:=mK ⟨2,uE,n,0,none,0,0⟩) Zc6 rfl ?_
 ·rw[<- HN.ae];exact NI.put (t:=uC n) ee (Nat.le_refl _) WS.ae (Ca _ _ _)):p:=h
theorem zeU.KaW(h:p:=by rw[show(cq.good r).head (⟨#[40]⟩:ByteArray).data.toList=false from HC.ae] at hwd;open zfh in exact ZcL):p:=h
theorem ziN.Kco(h:p:=by refine(cw ρ _ _ false d1.at_ ⟨#[102,97,108,115,101]⟩ (show(cq.good (tk.w::r)).head (⟨#[102,97,108,115,101]⟩:ByteArray).data.toList=false from H2.ae)).mono ?_;rintro e w2 ⟨rfl,d2⟩;go_wp2_with fail;refine(cw ρ _ _ false d2.at_ ⟨#[110,117,108,108]⟩ (show(cq.good (tk.w::r)).head (⟨#[110,117,108,108]⟩:ByteArray).data.toList=false from H3.ae)).mono ?_;rintro e w3 ⟨rfl,d3⟩;go_wp2_with fail;refine(cw ρ _ _ false d3.at_ ⟨#[40]⟩ (show(cq.good (tk.w::r)).head (⟨#[40]⟩:ByteArray).data.toList=false from H4.ae)).mono ?_;open zeU in exact Zcj):p:=h
theorem zb7.Kao(h:p:=by open ziN in exact Zgv):p:=h
theorem zar.Kaa(h:p:=by
 have e1:(pl:Int)+1=(ρ.n:Int) - r.length:=by rw[hpl];simp only[cq.left,length_cons] at*;omega
 open zb7 in exact ZaH):p:=h
theorem ziC.Kck(h:p:=by clear iO;open zar in exact Zag):p:=h
theorem LR{t:Wd} (iO:LQ t)(FX:t.k=1)(LM:tK t.s=false)(hc:dJ eC r=false):mo (t::r) (uC ⟨t.s.toArray⟩) r:=by intro ρ w h;have HF:=aa FX;have IH:=aa LM;clear FX LM;have HC:=aa hc;clear hc;open ziC in exact Zge
def ale (ρ:dv)(x:Tr)(r:dI)(y:Ex)(w w':World):Prop:=Tr.at_ w' (jf w.heap.size w') x y/\eF ρ w w' (.good r) false
theorem mq{s:List UInt8} {t:Wd} (ht:iN s t=true)(ρ:dv)(w:World)(h:ρ.at w (.good (t::r)) false)(b:Nat)(hb:aC w b 9 (bO [s]))(hbg:ρ.g≠b):
  ar 138 #[ρ.ptr,aF b 1 1] w (Cj ρ w (.good r) false):=by have:=UJ ρ w (.good (t::r)) false h [s] b 1 rfl hb hbg WC;rw[Ci,rP (show(cq.good (t::r)).head s=true from ht)] at this;exact this
theorem LS{t:Wd} (hk:t.k=2)(ρ:dv)(w:World)(h:ρ.at w (.good (t::r)) false):
  ar 181 #[ρ.ptr] w λ e w'=>∃x:Int,x=t.n/\0<=x/\x<=9223372036854775807/\e=.returned (af x)/\eF ρ w w' (.good r) false:=by refine(UI ρ w _ false h).mono ?_;rintro e w' ⟨x,hx0,hx1,rfl,d,hg⟩;simp only[jZ,IB,hk,if_true] at hg;simp only[dr,IB,hk,if_true] at d;exact⟨x,hg,hx0,hx1,rfl,d⟩
variable{ob cb:Wd}{x:Tr}
theorem zby.Kaj(h:p:=by
 have Lw:=ep Zy.ae ⟨o,uE,⟨#[]⟩,0,A,1,c⟩;have HR:=dt Lw;unfold dX uE at HR;obtain⟨r0,r1,r2,r3,r4,r5,r6⟩:=HR;refine bodyPost_ret (v:=mK ⟨o,uE,⟨#[]⟩,0,A,1,c⟩) Zc6 rfl ?_
 ·refine NI.put (t:=AJ o [x]) ee (Nat.le_refl _) DC.ae ?_;unfold AJ Tr.at_;exact ZdC):p:=h
theorem zce.Kaq(h:p:=by
 obtain⟨n22,n20,n27,n28⟩:=HC.ae;clear HC;go_wp2_with fail;have HX0:=aC.new zv 46 #[ag o,ag 0,af 0,au,au,af 0,az];have UM:=ah zv (.cells #[ag o,ag 0,af 0,au,au,af 0,az] 46);have pI:=aa (LW.ae.later UM);have uK:=aa (xZ.ae.later UM);have adL:(zv.alloc (.cells #[ag o,ag 0,af 0,au,au,af 0,az] 46)).heap.size=zv.heap.size+1:=by simp
 have HX:=aa HX0;clear HX0 UM LW xZ c4;generalize zv.alloc _=UO at*;generalize zv.heap.size=qx at*;open zby in exact Zaz):p:=h
theorem zib.Kb9(h:p:=by
 cases he:(n.data.toList==y)
 ·exact ZbX
 ·open zce in exact ZaJ):p:=h
theorem zcb.Kap(h:p:=by
 go_loopw [8] (λ u wr=>∃i:Nat,i<=8/\u=af i/\aj W8 wr/\mj n=(Pc.drop i).lookup n.data.toList) (λ u _=>8 - (intOf u).toNat);case atStart=>exact Zg0
 case round=>
  obtain⟨i,hi,rfl,nX,hlk⟩:=hrel;have Ec:=aa hlk;have jH:=aa nX;clear hlk nX;by_cases hlt:i < 8
  ·open zib in exact Zft
  ·exact Zd4):p:=h
theorem zeV.KaW(h:p:=by rw[show(cq.good (ob::l)).head (⟨#[40]⟩:ByteArray).data.toList=true from Q1.ae] at hwd;open zcb in exact ZaI):p:=h
theorem zb8.Kao(h:p:=by refine(cw ρ _ _ false Kx.ae ⟨#[116,114,117,101]⟩ (show(cq.good (tk.w::ob::l)).head (⟨#[116,114,117,101]⟩:ByteArray).data.toList=false from H1.ae)).mono ?_;rintro e w1 ⟨rfl,d1⟩;go_wp2_with fail;refine(cw ρ _ _ false d1.at_ ⟨#[102,97,108,115,101]⟩ (show(cq.good (tk.w::ob::l)).head (⟨#[102,97,108,115,101]⟩:ByteArray).data.toList=false from H2.ae)).mono ?_;rintro e w2 ⟨rfl,d2⟩;go_wp2_with fail;refine(cw ρ _ _ false d2.at_ ⟨#[110,117,108,108]⟩ (show(cq.good (tk.w::ob::l)).head (⟨#[110,117,108,108]⟩:ByteArray).data.toList=false from H3.ae)).mono ?_;rintro e w3 ⟨rfl,d3⟩;go_wp2_with fail;refine(cw ρ _ _ false d3.at_ ⟨#[40]⟩ (show(cq.good (tk.w::ob::l)).head (⟨#[40]⟩:ByteArray).data.toList=false from H4.ae)).mono ?_;open zeV in exact Zcj):p:=h
theorem zas.Kaa(h:p:=by
 have e1:(pl:Int)+1=(ρ.n:Int) - (ob::l).length:=by rw[hpl];simp only[cq.left,length_cons] at*;omega
 open zb8 in exact ZaH):p:=h
theorem ziD.Kck(h:p:=by clear iO;open zas in exact Zag):p:=h
theorem Zr{t:Wd}  (OP:Int)(hc:(OP==22)=false/\(OP==20)=false/\(OP==27)=false/\(OP==28)=false)(iO:LQ t)(hF:t.k=1)(ih:tK t.s=false)(q1:iN eC ob=true)(q2:mj ⟨t.s.toArray⟩=some OP)(q3:cW 0 l x (cb::r))(q4:iN eA cb=true):mo (t::ob::l) (AJ OP [x]) r:=by intro ρ w h;have HF:=aa hF;have IH:=aa ih;have Q1:=aa q1;have HH:=aa q2;have Q3:=aa q3;have Q4:=aa q4;clear hF ih q1 q2 q3 q4;have HC:=aa hc;clear hc;open ziD in exact Zge
variable{sr:Wd}
theorem ziG.Kcl(h:p:=by
 have WR:=uK.ae.lt;go_wp2_with fail;have Xt:=pI.ae.at_.later (ah _ (.cells (bO [eA]) 9));refine(mq HCB.ae ρ _ Xt SB.heap.size (aC.new _ _ _) WC).mono ?_;rintro e w12 ⟨rfl,d12⟩;have PD:=ah SB (.cells (bO [eA]) 9);have Sz:=(uK.ae.later PD).grown d12.grown Tab;have jG:=aa Sz;obtain⟨z0,z1,z2,z3,z4,z5,z6⟩:=eo Sz;obtain⟨y0,y1,x9,y3,y4,y5,y6⟩:=bU Sz;have DC:=aa ((pI.ae.later PD).trans d12);clear Sz d12 PD;go_wp2_with fail;have Lw:=ep jG.ae ⟨21,uE,⟨#[]⟩,0,none,0,0⟩;have HR:=dt Lw;unfold dX uE at HR;obtain⟨r0,r1,r2,r3,r4,r5,r6⟩:=HR;refine bodyPost_ret (v:=mK ⟨21,uE,⟨#[]⟩,0,none,0,0⟩) Zc6 rfl ?_
 ·exact NI.put (t:=AJ 21 []) ee (Nat.le_refl _) DC.ae (afR _ _ 21)):p:=h
theorem zcf.Kaq(h:p:=by
 obtain rfl:=Q5.ae;clear Q5;go_wp2_with fail;have HX0:=aC.new zv 46 #[ag 22,ag 0,af 0,au,au,af 0,az];have UM:=ah zv (.cells #[ag 22,ag 0,af 0,au,au,af 0,az] 46);have pI:=aa (LW.ae.later UM);have uK:=aa (xZ.ae.later UM);have adL:(zv.alloc (.cells #[ag 22,ag 0,af 0,au,au,af 0,az] 46)).heap.size=zv.heap.size+1:=by simp
 have HX:=aa HX0;clear HX0 UM LW xZ c4;generalize zv.alloc _=UO at*;generalize zv.heap.size=qx at*;refine(oD ρ _ _ false pI.ae.at_ ⟨#[42]⟩ je.ae).mono ?_;rintro e SB ⟨rfl,d13⟩;open ziG in exact Zgf):p:=h
theorem zic.Kb9(h:p:=by
 cases he:(n.data.toList==y)
 ·exact ZbX
 ·open zcf in exact ZaJ):p:=h
theorem zcc.Kap(h:p:=by
 go_loopw [8] (λ u wr=>∃i:Nat,i<=8/\u=af i/\aj W8 wr/\mj n=(Pc.drop i).lookup n.data.toList) (λ u _=>8 - (intOf u).toNat);case atStart=>exact Zg0
 case round=>
  obtain⟨i,hi,rfl,nX,hlk⟩:=hrel;have Ec:=aa hlk;have jH:=aa nX;clear hlk nX;by_cases hlt:i < 8
  ·open zic in exact Zft
  ·exact Zd4):p:=h
theorem zeW.KaW(h:p:=by rw[show(cq.good (ob::sr::cb::r)).head (⟨#[40]⟩:ByteArray).data.toList=true from Q1.ae] at hwd;open zcc in exact ZaI):p:=h
theorem zb9.Kao(h:p:=by refine(cw ρ _ _ false Kx.ae ⟨#[116,114,117,101]⟩ (show(cq.good (tk.w::ob::sr::cb::r)).head (⟨#[116,114,117,101]⟩:ByteArray).data.toList=false from H1.ae)).mono ?_;rintro e w1 ⟨rfl,d1⟩;go_wp2_with fail;refine(cw ρ _ _ false d1.at_ ⟨#[102,97,108,115,101]⟩ (show(cq.good (tk.w::ob::sr::cb::r)).head (⟨#[102,97,108,115,101]⟩:ByteArray).data.toList=false from H2.ae)).mono ?_;rintro e w2 ⟨rfl,d2⟩;go_wp2_with fail;refine(cw ρ _ _ false d2.at_ ⟨#[110,117,108,108]⟩ (show(cq.good (tk.w::ob::sr::cb::r)).head (⟨#[110,117,108,108]⟩:ByteArray).data.toList=false from H3.ae)).mono ?_;rintro e w3 ⟨rfl,d3⟩;go_wp2_with fail;refine(cw ρ _ _ false d3.at_ ⟨#[40]⟩ (show(cq.good (tk.w::ob::sr::cb::r)).head (⟨#[40]⟩:ByteArray).data.toList=false from H4.ae)).mono ?_;open zeW in exact Zcj):p:=h
theorem zat.Kaa(h:p:=by
 have e1:(pl:Int)+1=(ρ.n:Int) - (ob::sr::cb::r).length:=by rw[hpl];simp only[cq.left,length_cons] at*;omega
 open zb9 in exact ZaH):p:=h
theorem ziE.Kck(h:p:=by clear iO;open zat in exact Zag):p:=h
theorem UN{t:Wd} (OP:Int)(Iq:OP=22)(iO:LQ t)(key:t.k=1)(hL:tK t.s=false)(cL:iN eC ob=true)(hb4:mj ⟨t.s.toArray⟩=some OP)(bh:iN xQ sr=true)(hcb:iN eA cb=true):mo (t::ob::sr::cb::r) (AJ 21 []) r:=by intro ρ w h;have HF:=aa key;have IH:=aa hL;have Q1:=aa cL;have HH:=aa hb4;have Q5:=aa Iq;have je:=aa bh;have HCB:=aa hcb;clear key hL cL hb4 hcb Iq bh;open ziE in exact Zge
variable{nb cm:Wd}
theorem zbz.Kaj(h:p:=by
 have Lw:=ep Zy.ae ⟨20,uE,⟨#[]⟩,kk,A,1,c⟩;have HR:=dt Lw;unfold dX uE at HR;obtain⟨r0,r1,r2,r3,r4,r5,r6⟩:=HR;refine bodyPost_ret (v:=mK ⟨20,uE,⟨#[]⟩,kk,A,1,c⟩) Zc6 rfl ?_
 ·rw[<- HKN.ae];refine NI.put (t:=.mk 20 jF ByteArray.empty kk [x]) ee (Nat.le_refl _) DC.ae ?_;unfold Tr.at_;exact ZdC):p:=h
theorem ziH.Kcl(h:p:=by
 have arR:=HX.ae.frozen 5;obtain⟨x0,x1,x2,x3,x4,x5,x6⟩:=bU HX.ae;have avG:=HX.ae.lt;have HXk:=HX.ae.aW 5 (af kk);simp only[Uac] at HXk;have HQk:=uK.ae.far (p:=⟨qx,5,none⟩) Tab (af kk);have DK:=pI.ae.far ee (show w.heap.size<=qx by omega) 5 (af kk);have kF:=aa HXk;have zu:=aa HQk;have Ke:=aa DK;clear HX uK pI HXk HQk DK;go_wp2_with fail;clear x0 x1 x2 x3 x4 x5 x6 arR;have JX:aC ((SB.setCell ⟨qx,5,none⟩ (af kk)).alloc (.cells (bO [dM]) 9)) SB.heap.size 9 (bO [dM]):=by have:=aC.new (SB.setCell ⟨qx,5,none⟩ (af kk)) 9 (bO [dM]);rwa [show(SB.setCell ⟨qx,5,none⟩ (af kk)).heap.size=SB.heap.size by simp[World.setCell]] at this
 have Xt:=Ke.ae.at_.later (ah _ (.cells (bO [dM]) 9));refine(mq ZV.ae ρ _ Xt SB.heap.size JX WC).mono ?_;rintro e UO ⟨rfl,d14⟩;have bcm:=ah (SB.setCell ⟨qx,5,none⟩ (af kk)) (.cells (bO [dM]) 9);have HX:=aa ((kF.ae.later bcm).grown d14.grown Tab);have uK:=aa ((zu.ae.later bcm).grown d14.grown Tab);have pI:=aa ((Ke.ae.later bcm).trans d14);have alu:qx+1<=UO.heap.size:=HX.ae.lt;clear kF zu Ke d14 bcm Xt JX;go_wp2_with fail;open zbz in exact Zaz):p:=h
theorem zcg.Kaq(h:p:=by
 obtain rfl:=Q5.ae;clear Q5;go_wp2_with fail;have HX0:=aC.new zv 46 #[ag 20,ag 0,af 0,au,au,af 0,az];have UM:=ah zv (.cells #[ag 20,ag 0,af 0,au,au,af 0,az] 46);have pI:=aa (LW.ae.later UM);have uK:=aa (xZ.ae.later UM);have adL:(zv.alloc (.cells #[ag 20,ag 0,af 0,au,au,af 0,az] 46)).heap.size=zv.heap.size+1:=by simp
 have HX:=aa HX0;clear HX0 UM LW xZ c4;generalize zv.alloc _=W11 at*;generalize zv.heap.size=qx at*;refine(LS oQ.ae ρ _ pI.ae.at_).mono ?_;rintro e SB ⟨kk,zQ,WK,hF,rfl,d13⟩;have HKN:=aa zQ;clear zQ;open ziH in exact Zgf):p:=h
theorem zid.Kb9(h:p:=by
 cases he:(n.data.toList==y)
 ·exact ZbX
 ·open zcg in exact ZaJ):p:=h
theorem zcd.Kap(h:p:=by
 go_loopw [8] (λ u wr=>∃i:Nat,i<=8/\u=af i/\aj W8 wr/\mj n=(Pc.drop i).lookup n.data.toList) (λ u _=>8 - (intOf u).toNat);case atStart=>exact Zg0
 case round=>
  obtain⟨i,hi,rfl,nX,hlk⟩:=hrel;have Ec:=aa hlk;have jH:=aa nX;clear hlk nX;by_cases hlt:i < 8
  ·open zid in exact Zft
  ·exact Zd4):p:=h
theorem zeX.KaW(h:p:=by rw[show(cq.good (ob::nb::cm::l)).head (⟨#[40]⟩:ByteArray).data.toList=true from Q1.ae] at hwd;open zcd in exact ZaI):p:=h
theorem zca.Kao(h:p:=by refine(cw ρ _ _ false Kx.ae ⟨#[116,114,117,101]⟩ (show(cq.good (tk.w::ob::nb::cm::l)).head (⟨#[116,114,117,101]⟩:ByteArray).data.toList=false from H1.ae)).mono ?_;rintro e w1 ⟨rfl,d1⟩;go_wp2_with fail;refine(cw ρ _ _ false d1.at_ ⟨#[102,97,108,115,101]⟩ (show(cq.good (tk.w::ob::nb::cm::l)).head (⟨#[102,97,108,115,101]⟩:ByteArray).data.toList=false from H2.ae)).mono ?_;rintro e w2 ⟨rfl,d2⟩;go_wp2_with fail;refine(cw ρ _ _ false d2.at_ ⟨#[110,117,108,108]⟩ (show(cq.good (tk.w::ob::nb::cm::l)).head (⟨#[110,117,108,108]⟩:ByteArray).data.toList=false from H3.ae)).mono ?_;rintro e w3 ⟨rfl,d3⟩;go_wp2_with fail;refine(cw ρ _ _ false d3.at_ ⟨#[40]⟩ (show(cq.good (tk.w::ob::nb::cm::l)).head (⟨#[40]⟩:ByteArray).data.toList=false from H4.ae)).mono ?_;open zeX in exact Zcj):p:=h
theorem zau.Kaa(h:p:=by
 have e1:(pl:Int)+1=(ρ.n:Int) - (ob::nb::cm::l).length:=by rw[hpl];simp only[cq.left,length_cons] at*;omega
 open zca in exact ZaH):p:=h
theorem ziF.Kck(h:p:=by clear iO;open zau in exact Zag):p:=h
theorem zhO.Kb1(h:p:=by have oQ:=aa AP;have ZV:=aa Aj;clear hF ih q1 q2 q3 q4 q5 AP Aj;open ziF in exact Zge):p:=h
theorem LY{t:Wd}  (OP:Int)(q5:OP=20)(iO:LQ t)(hF:t.k=1)(ih:tK t.s=false)(q1:iN eC ob=true)(q2:mj ⟨t.s.toArray⟩=some OP)(AP:nb.k=2)(Aj:iN dM cm=true)(q3:cW 0 l x (cb::r))(q4:iN eA cb=true):mo (t::ob::nb::cm::l) (.mk 20 jF ByteArray.empty nb.n [x]) r:=by intro ρ w h;open zhO in exact Ze7
structure AtC (ρ:dv) (w:World) (q qx:Nat) (wr:World) (l:dI) (t:Tr) (y:Ex):Prop where
 did:eF ρ w wr (.good l) false
 blk:aC wr qx 46 (bI y).toArray
 res:aC wr q 46 #[ag 0,ag 0,af 0,au,au,af 0,az]
 tr:t.at_ wr (Bx (q+1) qx wr) y
variable{wr W2:World}{qx:Nat}
theorem AtC.more(A:AtC ρ w q qx wr l t y)(d:eF ρ wr W2 (.good l) false)(h1:ρ.g < q)(h2:q+1<=qx):AtC ρ w q qx W2 l t y:=
 ⟨A.did.trans d,d.blk A.blk WC,d.blk A.res WC,Tr.at_.keep (wB d.grown WC) _ _ A.tr⟩
structure AtD (ρ:dv) (w:World) (q qx:Nat) (W:World) (r:dI) (t:Tr) (y:Ex):Prop where
 did:eF ρ w W (.good r) false
 blk:aC W qx 46 (bI y).toArray
 res:aC W q 46 #[ag 0,ag 0,af 0,au,au,af 0,az]
 tr:t.at_ W (jf (q+1) W) y
variable{Ws w3:World}{t' t2:Tr}{y' v2:Ex}{l0:dI}{bi:Int}
theorem AtC.round(ee:ρ.g < w.heap.size)(WR:q=w.heap.size)(hqq:q+1<=qx)(A:AtC ρ w q qx wr l0 t' y')(hW:aj wr W2)(hst:eF ρ W2 Ws (.good l) false)(d2:eF ρ Ws w3 (.good r) false)
  (ht2:t2.at_ w3 (jf Ws.heap.size w3) v2):
  AtD ρ w q qx (dX ((w3.alloc (uI v2)).alloc (Ad y' v2)) qx (opY bi (w3.heap.size+1) 2)) r (AJ bi [t',t2]) (opY bi (w3.heap.size+1) 2):=by
 have hz1:=d2.size;have hz2:=hst.size;have hz3:=hW.size;have hqb:=A.blk.lt;have b12:aj w3 ((w3.alloc (uI v2)).alloc (Ad y' v2)):=ai.then (ah w3 _) (ah _ _);have hsz:((w3.alloc (uI v2)).alloc (Ad y' v2)).heap.size=w3.heap.size+2:=by simp
 have hN:aC ((w3.alloc (uI v2)).alloc (Ad y' v2)) (w3.heap.size+1) 46 (bI y'++bI v2).toArray:=by have:=aC.new (w3.alloc (uI v2)) 46 (bI y'++bI v2).toArray;rw[World.size_alloc] at this;exact this
 have hX:aC ((w3.alloc (uI v2)).alloc (Ad y' v2)) qx 46 (bI y').toArray:=(((A.blk.later hW).grown hst.grown Tab).grown d2.grown Tab).later b12;have hR:aC ((w3.alloc (uI v2)).alloc (Ad y' v2)) q 46 _:=(((A.res.later hW).grown hst.grown Tab).grown d2.grown Tab).later b12;have hD:eF ρ w ((w3.alloc (uI v2)).alloc (Ad y' v2)) (.good r) false:=(((A.did.later hW).trans hst).trans d2).later b12
 have hT:(AJ bi [t',t2]).at_ ((w3.alloc (uI v2)).alloc (Ad y' v2)) (Bx (q+1) qx ((w3.alloc (uI v2)).alloc (Ad y' v2))) (opY bi (w3.heap.size+1) 2):=by
  refine afQ bi hN ⟨by omega,by omega,by omega⟩ ?_ ?_
  ·exact Tr.at_.keep (BZ b12) _ _ (Tr.at_.keep (wB d2.grown WC) _ _ (Tr.at_.keep (wB hst.grown WC) _ _ (Tr.at_.keep (BZ hW) _ _ A.tr)))
  ·exact Tr.at_.keep (akL WC WC) _ _ (ht2.later b12)
 generalize (w3.alloc (uI v2)).alloc (Ad y' v2)=W5 at*;refine⟨hD.dX ee WC _,ep hX _,UK hR WC _,?_⟩;exact Tr.at_.keep (Pf (Nat.le_refl _)) _ _ (Tr.at_.keep (adF (S:=λ w=>Bx (q+1) qx w) (λ w i u=>YP i u) _) _ _ hT)
theorem zjf.KcA(h:p:=by
 refine bodyPost_ret (v:=mK y) ZeL rfl ?_
 ·exact NI.put ee (Nat.le_refl _) (HA.ae.did.later hL) (Tr.at_.keep (Pf (Nat.le_refl _)) _ _ (Tr.at_.keep (BZ hL) _ _ HA.ae.tr))):p:=h
theorem zcJ.Kaw(h:p:=by have Sz:=HA.ae.res.later hL;have Pz:=HA.ae.blk.later hL;have hqb:=Sz.lt;obtain⟨z0,z1,z2,z3,z4,z5,z6⟩:=eo Sz;obtain⟨y0,y1,x9,y3,y4,y5,y6⟩:=bU Sz;obtain⟨x0,x1,x2,x3,x4,x5,x6⟩:=dt Pz;have jG:=aa Sz;open zjf in exact Zhj):p:=h
theorem zgw.Kbv(h:p:=by
 have e1:(ρ.n:Int) - (cq.good (tk.w::r)).left+1=(ρ.n:Int) - r.length:=by simp only[cq.left,length_cons];omega
 have PE:=aa e1;have arV:=HA.ae.did.at_.left;clear hpl hg ck uH hp hr2 e1;open zcJ in exact ZaP):p:=h
theorem zdi.KaE(h:p:=by
 go_loopg [] 0 (λ k wr=>wr=w1);case atStart=>rfl
 case round=>
  open zgw in exact ZdZ):p:=h
theorem alw(iM:dJ aaE (u::r)=false)(hop:kM 3 u=0)(iO:cW 4 l t (u::r)):cW 3 l t (u::r):=by
 open zdi in exact Zbj
variable{l2:dI}
theorem zcK.Kaw(h:p:=by
 obtain⟨ho1,Q7⟩:=ho;have e0:(o==0)=false:=by rw[beq_eq_false_iff_ne];omega
 have oh:=HA.ae.did.at_.later hL;obtain⟨q0,q1,q2,q3,f1,f2,f3⟩:=oh.facts;have e1:=PE.ae;have hst:=dv.at.step oh WK;have qA:l2.length+1<=ρ.n:=by have:=oh.left;have e2:(cq.good (tk.w::l2)).left=l2.length+1:=rfl;omega
 clear oh q0 q2 q3 f2 f3;go_upto_region 23 with (first
  |(go_at_call 184;refine(H2 ρ _ hst.at_).mono ?_;rintro e w3 ⟨v2,rfl,ht2,d2⟩;unfold mK bI;have F:=AtC.round (bi:=o) ee rfl hqx HA.ae hL hst d2 ht2;have hz1:=d2.size;have hz2:=hst.size;have hz3:=hL.size;have B0:=((HA.ae.blk.later hL).grown hst.grown Tab).grown d2.grown Tab;have B1:=B0.alloc (.cells #[ag v2.op,ag v2.v.k,af v2.v.n,.string v2.v.s,.string v2.name,af v2.width,.slice v2.A v2.n v2.c] 46);have B2:=B1.alloc (.cells #[ag y.op,ag y.v.k,af y.v.n,.string y.v.s,.string y.name,af y.width,.slice y.A y.n y.c,ag v2.op,ag v2.v.k,af v2.v.n,.string v2.v.s,.string v2.name,af v2.width,.slice v2.A v2.n v2.c] 46);have N1:=aC.new w3 46 (bI v2).toArray;have X1:=dt B1;have X2:=dt B2;have X3:=eo B2;have X4:=dt N1;unfold bI at X4;obtain⟨x0,x1,x2,x3,x4,x5,x6⟩:=X1;obtain⟨y0,y1,x9,y3,y4,y5,y6⟩:=X2;obtain⟨z0,z1,z2,z3,z4,z5,z6⟩:=X3;obtain⟨a0,a1,a2,a3,a4,a5,a6⟩:=X4;have HF:=aa F;clear B0 B1 B2 N1 F))
 clear x0 x1 x2 x3 x4 x5 x6 y0 y1 x9 y3 y4 y5 y6 z0 z1 z2 z3 z4 z5 z6 a0 a1 a2 a3 a4 a5 a6;have F:=HF.ae;clear HF;show Code.wp _ _ _ _ (dX ((w3.alloc (uI v2)).alloc (Ad y v2)) qx (opY o (w3.heap.size+1) 2));generalize dX ((w3.alloc (uI v2)).alloc (Ad y v2)) qx (opY o (w3.heap.size+1) 2)=W9 at*;generalize opY o (w3.heap.size+1) 2=Y9 at*;obtain⟨x0,x1,x2,x3,x4,x5,x6⟩:=dt F.blk;obtain⟨z0,z1,z2,z3,z4,z5,z6⟩:=eo F.res;obtain⟨y0,y1,x9,y3,y4,y5,y6⟩:=bU F.res;have hqb:=F.res.lt;have HF:=aa F;clear F;go_wp2_with fail;have HP:=ep HF.ae.res Y9;have HR:=dt HP;unfold dX at HR;obtain⟨r0,r1,r2,r3,r4,r5,r6⟩:=HR;refine bodyPost_ret (v:=mK Y9) ZeL rfl ?_
 ·exact NI.put ee (Nat.le_refl _) HF.ae.did HF.ae.tr):p:=h
theorem zgx.Kbv(h:p:=by
 have e1:(ρ.n:Int) - (cq.good (tk.w::l2)).left+1=(ρ.n:Int) - l2.length:=by simp only[cq.left,length_cons];omega
 have PE:=aa e1;have arV:=HA.ae.did.at_.left;clear hpl hg ck uH hp hr2 e1;open zcK in exact ZaP):p:=h
theorem zdj.KaE(h:p:=by
 go_loopg [] 0 (λ k wr=>wr=w1);case atStart=>rfl
 case round=>
  open zgx in exact ZdZ):p:=h
theorem arW(o:Int)(ho:5<=o/\o<=17)(WK:u.k≠0)(iM:dJ aaE (u::l2)=false)(hop:kM 3 u=o)(iO:cW 4 l t (u::l2))(H2:cW 4 l2 t2 r):cW 3 l (AJ o [t,t2]) r:=by
 open zdj in exact Zbj
structure Gb (u:Wd):Prop where
 b0:kM 0 u=0
 b1:kM 1 u=0
 b4:kM 4 u=0
 b5:kM 5 u=0
 is_:iN aaE u=false
structure yj (l:dI):Prop where
 no:dJ YI l=false
 mi:dJ sR l=false
theorem Zz(h:mo l t (u::r))(hb:yj l)(hu:Gb u):cW 4 l t (u::r):=
 sY 4 (.inr (.inr (.inl rfl))) hu.b4 (sY 5 (.inr (.inr (.inr rfl))) hu.b5 (alb hb.mi (alc h)))
theorem up3(h:cW 3 l t (u::r))(hb:yj l)(hu:Gb u):cW 0 l t (u::r):=
 sY 0 (.inl rfl) hu.b0 (sY 1 (.inr (.inl rfl)) hu.b1 (ala hb.no h))
theorem LZ(h:mo l t (u::r))(hb:yj l)(hu:Gb u)(h3:kM 3 u=0):cW 0 l t (u::r):=
 up3 (alw hu.is_ h3 (Zz h hb hu)) hb hu
theorem alx{c:Wd} (o:Int)(ho:5<=o/\o<=17)(WK:c.k≠0)(hc:Gb c)(hop:kM 3 c=o)(h:mo l t (c::l2))(hb:yj l)(h2:mo l2 t2 (u::r))(hb2:yj l2)(hu:Gb u):cW 0 l (AJ o [t,t2]) (u::r):=
 up3 (arW o ho WK hc.is_ hop (Zz h hb hc) (Zz h2 hb2 hu)) hb hu
section
variable {s:List UInt8} {σ:cq} {x:Tr}
end
section
variable {α:Type} {el:Ps α} {σ zr:cq} {acc:List α} {x:α}
end
def nY (y:Sl):Value:=.slice y.A y.n y.c
def _root_.Go.Proofs.YtndgjggokjickaaGreatDoor.Sl.nil:Sl:=⟨none,0,0⟩
def El.sl(E:El α)(w:World)(S:Nat->Prop)(y:Sl)(l:List α):Prop:=E.lies w S y.A y.n l
theorem El.uL(E:El α)(w:World)(S:Nat->Prop):E.sl w S Sl.nil []:=E.YO w S
variable{E:El α}{S':Nat->Prop}
theorem El.sl.keep{y:Sl} {l:List α}(h:E.sl w S y l)(hk:∀b,S b->(∀o,w'.cell? ⟨b,o,none⟩=w.cell? ⟨b,o,none⟩)/\S' b):E.sl w' S' y l:=El.lies.keep h hk
structure yl where
 items:Sl:=.nil
 bZ:ByteArray:=ByteArray.empty
 only:Bool:=false
 cK:Sl:=.nil
 group:Sl:=.nil
 having:Sl:=.nil
 order:Sl:=.nil
 dz:Sl:=.nil
def Ma (y:yl):List Value:=[nY y.items,.string y.bZ,.bool y.only,nY y.cK,nY y.group,nY y.having,nY y.order,nY y.dz]
def quV (y:yl):Value:=.agg (Ma y).toArray
structure Qu.at_ (w:World) (S:Nat->Prop) (q:Qu) (y:yl):Prop where
 items:rM.sl w S y.items q.items
 bZ:y.bZ=q.bZ
 only:y.only=q.only
 cK:IC.sl w S y.cK q.cK
 group:IC.sl w S y.group q.group
 having:IC.sl w S y.having q.having
 order:sS.sl w S y.order q.order
 dz:Sa.sl w S y.dz q.dz
theorem Qu.at_.keep{q:Qu} {y:yl}(hk:∀b,S b->(∀o,w'.cell? ⟨b,o,none⟩=w.cell? ⟨b,o,none⟩)/\S' b)(h:q.at_ w S y):q.at_ w' S' y:=
 ⟨h.items.keep hk,h.bZ,h.only,h.cK.keep hk,h.group.keep hk,h.having.keep hk,h.order.keep hk,h.dz.keep hk⟩
theorem Qu.ZA (w:World)(S:Nat->Prop):Qu.at_ w S {} {}:=⟨rM.uL _ _,rfl,rfl,IC.uL _ _,IC.uL _ _,IC.uL _ _,sS.uL _ _,Sa.uL _ _⟩
structure ZB where
 kind:Int:=0
 name:ByteArray:=ByteArray.empty
 cols:Sl:=.nil
 time:ByteArray:=ByteArray.empty
 every:Int:=0
 space:ByteArray:=ByteArray.empty
 parts:Int:=0
 query:yl:= {}
 what:Int:=0
 of_:ByteArray:=ByteArray.empty
 a:Int:=0
 b:Int:=0
 rows:Sl:=.nil
 afO:Sl:=.nil
 cK:Sl:=.nil
 bZ:Val:=jF
 eE:Val:=jF
def ZC (v:Val):List Value:=[ag v.k,af v.n,.string v.s]
def sZ (y:ZB):List Value:=[ag y.kind,.string y.name,nY y.cols,.string y.time,af y.every,.string y.space,af y.parts]++Ma y.query++ [ag y.what,.string y.of_,af y.a,af y.b,nY y.rows,nY y.afO,nY y.cK]++ZC y.bZ++ZC y.eE
def stV (y:ZB):Value:=.agg (sZ y).toArray
variable{G:Nat}
theorem ZE(h:aC w G 46 (bI y).toArray)(hS:S G)(hx:x.at_ w S y):IC.sl w S ⟨some ⟨G,0,none⟩,1,1⟩ [x]:=
 ⟨rfl,[y],Ph (f:=bI) uD (by show aC w G _ (bI y++ []).toArray;rw[append_nil];exact h) hS,.one hx⟩
def SC (y:Ex×ByteArray):List Value:=bI y.1++ [.string y.2]
def itV (y:Ex×ByteArray):Value:=.agg (SC y).toArray
theorem dA{a b c g i:Value}(h:aC w q T #[a,b,c,d,e,f,g,i]):
  w.cell? ⟨q,0,none⟩=some a/\w.cell? ⟨q,1,none⟩=some b/\w.cell? ⟨q,2,none⟩=some c/\w.cell? ⟨q,3,none⟩=some d/\w.cell? ⟨q,4,none⟩=some e/\w.cell? ⟨q,5,none⟩=some f/\w.cell? ⟨q,6,none⟩=some g/\w.cell? ⟨q,7,none⟩=some i:=
 ⟨h.cell 0,h.cell 1,h.cell 2,h.cell 3,h.cell 4,h.cell 5,h.cell 6,h.cell 7⟩
theorem lB(h:aC w q T cs):
  w.frozen? ⟨q,0,none⟩=false/\w.frozen? ⟨q,1,none⟩=false/\w.frozen? ⟨q,2,none⟩=false/\w.frozen? ⟨q,3,none⟩=false/\w.frozen? ⟨q,4,none⟩=false/\w.frozen? ⟨q,5,none⟩=false/\w.frozen? ⟨q,6,none⟩=false/\w.frozen? ⟨q,7,none⟩=false:=
 ⟨h.frozen 0,h.frozen 1,h.frozen 2,h.frozen 3,h.frozen 4,h.frozen 5,h.frozen 6,h.frozen 7⟩
def Af (w:World)(q:Nat)(y:Ex)(v:Value):World:=(dX w q y).setCell ⟨q,7,none⟩ v
theorem eF.Af(h:eF ρ W w σ big)(hW:ρ.g < W.heap.size)(hq:W.heap.size<=q)(y:Ex)(v:Value):eF ρ W (Af w q y v) σ big:=(h.dX hW hq y).far hW hq 7 v
theorem Tr.at_.Af(h:t.at_ w (jf B w) y)(hq:q < B)(z:Ex)(v:Value):t.at_ (Af w q z v) (jf B (Go.Proofs.YtndgjggokjickaaGreatDoor.R.Af w q z v)) y:=(h.dX hq z).set hq 7 v
theorem Mb{a b c g i:Value}(h:aC w q T #[a,b,c,d,e,f,g,i])(y:Ex)(v:Value):aC (Af w q y v) q T (bI y++ [v]).toArray:=by have:=((((((((h.aW 0 (ag y.op)).aW 1 (ag y.v.k)).aW 2 (af y.v.n)).aW 3 (.string y.v.s)).aW 4 (.string y.name)).aW 5 (af y.width)).aW 6 (.slice y.A y.n y.c)).aW 7 v);exact Zef
def itZ:Obj:=.cells #[ag 0,ag 0,af 0,au,au,af 0,az,au] 48
def kN:List Nat->Nat
 | []=>0
 | a::l=>max a (kN l)
theorem zw:∀(l:List Nat) (a:Nat),kN (l++ [a])=max (kN l) a
 | [],a=>by simp[kN]
 | b::l,a=>by simp only[cons_append,kN,zw l a];omega
theorem UQ{l:List Nat} {i d:Nat}(h:l[i]?=some d):kN (l.take (i+1))=max (kN (l.take i)) d:=by rw[take_add_one,h];exact zw _ _
theorem Mc:∀ {l:List Nat} {d:Nat},d∈l->d<=kN l
 | a::l,d,h=>by
   rcases List.mem_cons.1 h with rfl | h
   ·simp only[kN];omega
   ·have:=Mc h;simp only[kN];omega
theorem wJ:∀(l:List Nat) (i:Nat),kN (l.take i)<=kN l
 | [],i=>by simp[kN]
 | a::l,0=>by simp[kN]
 | a::l,i+1=>by have:=wJ l i;simp only[take_succ_cons,kN];omega
theorem zx:∀ts:List Tr,Tr.iB ts=kN (ts.map Tr.depth)
 | []=>by simp[Tr.iB,kN]
 | t::ts=>by simp[Tr.iB,kN,zx ts]
def SD (f:FuncId)(w:World)(y:Ex)(d:Nat):Prop:=∀W,aj w W->ar f #[mK y] W λ e w'=>e=.returned (af d)/\aj W w'
theorem Md (w:World)(y:Ex)(ys:List Ex)(ds:List Nat)(S:Nat->Prop)(hS:∀b,S b->b < w.heap.size)(hn:y.n=ys.length)(hA:RL bI 7 w S y.A ys)(hd:ds.length=ys.length)(hD:∀(i:Nat) x d,ys[i]?=some x->ds[i]?=some d->SD 89 w x d)(hm:kN ds<=1000000)(hl:ys.length<=1000000000):SD 89 w y (kN ds+1):=by
 intro W Kx;obtain⟨JW,yv,kZ,gP,yA,yn,yc⟩:=y;have hn:yn=ys.length:=hn;subst hn;have HD:=aa hD;have HM:=aa hm;have HDL:=aa hd;have HA:=aa hA;clear hD hm hd hA;unfold mK bI;have HX:=aC.new W 46 #[ag JW,ag yv.k,af yv.n,.string yv.s,.string kZ,af gP,.slice yA ys.length yc];have hb:=ah W (.cells #[ag JW,ag yv.k,af yv.n,.string yv.s,.string kZ,af gP,.slice yA ys.length yc] 46);go_enter Tryz.func89,Tryz.ntmps89;go_wp2_with fail;generalize W.alloc _=W1 at*;have jH:=aa hb;have HW:=aa Kx;clear hb;go_loopw [3,4] (λ m iv wr=>∃i:Nat,i<=ys.length/\iv=af i/\m=af (kN (ds.take i))/\aj W1 wr) (λ _ iv _=>ys.length - (intOf iv).toNat);case atStart=>exact ZgZ
 case round=>
  obtain⟨i,hi,rfl,rfl,hW⟩:=hrel;have x6:=(HX.later hW).cell 6;simp only[Uaa] at x6;have Ev:=wJ ds i;have xz:=HM.ae;by_cases hlt:i < ys.length
  ·obtain⟨x,hx⟩:∃x,ys[i]?=some x:=⟨_,getElem?_eq_getElem hlt⟩;obtain⟨d,hdd⟩:∃d,ds[i]?=some d:=⟨_,getElem?_eq_getElem (by rw[HDL.ae];exact hlt)⟩;have hDx:=HD.ae i x d hx hdd;have hdm:=Mc (mem_of_getElem? hdd);have HMT:=aa (UQ hdd);have hwr:aj w wr:=Kx.trans ((ai.then jH.ae hW).mono Kx.size);rcases HA.ae with h0 |⟨b,off,hAe,hSb,hc⟩
   ·subst h0;simp at hlt
   have z:=λ j u hu=>(hwr.cell (p:=⟨b,off+i*7+j,none⟩) (hS b hSb)).trans (hc i x j u hx hu)
   have k0:=z 0 _ rfl;have k1:=z 1 _ rfl;have k2:=z 2 _ rfl;have k3:=z 3 _ rfl;have k4:=z 4 _ rfl;have k5:=z 5 _ rfl;have k6:=z 6 _ rfl;simp only[Nat.add_zero] at k0;clear hx hdd z hc;subst hAe;go_wp2_with fail;refine(hDx wr hwr).mono ?_;rintro e w' ⟨rfl,b'⟩;go_wp2_with fail;go_roundw;case rel=>refine⟨i+1,by omega,by go_num,?_,hW.trans (b'.mono hW.size)⟩;first | rw[HMT.ae,show(max ((kN (ds.take i):Nat):Int) (d:Int))=((max (kN (ds.take i)) d:Nat):Int) by omega] |(rw[HMT.ae];congr 1;split <;> omega)
   case measure=>exact Za6
  ·obtain rfl:i=ys.length:=by omega
   have lS:ds.take ys.length=ds:=take_of_length_le (Nat.le_of_eq HDL.ae);rw[lS] at Ev;simp only[lS];go_wp2_with fail;go_ret;exact⟨nk WC,ai.then jH.ae hW⟩
mutual
def Tr.thin:Tr->Prop
 | .mk op v name width args=>args.length<=1000000000/\Tr.zy args
def Tr.zy:List Tr->Prop
 | []=>True
 | t::ts=>t.thin/\Tr.zy ts
end
mutual
theorem Tr.alA {w:World} {S:Nat->Prop}(hS:∀b,S b->b < w.heap.size):∀(t:Tr) (y:Ex),t.at_ w S y->t.thin->t.depth<=1000000->SD 89 w y t.depth
 | .mk op v name width args,y,h,ht,hd=>by unfold Tr.at_ at h;obtain⟨_,_,_,_,hn,ys,hr,ha⟩:=h;unfold Tr.thin at ht;simp only[Tr.depth] at hd ⊢;have hl:=Tr.aQ.length ha;rw[zx] at hd ⊢;exact Md w y ys (args.map Tr.depth) S hS (by rw[hn,hl]) hr (by simp[hl]) (Tr.adN hS args ys ha ht.2 WC) WC (by rw[hl];exact ht.1)
theorem Tr.adN {w:World} {S:Nat->Prop}(hS:∀b,S b->b < w.heap.size):∀(ts:List Tr) (ys:List Ex),Tr.aQ w S ts ys->Tr.zy ts->kN (ts.map Tr.depth)<=1000000->∀(i:Nat) x d,ys[i]?=some x->(ts.map Tr.depth)[i]?=some d->SD 89 w x d
 | [],ys,h,_,_,i,x,d,hx,hd=>by simp at hd
 | t::ts,ys,h,ht,hm,i,x,d,hx,hd=>by
   unfold Tr.aQ at h;obtain⟨y,ys',rfl,h1,h2⟩:=h;unfold Tr.zy at ht;simp only[map_cons,kN] at hm
   match i,hx,hd with
   | 0,hx,hd=>simp at hx hd;subst hx hd;exact Tr.alA hS t y h1 ht.1 WC
   | i+1,hx,hd=>exact Tr.adN hS ts ys' h2 ht.2 WC i x d (by simpa using hx) (by simpa using hd)
end
theorem aaX{s:ByteArray} {l:List rJ}(h:zZ s.data.toList=.ok l) (hs:s.size<=4294967280):
  ar 85 #[.string s] w λ e w'=>∃A c,e=.returned (.tuple #[.slice A l.length c,af 0,af 0])/\LJ w' w.heap.size (.slice A l.length c) l/\aj w w':=by refine(Zi s w hs).mono ?_;intro e w' hp;unfold wE at hp;rw[h] at hp;obtain⟨v,rfl,ho,hb⟩:=hp;obtain⟨A,c,rfl⟩:=ho.form;exact⟨A,c,rfl,ho,hb⟩
variable{P:Program}
theorem zeD.KaS(h:p:=by exact⟨v',w',hr,ho,ha,h4⟩):p:=h
theorem Ag{f:α->List Value} {e:TypeId} {size:Nat}  {lv:Value} {l:List α} {y:α}  (t ty:TypeId)(z:Value)(bytes:Nat)(ht:P.underlying t=some (.slice e))(jm:(P.info? e).map (λ i=>(i.zero,i.size,i.bytes))=some (some z,size,bytes))(hzs:z.cells.size=size)(hsz:0 < size)
  (hf:∀x,(f x).length=size) (h1:∀u∈f y,u.oneCell'=true) (hown:aI f e size w base lv l)
  (g0:Nat) (hg0:aC w g0 e (f y).toArray) (hlen:(l.length+1)*bytes<=140737488355328) (mS:l.length+1<=140737488355328) (hbase:base<=w.heap.size):
  ∃v' w',(Builtin.append_ #[t,t] ty #[lv,aF g0 1 1]).run P w=.ok v' w'/\aI f e size w' base v' (l++ [y])/\AR f e size base lv l y w w'/\(v'.ownBlock=lv.ownBlock\/v'.ownBlock=some w.heap.size):=by
 open zeD in exact ZbZ
section
variable {P:Program} {β:Type} (f:β->List Value) (val:β->Value) (e:TypeId) (size base:Nat) (l:List β) (lv:Value) (Post:β->World->World->Prop) (w0:World)
def IP:List Value->World->Prop
 | [],w=>ai w0 w
 | [a],w=>∃y w1 gI,a=val y/\ai w0 w1/\Post y w1 gI/\ai gI w
 | [a,s],w=>∃y w1 gI g0,a=val y/\s=aF g0 1 1/\ai w0 w1/\Post y w1 gI/\ai gI w/\aC w g0 e (f y).toArray
 | [a,s,v],w=>∃y w1 gI w2,a=val y/\ai w0 w1/\Post y w1 gI/\ai gI w2/\aI f e size w2 base lv l/\w2.grownBy w lv.ownBlock/\aI f e size w base v (l++ [y])/\(v.ownBlock=lv.ownBlock\/v.ownBlock=some w2.heap.size)
 | _,_=>False
theorem Me (vs:List Value)(w:World)(h:IP f val e size base l lv Post w0 vs w):IP f val e size base l lv Post w0 vs w.drew:=by
 match vs,h with
 | [],h=>exact ai.trans h (ai.drew _)
 | [a],⟨y,w1,gI,h1,h2,h3,h4⟩=>exact⟨y,w1,gI,h1,h2,h3,h4.trans (ai.drew _)⟩
 | [a,s],⟨y,w1,gI,g0,h1,h2,h3,h4,h5,h6⟩=>exact Zio
 | [a,s,v],⟨y,w1,gI,w2,h1,h2,h3,h4,h5,h6,h7,h8⟩=>exact⟨y,w1,gI,w2,h1,h2,h3,h4,h5,⟨h6.os,h6.tape,h6.output,h6.size,h6.block⟩,h7.later (ai.drew _),h8⟩
 | _::_::_::_::_,h=>exact h.elim
variable {f val e size base l lv Post w0}
variable {Q:Exit->Act->World->Prop} {a0:Act} {id:Nat} {o0 o1 o2 o3 o4 o5 o6 o7:Oper} {q d0 d1 d2 d3 d4 d5 d6:Tmp} {qb k g:Nat} {pq ptr:Value} {F:FuncId} {args:Array Value}
theorem zc8.KaB(h:p:=by
 have Co:∀vs w,IP f val e size base l lv Post w0 vs w->w.cell? ⟨qb,k,none⟩=some lv:=by exact Zci
 refine py [o7] [o0,o1,o2,o3,o4,o5,o6] rfl (λ i=>if i=0 then bj qb k else if i=1 then lv else if i=2 then ptr else bj qb k) [3,4,5] (IP f val e size base l lv Post w0) (Me f val e size base l lv Post w0) (ai.refl w0) hm bh hz hch Taa rfl ?_ ?_
 ·refine⟨ZdR,Zgs,ZdQ,Zc1,Zck,?_,ZdS,trivial⟩
  ·intro ρ w vs hc hG hr;rw[t5] at hr;have r0:=hr.1;have r1:=hr.2.1;simp only[s5] at r0;simp only[s5'] at r1;refine⟨g5,?_⟩;show vs.length=2->_;intro hl
   match vs,hl with
   | [a,s],_=>have r1:some s=some (ρ (.tmp d4)):=r1;injection r1 with r1;obtain⟨y,w1,gI,gg,ha,hs,h2,h3,h4',h5⟩:=hG;obtain⟨k1,k2,k3⟩:=wH h2 h3 h4';obtain⟨v',w',hrun,ho,yS,h4⟩:=Ag (P:=P) (w:=w) t ty z bytes ht jm hzs hsz hf (h1 y) k2 gg h5 hlen mS (Nat.le_trans hbase k3);exact aq (hap ρ w _ v' w' r0 (r1.symm.trans hs) hrun) ⟨y,w1,gI,w,ha,h2,h3,h4',k2,yS.grown,ho,h4⟩
 ·exact ZbQ):p:=h
theorem IQ (t ty:TypeId)(z:Value)(bytes:Nat)
  (hm:P.follows .mixedOrders=true) (bh:dO [o0,o1,o2,o3,o4,o5,o6] a0.tmps.size [o0,o1,o2,o3,o4,o5,o6] 0=true) (hz:eK [o0,o1,o2,o3,o4,o5,o6,o7] [o7] 7=true) (hch:lx [o0,o1,o2,o3,o4,o5,o6] [3,4,5]=true) (Cn:Cm o0 o1 o2 o3 o4 o5 o6 q d0 d1 d2 d3 d4 d5 d6=true)
  (hq:a0.eval (.tmp q)=pq) (h0:a0.eval (.tmp 0)=ptr)
  (T8:∀ρ w,ρ (.tmp q)=pq->(execOp ρ o0).run P w=.ok (.value (bj qb k)) w) (Zn:∀ρ w,ρ (.tmp q)=pq->(execOp ρ o6).run P w=.ok (.value (bj qb k)) w)
  (T5:∀ρ w,ρ (.tmp d0)=bj qb k->w.cell? ⟨qb,k,none⟩=some lv->(execOp ρ o1).run P w=.ok (.value lv) w)
  (Eu:∀ρ w,ρ (.tmp 0)=ptr->(execOp ρ o2).run P w=.ok (.value ptr) w)
  (cg:∀ρ w,oT ρ->ρ (.tmp d2)=ptr->(execOp ρ o3).run P w=.ok (.enter F args) w)
  (JX:∀ρ w y,ρ (.tmp d3)=val y->(execOp ρ o4).run P w=.ok (.value (aF w.heap.size 1 1)) (w.alloc (.cells (f y).toArray e)))
  (hap:∀ρ w s v' w',ρ (.tmp d1)=lv->ρ (.tmp d4)=s->(Builtin.append_ #[t,t] ty #[lv,s]).run P w=.ok v' w'->(execOp ρ o5).run P w=.ok (.value v') w')
  (ht:P.underlying t=some (.slice e)) (jm:(P.info? e).map (λ i=>(i.zero,i.size,i.bytes))=some (some z,size,bytes)) (hzs:z.cells.size=size) (hsz:0 < size) (hf:∀x,(f x).length=size) (h1:∀y,∀u∈f y,u.oneCell'=true)
  (hown:aI f e size w0 base lv l) (hcell:w0.cell? ⟨qb,k,none⟩=some lv) (TC:qb≠g) (WQ:lv.ownBlock≠some g) (hlq:lv.ownBlock≠some qb) (hlen:(l.length+1)*bytes<=140737488355328) (mS:l.length+1<=140737488355328) (hbase:base<=w0.heap.size)
  (lU:∀w,ai w0 w->Calls P F args w λ e w'=>∃y,e=.returned (val y)/\Post y w w') (Sr:∀y w w',Post y w w'->w.grownBy w' (some g))
  (mn:∀y s v' w1 gI w2 W,ai w0 w1->Post y w1 gI->ai gI w2->aI f e size w2 base lv l->w2.grownBy W lv.ownBlock->aI f e size W base v' (l++ [y])->(v'.ownBlock=lv.ownBlock\/v'.ownBlock=some w2.heap.size)->W.cell? ⟨qb,k,none⟩=some lv->
    wpList P [o0,o1,o2,o3,o4,o5,o6,o7].toArray Q [o7] (((((((a0.put (some d0) (bj qb k)).put (some d1) lv).put (some d2) ptr).put (some d3) (val y)).put (some d4) s).put (some d5) v').put (some d6) (bj qb k)) W):
  (Code.region id [o0,o1,o2,o3,o4,o5,o6,o7].toArray true).wp P Q a0 w0:=by
 open zc8 in exact Za3
end
def ZF (y:Ex×Bool):List Value:=bI y.1++ [.bool y.2]
def orV (y:Ex×Bool):Value:=.agg (ZF y).toArray
def orZ:Obj:=.cells #[ag 0,ag 0,af 0,au,au,af 0,az,.bool false] 117
def ym (B:Nat)(v:Value)(w:World):Nat->Prop:=λ b=>B<=b/\b < w.heap.size/\some b≠v.ownBlock
theorem pJ{g:Nat}  (h:w.grownBy w' (some g))(hg:g < B):∀b,ym B v w b->(∀o,w'.cell? ⟨b,o,none⟩=w.cell? ⟨b,o,none⟩)/\ym B v w' b:=λ b hb=>
 ⟨cell_of_heap (h.block b hb.2.1 (λ e=>by injection e with e;have:=hb.1;omega)),hb.1,Nat.lt_of_lt_of_le hb.2.1 h.size,hb.2.2⟩
theorem pK(h:aj w w'):∀b,ym B v w b->(∀o,w'.cell? ⟨b,o,none⟩=w.cell? ⟨b,o,none⟩)/\ym B v w' b:=λ b hb=>
 ⟨cell_of_heap (h.block b hb.2.1),hb.1,Nat.lt_of_lt_of_le hb.2.1 h.size,hb.2.2⟩
variable{v':Value}
theorem Ct(h:w.grownBy w' v.ownBlock)(hv:v'.ownBlock=v.ownBlock\/v'.ownBlock=some w.heap.size):∀b,ym B v w b->(∀o,w'.cell? ⟨b,o,none⟩=w.cell? ⟨b,o,none⟩)/\ym B v' w' b:=λ b hb=>
 ⟨cell_of_heap (h.block b hb.2.1 hb.2.2),hb.1,Nat.lt_of_lt_of_le hb.2.1 h.size,λ e=>by
   rcases hv with hv | hv
   ·exact hb.2.2 (e.trans hv)
   ·rw[hv] at e;injection e with e;have:=hb.2.1;omega⟩
variable{B':Nat}
theorem ZG(hB:B'<=B)(hv:∀g,v.ownBlock=some g->g < B):∀b,jf B w b->(∀o,w.cell? ⟨b,o,none⟩=w.cell? ⟨b,o,none⟩)/\ym B' v w b:=λ b hb=>
 ⟨λ _=>rfl,Nat.le_trans hB hb.1,hb.2,λ e=>by have:=hv b e.symm;have:=hb.1;omega⟩
theorem Mf(hB:B'<=B):∀b,ym B v w b->(∀o,w.cell? ⟨b,o,none⟩=w.cell? ⟨b,o,none⟩)/\jf B' w b:=λ b hb=>⟨λ _=>rfl,Nat.le_trans hB hb.1,hb.2.1⟩
structure km {α:Type} (E:El α) (T:TypeId) (w:World) (B:Nat) (v:Value) (l:List α):Prop where
 has:∃ys:List E.β,aI E.f T E.size w B v ys/\mM (E.rel w (ym B v w)) l ys
section
variable {α:Type} {E:El α} {T:TypeId} {w w':World} {B g:Nat} {v:Value} {l:List α}
theorem km.PF (h:km E T w B v l) {G:Nat}(hG:v.ownBlock=some G):B<=G/\G < w.heap.size:=by obtain⟨ys,h1,h2⟩:=h.has;exact⟨(h1.lt hG).2.1,(h1.lt hG).1⟩
theorem km.grown (h:km E T w B v l)(hb:w.grownBy w' (some g))(hg:g < B):km E T w' B v l:=by obtain⟨ys,h1,h2⟩:=h.has;exact⟨ys,h1.grown hb (λ e=>by have:=(h1.lt e).2.1;omega),h2.imp λ x y=>E.keep (pJ hb hg)⟩
theorem km.sl (h:km E T w B v l) {B':Nat}(hB:B'<=B):∃y:Sl,v=nY y/\y.n=l.length/\E.sl w (jf B' w) y l:=by obtain⟨ys,h1,h2⟩:=h.has;obtain⟨A,c,hv,hr⟩:=Py E.hf h1 (S:=jf B' w) (λ g h3 h4=>⟨by omega,h4⟩);refine⟨⟨A,l.length,c⟩,?_,rfl,rfl,ys,hr,h2.imp λ x y=>E.keep (Mf hB)⟩;rw[hv,h2.len];rfl
theorem km.nil (E:El α)(T:TypeId)(w:World)(B:Nat):km E T w B (az) []:=⟨[],aI.nil,.nil⟩
end
def SlW (ρ:dv)(w:World)(l:List Tr)(r:dI)(e:Ending)(w':World):Prop:=∃y:Sl,e=.returned (nY y)/\IC.sl w' (jf w.heap.size w') y l/\eF ρ w w' (.good r) false
theorem Gc{s:ByteArray} (hs:dJ s.data.toList r=false)(ρ:dv)(w:World)(h:ρ.at w (.good r) false):ar 142 #[ρ.ptr,.string s] w (SlW ρ w [] r):=by have HC:=cw ρ w _ false h s hs;clear hs;go_enter Tryz.func142,Tryz.ntmps142;go_wp2_with fail;refine HC.mono ?_;rintro e w1 ⟨rfl,b1⟩;go_wp2_with fail;go_ret;exact⟨Sl.nil,rfl,El.uL _ _ _,b1⟩
variable{k:Wd}
theorem PG{s:ByteArray}   (hs:iN s.data.toList k=true)(H:cW 0 l x r)(ρ:dv)(w:World)(h:ρ.at w (.good (k::l)) false):ar 142 #[ρ.ptr,.string s] w (SlW ρ w [x] r):=by have HC:=oD ρ w _ false h s hs;have ee:=h.FY;have HH:=aa H;clear hs H;go_enter Tryz.func142,Tryz.ntmps142;go_wp2_with fail;refine HC.mono ?_;rintro e w1 ⟨rfl,b1⟩;go_wp2_with fail;refine(HH.ae ρ _ b1.at_).mono ?_;rintro e w2 ⟨y,rfl,ht,d2⟩;unfold mK bI;go_wp2_with fail;go_ret;have hs:=b1.size;exact⟨⟨some ⟨w2.heap.size,0,none⟩,1,1⟩,rfl,ZE (aC.new w2 _ _) ⟨by have:=d2.size;omega,by simp⟩ ((ht.later (ah w2 _)).more hs),(b1.trans d2).later (ah w2 (uI y))⟩
theorem IU(hc:iN dM u=false)(n:Nat)(hn:n<=64)(ρ:dv)(w:World)(h:ρ.at w (.good (u::r)) false):
  ar 140 #[ρ.ptr,af n] w λ e w'=>e=.returned (.bool false)/\eF ρ w w' (.good (u::r)) false:=by have hh:(cq.good (u::r)).head dM=false:=hc;have:=FZ ρ w _ false h n WC;rw[hh,iY hh,show(false || decide (64 < n))=false by simp;omega] at this;exact this
theorem ZH(hc:iN dM u=true)(n:Nat)(hn:n<=64)(ρ:dv)(w:World)(h:ρ.at w (.good (u::r)) false):
  ar 140 #[ρ.ptr,af n] w λ e w'=>e=.returned (.bool true)/\eF ρ w w' (.good r) false:=by have hh:(cq.good (u::r)).head dM=true:=hc;have:=FZ ρ w _ false h n WC;rw[hh,jO hh,show(false || decide (64 < n))=false by simp;omega] at this;exact this
theorem UR(hc:iN dM u=false)(H:cW 0 l x (u::r))(ρ:dv)(w:World)(h:ρ.at w (.good l) false):ar 179 #[ρ.ptr] w (SlW ρ w [x] (u::r)):=by
 have ee:=h.FY;have HM:=aa (λ ρ w h=>IU (r:=r) hc 1 WC ρ w h);have HH:=aa H;clear hc H;go_enter Tryz.func179,Tryz.ntmps179;go_wp2_with fail;refine(HH.ae ρ _ h).mono ?_;rintro e w2 ⟨y,rfl,ht,d2⟩;unfold mK bI;have hs2:=d2.size;go_wp2_with fail;have HD:=aa (d2.later (ah w2 (uI y)));have HX:=aa (aC.new w2 46 (bI y).toArray);have HT:=aa (ht.later (ah w2 (uI y)));unfold uI bI at HD HX HT;clear ht d2;generalize hW3:w2.alloc _=W3 at*;generalize w2.heap.size=g at*;clear hW3;go_loopg [3] 0 (λ k v wr=>v=aF g 1 1/\wr=W3);case atStart=>exact ZfI
 case round=>obtain⟨hv,rfl⟩:=hrel;subst hv;go_wp2_with fail;refine(HM.ae ρ _ HD.ae.at_).mono ?_;rintro e w4 ⟨rfl,d4⟩;go_wp2_with fail;go_ret;have hX:=d4.blk HX.ae WC;exact⟨⟨some ⟨g,0,none⟩,1,1⟩,rfl,ZE hX ⟨hs2,hX.lt⟩ (HT.ae.grown d4.grown WC),HD.ae.trans d4⟩
def ElW(E:El α)(val:E.β->Value)(ρ:dv)(W:World)(x:α)(r:dI)(e:Ending)(w':World):Prop:=∃y:E.β,e=.returned (val y)/\E.rel w' (jf W.heap.size w') x y/\eF ρ W w' (.good r) false
theorem PH(hk:iN Pa k=true)(H:cW 0 l x (k::r))(ρ:dv)(w:World)(h:ρ.at w (.good l) false):ar 180 #[ρ.ptr] w (ElW sS orV ρ w (x,true) r):=by
 have HK:=aa hk;have HH:=aa H;clear hk H;have ee:=h.FY;have hb:=ah w orZ;have h0:=h.later hb;have HQ:=aa (aC.new w 117 #[ag 0,ag 0,af 0,au,au,af 0,az,.bool false]);have hsz:(w.alloc orZ).heap.size=w.heap.size+1:=by simp
 unfold orZ at*;go_enter Tryz.func180,Tryz.ntmps180;go_wp2_with fail;refine(HH.ae ρ _ h0).mono ?_;rintro e w2 ⟨y,rfl,ht,d2⟩;unfold mK bI;have hs2:=d2.size;go_wp2_with fail;have D3:=((eF.cZ h hb).trans d2).later (ah w2 (.cells (ZF (y,false)).toArray 117));have HX:=aC.new w2 117 (ZF (y,false)).toArray;have nx:=(d2.blk HQ.ae WC).alloc (.cells (ZF (y,false)).toArray 117);have htx:=Tr.at_.keep (Pg (.cells (ZF (y,false)).toArray 117) (show w.heap.size+1<=_ by omega)) _ _ ht;have hs3:(w2.alloc (.cells (ZF (y,false)).toArray 117)).heap.size=w2.heap.size+1:=by simp
 unfold ZF bI at D3 HX nx htx hs3;simp only[cons_append,nil_append] at D3 HX nx htx hs3;generalize w2.alloc _=W3 at*;have hm:=oD ρ W3 _ false D3.at_ ⟨#[100,101,115,99]⟩ HK.ae;clear h0 hb HQ ht d2;refine hm.mono ?_;rintro e w4 ⟨rfl,d4⟩;have AQ:=d4.blk HX WC;have hx2:=HX.lt;have Ee:=AQ.aW 7 (.bool true);simp only[setIfInBounds_toArray,set_cons_zero,set_cons_succ] at Ee;have hxf:=AQ.frozen 7;have hxc:=AQ.cell 7;have Ae:=(d4.blk nx WC).far (p:=⟨w2.heap.size,7,none⟩) Tab (.bool true);have D6:=(D3.trans d4).far ee (show w.heap.size<=w2.heap.size by omega) 7 (.bool true);have xo:=aa (Tr.at_.keep (Pf (Nat.le_refl _)) _ _ (Tr.at_.keep (YP 7 (.bool true)) _ _ (Tr.at_.keep (wB d4.grown WC) _ _ htx)));have WS:=aa D6;have PB:=aa Ae;obtain⟨x0,x1,x2,x3,x4,x5,x6,x7⟩:=dA Ee;obtain⟨y0,y1,y2,y3,y4,y5,y6,y7⟩:=dA Ae;obtain⟨z0,z1,z2,z3,z4,z5,z6,z7⟩:=lB Ae;clear AQ Ee Ae HX nx D3 d4 hm D6 hx2;go_wp2_with fail;have HP:=Mb PB.ae y (.bool true);have HR:=dA HP;unfold Af dX at HR;obtain⟨r0,r1,r2,r3,r4,r5,r6,r7⟩:=HR;refine bodyPost_ret (v:=orV (y,true)) ?_ rfl ?_
 ·simp[results,Tryz.results180,go_sem,r0,r1,r2,r3,r4,r5,r6,r7];rfl
 ·exact⟨(y,true),rfl,⟨(xo.ae.Af (Nat.lt_succ_self _) y (.bool true)).more WC,rfl⟩,WS.ae.Af ee (Nat.le_refl _) y (.bool true)⟩
theorem Cu(hk:iN aaF k=false)(H:cW 0 l x (k::r))(ρ:dv)(w:World)(h:ρ.at w (.good l) false):ar 178 #[ρ.ptr] w (ElW rM itV ρ w (x,ByteArray.empty) (k::r)):=by
 have HK:=aa hk;have HH:=aa H;clear hk H;have ee:=h.FY;have hb:=ah w itZ;have h0:=h.later hb;have HQ:=aa (aC.new w 48 #[ag 0,ag 0,af 0,au,au,af 0,az,au]);have hsz:(w.alloc itZ).heap.size=w.heap.size+1:=by simp
 unfold itZ at*;go_enter Tryz.func178,Tryz.ntmps178;go_wp2_with fail;refine(HH.ae ρ _ h0).mono ?_;rintro e w2 ⟨y,rfl,ht,d2⟩;unfold mK bI;have hs2:=d2.size;go_wp2_with fail;have D3:=((eF.cZ h hb).trans d2).later (ah w2 (.cells (SC (y,⟨#[]⟩)).toArray 48));have HX:=aC.new w2 48 (SC (y,⟨#[]⟩)).toArray;have nx:=(d2.blk HQ.ae WC).alloc (.cells (SC (y,⟨#[]⟩)).toArray 48);have ht3:=(ht.later (ah w2 (.cells (SC (y,⟨#[]⟩)).toArray 48))).more (B':=w.heap.size+1) WC;unfold SC bI at D3 HX nx ht3;simp only[cons_append,nil_append] at D3 HX nx ht3;generalize w2.alloc _=W3 at*;have hm:=cw ρ W3 _ false D3.at_ ⟨#[97,115]⟩ HK.ae;clear h0 hb HQ ht d2;refine hm.mono ?_;rintro e w4 ⟨rfl,d4⟩;have Ee:=d4.blk HX WC;have Ae:=d4.blk nx WC;have HT4:=aa (ht3.grown d4.grown WC);have HD4:=aa (D3.trans d4);have PB:=aa Ae;obtain⟨x0,x1,x2,x3,x4,x5,x6,x7⟩:=dA Ee;obtain⟨y0,y1,y2,y3,y4,y5,y6,y7⟩:=dA Ae;obtain⟨z0,z1,z2,z3,z4,z5,z6,z7⟩:=lB Ae;clear Ee Ae HX nx ht3 D3 d4 hm;go_wp2_with fail;have HP:=Mb PB.ae y (au);have HR:=dA HP;unfold Af dX at HR;obtain⟨r0,r1,r2,r3,r4,r5,r6,r7⟩:=HR;refine bodyPost_ret (v:=itV (y,⟨#[]⟩)) ?_ rfl ?_
 ·simp[results,Tryz.results178,go_sem,r0,r1,r2,r3,r4,r5,r6,r7];rfl
 ·exact⟨(y,⟨#[]⟩),rfl,⟨(HT4.ae.Af (Nat.lt_succ_self _) y (au)).more WC,rfl⟩,HD4.ae.Af ee (Nat.le_refl _) y (au)⟩
end Go.Proofs.YtndgjggokjickaaGreatDoor.R
