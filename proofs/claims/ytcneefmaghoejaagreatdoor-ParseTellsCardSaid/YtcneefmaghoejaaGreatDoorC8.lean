/- Parts of the proof. -/
import Derived.Test.YtcneefmaghoejaaGreatDoorC7
namespace Go.Proofs.YtcneefmaghoejaaGreatDoor
open Go.Lib (hid)
open Go.ChangeShapes Go.WideShapes Go.ChangeAt Go.RowKit Go.Shelf
set_option linter.unusedVariables false
set_option linter.unusedSimpArgs false
def LX (n:Nat)(r:List UInt8):Except (Nat×Nat) (List Tok):=uF n (n+1) r
def pre (acc:List Tok):Except (Nat×Nat) (List Tok)→Except (Nat×Nat) (List Tok)
 | .error e=> .error e
 | .ok l=> .ok (acc++l)
def ES (n:Nat):Tok:=⟨⟨0,[],0⟩,n⟩
theorem pP (b:Bool)(r:List UInt8):bZ false (bZ b r)=bZ b r:=by
 induction r generalizing b with
 | nil=>cases b <;> rfl
 | cons d r ih=>
   cases b with
   | true=>
     simp only[bZ];split
     ·exact ih false
     ·exact ih true
   | false=>
     by_cases h1:eH d=true
     ·simp only[bZ,if_pos h1];exact ih false
     ·by_cases h2:d=45∧r.head?=some 45
      ·simp only[bZ,if_neg h1,if_pos h2];exact ih true
      ·have:bZ false (d::r)=d::r:=by simp only[bZ,if_neg h1,if_neg h2]
       rw[this,this]
theorem vR (n:Nat)(r:List UInt8):LX n (bZ false r)=LX n r:=by unfold LX;simp only[uF];have:=pP false r;rw[this]
theorem RM {n:Nat} {r:List UInt8}(h:bZ false r=[]):LX n r=.ok [ES n]:=by unfold LX;simp only[uF,h];rfl
theorem RN {n:Nat} {r r':List UInt8} {c:UInt8} {e:Nat}(h:bZ false r=c::r')(ho:eR (c::r')=.error e):LX n r=.error (n - (c::r').length,e):=by unfold LX;simp only[uF,h,ho]
theorem YS {n:Nat} {r r' rest:List UInt8} {c:UInt8} {w:Wd}(hr:r.length≤n)(h:bZ false r=c::r')(ho:eR (c::r')=.ok (w,rest)):LX n r=pre [⟨w,n - (c::r').length⟩] (LX n rest):=by
 have h1:=tx ho;have h2:=iQ false r;rw[h] at h2;unfold LX;conv=>lhs;unfold uF
 simp only[h,ho];rw[CJ n n (n+1) rest (by omega) (by omega)];cases uF n (n+1) rest <;> rfl
theorem Mp (a b:List Tok)(x:Except (Nat×Nat) (List Tok)):pre a (pre b x)=pre (a++b) x:=by cases x <;> simp[pre]
theorem pre_nil (x:Except (Nat×Nat) (List Tok)):pre [] x=x:=by cases x <;> rfl
theorem GL {r:List UInt8} {x:Nat}(h:eR r=.error x):x=2∨x=30:=by
 cases r with
 | nil=>simp[eR] at h;exact .inr h.symm
 | cons c r=>
   simp only[eR] at h;split at h
   ·split at h
    ·cases h
    ·injection h with h;exact .inl h.symm
   ·split at h
    ·split at h
     ·cases h
     ·injection h with h;exact .inr h.symm
    ·split at h
     ·split at h
      ·cases h
      ·injection h with h;exact .inr h.symm
     ·split at h
      ·cases h
      ·injection h with h;exact .inr h.symm
theorem yg {r rest:List UInt8} {w:Wd}(h:eR r=.ok (w,rest)):rest <:+ r:=by obtain⟨b,hb,_⟩:=zP h;exact⟨b,hb.symm⟩
def kF (t:Tok):List Value:=[.int .u8 t.w.k,.string ⟨t.w.s.toArray⟩,.int .i64 t.w.n,.int .i64 t.p]
theorem vS:(Tryz.prog.info? 46).map (fun i=>(i.zero,i.size,i.bytes))=some (some (.agg #[.int .u8 0,.string ⟨#[]⟩,.int .i64 0,.int .i64 0]),4,40):=by kernel_rfl
def Ak (w:World)(base:Nat)(v:Value)(l:List Tok):Prop:=df kF 46 4 w base v l
def kP (s:ByteArray)(w:World)(e:Ending)(w':World):Prop:=
 match mh s.data.toList with
 | .error (p,x)=>e=.returned (.tuple #[.slice none 0 0,.int .i64 p,.int .i64 x])∧Below w.heap.size w w'
 | .ok l=>∃v,e=.returned (.tuple #[v,.int .i64 0,.int .i64 0])∧Ak w' w.heap.size v l∧Below w.heap.size w w'
theorem GM {s:ByteArray}(h:4096 < s.size):mh s.data.toList=.error (0,2):=by unfold mh;rw[if_pos (by simpa using h)]
theorem Mq {s:ByteArray}(h:¬4096 < s.size):mh s.data.toList=LX s.size s.data.toList:=by
 unfold mh LX;have:s.data.toList.length=s.size:=by simp
 rw[this,if_neg h]
structure YT (s:ByteArray) (g:Nat) (w:World) (a:Nat) (v:Value) (acc:List Tok) (wr:World):Prop where
 at_:au wr g 77 (rh s a)
 Ke:Below w.heap.size w wr
 own:Ak wr w.heap.size v acc
 le:a≤s.size
 len:acc.length≤a
 skip:bZ false (s.data.toList.drop a)=s.data.toList.drop a
 more:LX s.size s.data.toList=pre acc (LX s.size (s.data.toList.drop a))
set_option maxHeartbeats 4000000
set_option maxRecDepth 100000
theorem Mr (s:ByteArray)(w:World)(hE:jO w)(hs:s.size≤4294967280):Calls Tryz.prog 13 #[.string s] w (kP s w):=by
 by_cases Ot:4096 < s.size
 ·unfold kP;rw[GM Ot];go_enter Tryz.func13,Tryz.ntmps13;go_wp2_with fail;go_ret3;exact⟨rfl,Below.refl _ _⟩
 ·have gf:=hid (Mq Ot);have HLEN:=hid (show s.data.toList.length=s.size by simp);go_enter Tryz.func13,Tryz.ntmps13;go_wp2_with fail;have hE1:=(Env.mk0 hE).later (aa w (.cells (rh s 0) 77));have hb0:=aa w (.cells (rh s 0) 77);have hL:=au.new w 77 (rh s 0);unfold rh at hE1 hb0 hL;refine(Gt s w.heap.size 0 _ hL (Nat.zero_le _) hs).mono ?_;rintro e w1 ⟨rfl,hat⟩;have hA:YT s w.heap.size w (eT s 0) (.slice none 0 0) [] w1:=by
   refine⟨hat.1,hb0.trans (bD hat.2 (by simp) (Nat.le_refl _)),df.nil,nL _ _,Nat.zero_le _,?_,?_⟩
   ·rw[jk];have:=vR;exact pP _ _
   ·rw[jk,vR,pre_nil];rfl
  generalize eT s 0=a0 at*;have xf:=hid hE1;have HA:=hid hA;clear hE1 hb0 hL hat hA;go_wp2_with fail;go_loopw [6] (fun x wr=>∃(a:Nat) (acc:List Tok) (u:Value),x=u∧YT s w.heap.size w a u acc wr) (fun _ wr=>s.size - Wj w.heap.size wr);case atStart=>exact⟨a0,[],_,rfl,HA.out⟩
  case round=>
   obtain⟨a,acc,u,hu,hA⟩:=hrel;have hu2:=hu.symm;clear hu;subst hu2;obtain⟨c0,c1⟩:=dT hA.at_;have Kh:=hA.at_.lt;have oL:=hA.len;have hae:=hA.le;have iK:=hid hA;have hEr:Env w.heap.size wr:=(Env.mk0 hE).below hA.Ke;have HER:=hid hEr;clear hA hEr;by_cases ha:a < s.size
   ·go_wp2_with fail;refine(RJ w.heap.size s w.heap.size a _ HER.out (Nat.le_refl _) iK.out.at_ ha hs).mono ?_;intro e w2 hp;have HB:=hid (ft s a ha);rcases hres:eR (s.data.toList.drop a)with x |⟨d,rest⟩
    ·rw[hres] at hp;obtain⟨rfl,hat⟩:=hp;have hx:=GL hres;have fQ:=hid hres;have n1:((x:Int)==0)=false:=by rcases hx with rfl | rfl <;> rfl
     have n2:((x:Int) != 0)=true:=by rcases hx with rfl | rfl <;> rfl
     have n3:¬((x:Int)=0):=by omega
     have je:=hid hat;clear hres hat;obtain⟨d0,d1⟩:=dT je.out.1;have RO:=je.out.1.lt;go_wp2_with fail;go_quiet (fail);go_wp2_with fail;go_ret3;unfold kP;rw[gf.out,iK.out.more,RN (by rw[iK.out.skip];exact drop_at HB.out) (by rw[← drop_at HB.out];exact fQ.out)];have e1:s.size - (s[a]::s.data.toList.drop (a+1)).length=a:=by rw[← drop_at HB.out,List.length_drop,HLEN.out];omega
     rw[e1];exact⟨rfl,iK.out.Ke.trans ((bD je.out.2 (Nat.le_of_lt Kh) (Nat.le_refl _)).trans ((((Below.refl _ _).alloc (Nat.le_refl _) _).trans ((dO _ _).mono (by simp))).mono (Nat.le_of_lt RO)))⟩
    ·rw[hres] at hp;obtain⟨rfl,hat⟩:=hp;have fQ:=hid hres;have je:=hid hat;clear hres hat;obtain⟨d0,d1⟩:=dT je.out.1;have RO:=je.out.1.lt;have bW:=((Below.refl w2.heap.size w2).alloc (Nat.le_refl _) (.cells (kF ⟨d,a⟩).toArray 46)).alloc (by simp) (.cells (kF ⟨d,a⟩).toArray 46);have hown:Ak w2 w.heap.size u acc:=iK.out.own.grown je.out.2 (iK.out.own.other iK.out.at_ (by decide));have HO:=hid (hown.later bW);have hG:au ((w2.alloc (.cells (kF ⟨d,a⟩).toArray 46)).alloc (.cells (kF ⟨d,a⟩).toArray 46)) (w2.heap.size+1) 46 (kF ⟨d,a⟩).toArray:=by have:=au.new (w2.alloc (.cells (kF ⟨d,a⟩).toArray 46)) 46 (kF ⟨d,a⟩).toArray;simpa using this
     have HG:=hid hG;have hgL:=je.out.1.later bW;have RP:Below w.heap.size w ((w2.alloc (.cells (kF ⟨d,a⟩).toArray 46)).alloc (.cells (kF ⟨d,a⟩).toArray 46)):=iK.out.Ke.trans ((bD je.out.2 (Nat.le_of_lt Kh) (Nat.le_refl _)).trans (bW.mono (Nat.le_of_lt RO)));have HGL:=hid hgL;have od:=hid RP;clear hown hG hgL RP bW;unfold kF at HG HO HGL od;go_wp2_with (first
      |(at_builtin
        refine jG rfl (.tmp 38) (.tmp 40) 41 rfl _ 40 Tryz.underlying41 vS rfl (by omega) ⟨d,a⟩ rfl (by simp[kF,Value.oneCell']) rfl HO.out (w2.heap.size+1) rfl HG.out (by omega) (by omega) od.out.size ?_
        intro v2 w3 o2 g2
        have b2:=nK HO.out g2 od.out.size
        have s2:=au.Gf HGL.out HO.out (by decide) g2
        have O2:=hid o2
        have S2:=hid s2
        have B2:=hid (od.out.trans b2)
        clear o2 g2 HO HG s2 b2 od))
     have hrs:rest <:+ s.data.toList:=(yg fQ.out).trans (List.drop_suffix _ _);have hq:s.data.toList.drop (s.size - rest.length)=rest:=by have:=drop_suffix hrs;rwa [HLEN.out] at this
     have afl:rest.length < s.size - a:=by have:=tx fQ.out;rwa [List.length_drop,HLEN.out] at this
     have HQ:=hid hq;clear hq hrs;refine(Gt s w.heap.size (s.size - rest.length) _ S2.out (Nat.sub_le _ _) hs).mono ?_;rintro e w4 ⟨rfl,aaB⟩;have afm:s.size - rest.length≤eT s (s.size - rest.length):=by unfold eT;rw[HQ.out];have:=iQ false rest;omega
     have Cn:=hid aaB;clear aaB;go_wp2_with fail;go_roundw;case rel=>
      refine⟨eT s (s.size - rest.length),acc++ [Tok.mk d a],v2,rfl,Cn.out.1,B2.out.trans (bD Cn.out.2 B2.out.size (Nat.le_refl _)),O2.out.grown Cn.out.2 (O2.out.other S2.out (by decide)),nL _ _,?_,?_,?_⟩
      ·rw[List.length_append,List.length_singleton];omega
      ·rw[jk];exact pP _ _
      ·have e1:s.size - (s[a]::s.data.toList.drop (a+1)).length=a:=by rw[← drop_at HB.out,List.length_drop,HLEN.out];omega
       rw[iK.out.more,YS (by rw[List.length_drop,HLEN.out];omega) (by rw[iK.out.skip];exact drop_at HB.out) (by rw[← drop_at HB.out];exact fQ.out),e1,Mp,jk,vR,HQ.out]
     case measure=>rw[vF iK.out.at_,vF Cn.out.1];have:=nL s (s.size - rest.length);omega
   ·have hnil:s.data.toList.drop a=[]:=List.drop_eq_nil_of_le (by rw[HLEN.out];omega);have Kc:=hid hnil;clear hnil;have bW:=(Below.refl wr.heap.size wr).alloc (Nat.le_refl _) (.cells (kF (ES s.size)).toArray 46);have HO:=hid (iK.out.own.later bW);have HG:=hid (au.new wr 46 (kF (ES s.size)).toArray);have od:=hid (iK.out.Ke.trans (bW.mono (Nat.le_of_lt Kh)));clear bW;unfold kF ES at HG HO od;go_wp2_with (first
     |(at_builtin
       refine jG rfl (.tmp 42) (.tmp 46) 41 rfl _ 40 Tryz.underlying41 vS rfl (by omega) (ES s.size) rfl (by simp[kF,Value.oneCell']) rfl HO.out wr.heap.size rfl HG.out (by omega) (by omega) od.out.size ?_
       intro v2 w3 o2 g2
       have b2:=nK HO.out g2 od.out.size
       have O2:=hid o2
       have B2:=hid (od.out.trans b2)
       clear o2 g2 HO HG b2 od))
    go_ret3;unfold kP;rw[gf.out,iK.out.more,Kc.out,RM rfl];exact⟨v2,rfl,O2.out,B2.out⟩
structure RQ (s:ByteArray) (w:World) (a:Nat) (v:Value) (acc:List Tok) (wr:World):Prop where
 Ke:Below w.heap.size w wr
 own:Ak wr w.heap.size v acc
 le:a≤s.size
 len:acc.length≤a
 skip:bZ false (s.data.toList.drop a)=s.data.toList.drop a
 more:LX s.size s.data.toList=pre acc (LX s.size (s.data.toList.drop a))
theorem GN (s:ByteArray)(w:World)(hs:s.size≤4294967280):Calls Tryz.prog 21 #[.string s] w (kP s w):=by
 by_cases Ot:4096 < s.size
 ·unfold kP;rw[GM Ot];go_enter Tryz.func21,Tryz.ntmps21;go_wp2_with fail;go_ret3;exact⟨rfl,Below.refl _ _⟩
 ·have gf:=hid (Mq Ot);have HLEN:=hid (show s.data.toList.length=s.size by simp);go_enter Tryz.func21,Tryz.ntmps21;go_wp2_with fail;refine(CZ s 0 _ (Nat.zero_le _) hs).mono ?_;rintro e w1 ⟨rfl,rfl⟩;have hA:RQ s w (eT s 0) (.slice none 0 0) [] w:=by
   refine⟨Below.refl _ _,df.nil,nL _ _,Nat.zero_le _,?_,?_⟩
   ·rw[jk];exact pP _ _
   ·rw[jk,vR,pre_nil];rfl
  generalize eT s 0=a0 at*;have HA:=hid hA;clear hA;go_wp2_with fail;go_loopw [5,6] (fun x y wr=>∃(a:Nat) (acc:List Tok) (u:Value),x=u∧y=.int .i64 a∧RQ s w a u acc wr) (fun _ y _=>s.size - (intOf y).toNat);case atStart=>exact⟨a0,[],_,rfl,rfl,HA.out⟩
  case round=>
   obtain⟨a,acc,u,hu,rfl,hA⟩:=hrel;have hu2:=hu.symm;clear hu;subst hu2;have Kh:=hA.Ke.size;have oL:=hA.len;have hae:=hA.le;have iK:=hid hA;clear hA;by_cases ha:a < s.size
   ·go_wp2_with fail;refine(Ww s a _ ha hs).mono ?_;intro e w2 hp;have HB:=hid (ft s a ha);rcases hres:eR (s.data.toList.drop a)with x |⟨d,rest⟩
    ·rw[hres] at hp;obtain⟨rfl,hb⟩:=hp;have hx:=GL hres;have fQ:=hid hres;have n1:((x:Int)==0)=false:=by rcases hx with rfl | rfl <;> rfl
     have n2:((x:Int) != 0)=true:=by rcases hx with rfl | rfl <;> rfl
     have n3:¬((x:Int)=0):=by omega
     clear hres;go_wp2_with fail;go_ret3;unfold kP;rw[gf.out,iK.out.more,RN (by rw[iK.out.skip];exact drop_at HB.out) (by rw[← drop_at HB.out];exact fQ.out)];have e1:s.size - (s[a]::s.data.toList.drop (a+1)).length=a:=by rw[← drop_at HB.out,List.length_drop,HLEN.out];omega
     rw[e1];exact⟨rfl,iK.out.Ke.trans ((hb.mono Kh).trans ((aa w2 _).mono (by have:=hb.size;omega)))⟩
    ·rw[hres] at hp;obtain⟨rfl,hb⟩:=hp;have fQ:=hid hres;clear hres;have bW:=((Below.refl w2.heap.size w2).alloc (Nat.le_refl _) (.cells (kF ⟨d,a⟩).toArray 46)).alloc (by simp) (.cells (kF ⟨d,a⟩).toArray 46);have hown:Ak w2 w.heap.size u acc:=iK.out.own.later hb;have HO:=hid (hown.later bW);have hG:au ((w2.alloc (.cells (kF ⟨d,a⟩).toArray 46)).alloc (.cells (kF ⟨d,a⟩).toArray 46)) (w2.heap.size+1) 46 (kF ⟨d,a⟩).toArray:=by have:=au.new (w2.alloc (.cells (kF ⟨d,a⟩).toArray 46)) 46 (kF ⟨d,a⟩).toArray;simpa using this
     have HG:=hid hG;have RP:Below w.heap.size w ((w2.alloc (.cells (kF ⟨d,a⟩).toArray 46)).alloc (.cells (kF ⟨d,a⟩).toArray 46)):=iK.out.Ke.trans ((hb.mono Kh).trans (bW.mono (by have:=hb.size;omega)));have od:=hid RP;clear hown hG RP bW hb;have hrs:rest <:+ s.data.toList:=(yg fQ.out).trans (List.drop_suffix _ _);have hq:s.data.toList.drop (s.size - rest.length)=rest:=by have:=drop_suffix hrs;rwa [HLEN.out] at this
     have afl:rest.length < s.size - a:=by have:=tx fQ.out;rwa [List.length_drop,HLEN.out] at this
     have HQ:=hid hq;have afm:s.size - rest.length≤eT s (s.size - rest.length):=by unfold eT;rw[HQ.out];have:=iQ false rest;omega
     clear hq hrs;unfold kF at HG HO od;go_wp2_with (first
      |(at_builtin
        refine jG rfl (.tmp 30) (.tmp 32) 41 rfl _ 40 Tryz.underlying41 vS rfl (by omega) ⟨d,a⟩ rfl (by simp[kF,Value.oneCell']) rfl HO.out (w2.heap.size+1) rfl HG.out (by omega) (by omega) od.out.size ?_
        intro v2 w3 o2 g2
        have b2:=nK HO.out g2 od.out.size
        have O2:=hid o2
        have B2:=hid (od.out.trans b2)
        clear o2 g2 HO HG b2 od))
     refine(CZ s (s.size - rest.length) _ (Nat.sub_le _ _) hs).mono ?_;rintro e w4 ⟨rfl,rfl⟩;go_wp2_with fail;go_roundw;case rel=>
      refine⟨eT s (s.size - rest.length),acc++ [Tok.mk d a],v2,rfl,rfl,B2.out,O2.out,nL _ _,?_,?_,?_⟩
      ·rw[List.length_append,List.length_singleton];omega
      ·rw[jk];exact pP _ _
      ·have e1:s.size - (s[a]::s.data.toList.drop (a+1)).length=a:=by rw[← drop_at HB.out,List.length_drop,HLEN.out];omega
       rw[iK.out.more,YS (by rw[List.length_drop,HLEN.out];omega) (by rw[iK.out.skip];exact drop_at HB.out) (by rw[← drop_at HB.out];exact fQ.out),e1,Mp,jk,vR,HQ.out]
     case measure=>have:=nL s (s.size - rest.length);simp[intOf];omega
   ·have hnil:s.data.toList.drop a=[]:=List.drop_eq_nil_of_le (by rw[HLEN.out];omega);have Kc:=hid hnil;clear hnil;have bW:=(Below.refl wr.heap.size wr).alloc (Nat.le_refl _) (.cells (kF (ES s.size)).toArray 46);have HO:=hid (iK.out.own.later bW);have HG:=hid (au.new wr 46 (kF (ES s.size)).toArray);have od:=hid (iK.out.Ke.trans (bW.mono Kh));clear bW;unfold kF ES at HG HO od;go_wp2_with (first
     |(at_builtin
       refine jG rfl (.tmp 37) (.tmp 41) 41 rfl _ 40 Tryz.underlying41 vS rfl (by omega) (ES s.size) rfl (by simp[kF,Value.oneCell']) rfl HO.out wr.heap.size rfl HG.out (by omega) (by omega) od.out.size ?_
       intro v2 w3 o2 g2
       have b2:=nK HO.out g2 od.out.size
       have O2:=hid o2
       have B2:=hid (od.out.trans b2)
       clear o2 g2 HO HG b2 od))
    go_ret3;unfold kP;rw[gf.out,iK.out.more,Kc.out,RM rfl];exact⟨v2,rfl,O2.out,B2.out⟩
theorem Ms (t:Tok):(kF t).length=4:=rfl
theorem Ak.at_ {w:World} {base:Nat} {v:Value} {l:List Tok}(h:Ak w base v l) {k:Nat} {t:Tok}(hk:l[k]?=some t):
  ∃g c,v=.slice (some ⟨g,0,none⟩) l.length c∧g < w.heap.size∧w.cell? ⟨g,k*4,none⟩=some (.int .u8 t.w.k)∧w.cell? ⟨g,k*4+1,none⟩=some (.string ⟨t.w.s.toArray⟩)∧w.cell? ⟨g,k*4+2,none⟩=some (.int .i64 t.w.n)∧w.cell? ⟨g,k*4+3,none⟩=some (.int .i64 t.p):=by
 obtain⟨g,c,hv,_,hlt,hc⟩:=df.cell Ms h hk;exact⟨g,c,hv,hlt,hc 0 _ rfl,hc 1 _ rfl,hc 2 _ rfl,hc 3 _ rfl⟩
theorem Ak.cells {w:World} {base:Nat} {A:Option Addr} {n c:Nat} {l:List Tok}(h:Ak w base (.slice A n c) l)(hne:l≠ []):
  ∃g,A=some ⟨g,0,none⟩∧base≤g∧g < w.heap.size∧∀k t,l[k]?=some t→w.cell? ⟨g,k*4,none⟩=some (.int .u8 t.w.k)∧w.cell? ⟨g,k*4+1,none⟩=some (.string ⟨t.w.s.toArray⟩)∧w.cell? ⟨g,k*4+2,none⟩=some (.int .i64 t.w.n)∧w.cell? ⟨g,k*4+3,none⟩=some (.int .i64 t.p):=by
 match l,hne with
 | t0::l,_=>obtain⟨g,c0,hv,hb,hlt,_⟩:=df.cell Ms h (k:=0) (x:=t0) rfl;injection hv with hA _ _;refine⟨g,hA,hb,hlt,fun k t hk=>?_⟩;obtain⟨g',c',hv',_,a⟩:=h.at_ hk;injection hv' with hA' _ _;rw[hA] at hA';injection hA' with hA';injection hA' with hg _ _;subst hg;exact a
structure br where
 g:Nat
 gl:Nat
 c:Nat
 yK:List Tok
def br.n (ρ:br):Nat:=ρ.yK.length
def br.ws (ρ:br):bH:=ρ.yK.map (·.w)
def br.bad (ρ:br):aW→Int
 | .good _=> -1
 | .bad m=>(ρ.n:Int) - m
def br.cells (ρ:br)(σ:aW)(big:Bool):Array Value:= #[.slice (some ⟨ρ.gl,0,none⟩) ρ.n ρ.c,.int .i64 ((ρ.n:Int) - σ.left),.int .i64 (ρ.bad σ),.bool big]
structure br.at (ρ:br) (w:World) (σ:aW) (big:Bool):Prop where
 blk:au w ρ.g 65 (ρ.cells σ big)
 lt:ρ.gl < ρ.g
 cell:∀k t,ρ.yK[k]?=some t→w.cell? ⟨ρ.gl,k*4,none⟩=some (.int .u8 t.w.k)∧w.cell? ⟨ρ.gl,k*4+1,none⟩=some (.string ⟨t.w.s.toArray⟩)∧w.cell? ⟨ρ.gl,k*4+2,none⟩=some (.int .i64 t.w.n)∧w.cell? ⟨ρ.gl,k*4+3,none⟩=some (.int .i64 t.p)
 of:σ.of ρ.ws
 small:ρ.n≤5000
 yL:∀t∈ρ.yK,0≤t.w.n∧t.w.n≤9223372036854775807
section
variable {ρ:br} {w w':World} {σ:aW} {big:Bool}
theorem br.at.later (h:ρ.at w σ big)(hb:Below w.heap.size w w'):ρ.at w' σ big:=
 ⟨h.blk.later hb,h.lt,fun k t hk=>by
   have hl:ρ.gl < w.heap.size:=Nat.lt_trans h.lt h.blk.lt
   have c:=fun o=>hb.cell (p:=⟨ρ.gl,o,none⟩) hl
   obtain⟨h1,h2,h3,h4⟩:=h.cell k t hk
   exact⟨(c _).trans h1,(c _).trans h2,(c _).trans h3,(c _).trans h4⟩,h.of,h.small,h.yL⟩
theorem br.at.jt (h:ρ.at w σ big):ρ.g < w.heap.size:=h.blk.lt
theorem br.at.set {bU:aW} {Ki:Bool}(h:ρ.at w σ big)(hw:au w' ρ.g 65 (ρ.cells bU Ki))(hg:w.grownBy w' (some ρ.g))(ho:bU.of ρ.ws):ρ.at w' bU Ki:=
 ⟨hw,h.lt,fun k t hk=>by
   have hl:ρ.gl < w.heap.size:=Nat.lt_trans h.lt h.blk.lt
   have c:=cell_of_heap (hg.block ρ.gl hl (fun e=>by injection e with e;have:=h.lt;omega))
   obtain⟨h1,h2,h3,h4⟩:=h.cell k t hk
   exact⟨(c _).trans h1,(c _).trans h2,(c _).trans h3,(c _).trans h4⟩,ho,h.small,h.yL⟩
theorem br.at.left (h:ρ.at w σ big):0 < σ.left∧σ.left≤ρ.n:=by have:=aW.EE h.of;simpa [br.ws,br.n] using this
theorem br.at.far {q:Nat}(h:ρ.at w σ big)(hq:ρ.g < q)(i:Nat)(u:Value):ρ.at (w.setCell ⟨q,i,none⟩ u) σ big:=
 ⟨h.blk.far (p:=⟨q,i,none⟩) (by simp;omega) u,h.lt,fun k t hk=>by
   have c:=cell_of_heap (Below.heap_setCell w ⟨q,i,none⟩ u ρ.gl (by have:=h.lt;simp;omega))
   obtain⟨h1,h2,h3,h4⟩:=h.cell k t hk
   exact⟨(c _).trans h1,(c _).trans h2,(c _).trans h3,(c _).trans h4⟩,h.of,h.small,h.yL⟩
theorem br.at.next (h:ρ.at w σ big):∃t:Tok,ρ.yK[ρ.n - σ.left]?=some t∧(∀l,σ=.good l→∃r,l=t.w::r):=by
 obtain⟨h1,h2⟩:=h.left;have hlt:ρ.n - σ.left < ρ.yK.length:=by unfold br.n at*;omega
 refine⟨_,List.getElem?_eq_getElem hlt,?_⟩;rintro l rfl;obtain⟨t,r,hl,hk⟩:=aW.of_next h.of;refine⟨r,?_⟩;have e:ρ.ws.length - l.length=ρ.n - (aW.good l).left:=by simp[br.ws,br.n,aW.left]
 rw[e] at hk;unfold br.ws at hk;rw[List.getElem?_map,List.getElem?_eq_getElem hlt] at hk;simp only[Option.map_some] at hk;injection hk with hk;rw[hk];exact hl
end
structure dV (ρ:br) (W w':World) (bU:aW) (Ki:Bool):Prop where
 at_:ρ.at w' bU Ki
 grown:W.grownBy w' (some ρ.g)
section
variable {ρ:br} {W w w':World} {σ bU:aW} {big Ki:Bool}
theorem dV.refl (h:ρ.at w σ big):dV ρ w w σ big:=⟨h,aH (Below.refl _ _)⟩
theorem dV.aL (h:ρ.at w σ big)(hb:Below w.heap.size w w'):dV ρ w w' σ big:=⟨h.later hb,aH hb⟩
theorem dV.later (h:dV ρ W w σ big)(hb:Below w.heap.size w w'):dV ρ W w' σ big:=⟨h.at_.later hb,af h.grown (aH hb)⟩
theorem dV.trans (h:dV ρ W w σ big)(k:dV ρ w w' bU Ki):dV ρ W w' bU Ki:=⟨k.at_,af h.grown k.grown⟩
theorem dV.lt (h:dV ρ W w σ big):ρ.g < w.heap.size:=h.at_.jt
theorem dV.size (h:dV ρ W w σ big):W.heap.size≤w.heap.size:=h.grown.size
theorem dV.far {q:Nat}(h:dV ρ W w σ big)(hW:ρ.g < W.heap.size)(hq:W.heap.size≤q)(i:Nat)(u:Value):dV ρ W (w.setCell ⟨q,i,none⟩ u) σ big:=by
 refine⟨h.at_.far (by omega) i u,h.grown.os,h.grown.tape,h.grown.output,?_,fun k hk Wk=>?_⟩
 ·have:(w.setCell ⟨q,i,none⟩ u).heap.size=w.heap.size:=by simp[World.setCell]
  rw[this];exact h.grown.size
 ·rw[Below.heap_setCell w ⟨q,i,none⟩ u k (by simp;omega)];exact h.grown.block k hk Wk
theorem dV.blk {q:Nat} {t:TypeId} {cs:Array Value}(h:dV ρ W w σ big)(hq:au W q t cs)(hg:q≠ρ.g):au w q t cs:=hq.grown h.grown fun e=>hg (by injection e)
end
theorem tH {s:List UInt8} {σ:aW}(h:σ.head s=true):∃t r,σ=.good (t::r)∧kO s t=true:=by
 match σ with
 | .bad n=>simp[aW.head,aW.words,av] at h
 | .good l=>obtain⟨t,r,e,ht⟩:=fP (s:=s) (l:=l) h;exact⟨t,r,by rw[e],ht⟩
theorem ll {s:List UInt8} {σ:aW}(h:σ.head s=true):(aW.good σ.words.tail).left=σ.left - 1∧0 < σ.left∧σ.left=σ.words.tail.length+1:=by obtain⟨t,r,rfl,_⟩:=tH h;simp[aW.left,aW.words]
theorem aP {s:List UInt8} {σ:aW}(h:σ.head s=true):ae (may s) σ=.good σ.words.tail:=by rw[GC,h];rfl
theorem aG {s:List UInt8} {σ:aW}(h:σ.head s=false):ae (may s) σ=σ:=by rw[GC,h];rfl
theorem og {s:List UInt8} {σ:aW}(h:σ.head s=true):ae (must s) σ=.good σ.words.tail:=by rw[CU,h];rfl
theorem yM {s:List UInt8} {σ:aW}(h:σ.head s=false):ae (must s) σ=.bad σ.left:=by rw[CU,h];rfl
def gF:List (List UInt8)→Ps Unit
 | []=>pure ()
 | s::ks=>do must s;gF ks
theorem Al:∀ks,cy (gF ks)
 | []=>bo _
 | s::ks=>ba (aM s) fun _=>Al ks
theorem uR (s:List UInt8)(ks:List (List UInt8))(σ:aW):ae (gF (s::ks)) σ=ae (gF ks) (ae (must s) σ):=aI (x:=()) (aJ _ _)
theorem rT (σ:aW):ae (gF []) σ=σ:=cr _ _
theorem aw (s:List UInt8)(σ:aW):ae (gF [s]) σ=ae (must s) σ:=by rw[uR,rT]
def aW.one (ks:List (List UInt8))(σ:aW):List UInt8:=match ks with
 | []=> []
 | s::ks=>if σ.head s then s else σ.one ks
theorem vT (σ:aW):ae (dC []) σ=.bad σ.left:=by cases σ <;> rfl
theorem Am (s:List UInt8)(ks:List (List UInt8))(σ:aW):ae (dC (s::ks)) σ=if σ.head s then .good σ.words.tail else ae (dC ks) σ:=by
 match σ with
 | .bad n=>rfl
 | .good l=>
   simp only[ae,dC,aW.head,aW.words];by_cases h:av s l=true
   ·simp only[h,if_true]
   ·simp only[h];rfl
theorem ki:∀(ks:List (List UInt8)) (σ:aW),aK (dC ks) σ (σ.one ks)
 | _,.bad n=>trivial
 | [],.good l=>trivial
 | s::ks,.good l=>by
   have ih:=ki ks (.good l);simp only[aK,dC,aW.one,aW.head,aW.words] at ih ⊢;by_cases h:av s l=true
   ·simp only[h,if_true]
   ·simp only[h];exact ih
theorem jC:∀(ks:List (List UInt8)) (σ:aW),(∃s∈ks,σ.one ks=s∧σ.head s=true∧ae (dC ks) σ=.good σ.words.tail)∨(σ.one ks=[]∧ae (dC ks) σ=.bad σ.left∧∀s∈ks,σ.head s=false)
 | [],σ=> .inr ⟨rfl,vT σ,by simp⟩
 | s::ks,σ=>by
   rw[Am];unfold aW.one;by_cases h:σ.head s=true
   ·exact .inl ⟨s,by simp,by simp[h],h,by simp[h]⟩
   ·simp only[h,if_false];rcases jC ks σ with ⟨x,h1,h2,h3,h4⟩|⟨h1,h2,h3⟩
    ·exact .inl ⟨x,List.mem_cons_of_mem _ h1,h2,h3,by simpa using h4⟩
    ·exact .inr ⟨h1,by simpa using h2,by simpa [h] using h3⟩
theorem tI (t:Wd)(r:bH):ae aN (.good (t::r))=if t.k=1∧vC t.s=false then .good r else .bad (r.length+1):=by
 simp only[ae,aN];by_cases h:t.k=1∧vC t.s=false
 ·simp only[h,and_self,if_true]
 ·simp only[h,if_false];rfl
theorem Kj (t:Wd)(r:bH):aK aN (.good (t::r)) ⟨t.s.toArray⟩:=by
 simp only[aK,aN];by_cases h:t.k=1∧vC t.s=false
 ·simp only[h,and_self,if_true]
 ·simp only[h,if_false]
theorem GR (t:Wd)(r:bH):ae cY (.good (t::r))=if t.k=2 then .good r else .bad (r.length+1):=by
 simp only[ae,cY];by_cases h:t.k=2
 ·simp only[h,if_true]
 ·simp only[h,if_false];rfl
theorem Ou (t:Wd)(r:bH):aK cY (.good (t::r)) t.n:=by
 simp only[aK,cY];by_cases h:t.k=2
 ·simp only[h,if_true]
 ·simp only[h,if_false]
theorem lT {α:Type} {p:Ps α} {σ:aW} {n:Nat}(h:ae p σ=.bad n)(x:α):aK p σ x:=by
 match σ with
 | .bad m=>trivial
 | .good l=>
   simp only[ae,aK] at h ⊢;cases e:p l with
   | error m=>trivial
   | ok y=>obtain⟨y,r⟩:=y;rw[e] at h;cases h
section
variable {s:List UInt8} {op:Int} {same below:Ps Tr} {σ:aW} {x:Tr}
theorem ux (h:σ.head s=false):ae (EB s op same below) σ=ae below σ:=by unfold EB;rw[aI (bj s σ),h,aG h];rfl
theorem rU (h:σ.head s=false)(k:aK below σ x):aK (EB s op same below) σ x:=by refine aC (bj s σ) ?_;rw[h,aG h];exact k
theorem vU (h:σ.head s=true):ae (EB s op same below) σ=ae same (.good σ.words.tail):=by
 unfold EB;rw[aI (bj s σ),h,aP h];show ae (same >>= fun x=>pure (lI op [x])) _=_;generalize (aW.good σ.words.tail)=τ
 match τ with
 | .bad n=>rfl
 | .good l=>
   simp only[ae,fw];cases same l with
   | error n=>rfl
   | ok y=>rfl
theorem uy (h:σ.head s=true)(k:aK same (.good σ.words.tail) x):aK (EB s op same below) σ (lI op [x]):=by refine aC (bj s σ) ?_;rw[h,aP h];exact aC k (bM _ _)
end
def br.ptr (ρ:br):Value:=.pointer (some ⟨ρ.g,0,none⟩)
theorem br.at.facts {ρ:br} {w:World} {σ:aW} {big:Bool}(h:ρ.at w σ big):
  w.cell? ⟨ρ.g,0,none⟩=some (.slice (some ⟨ρ.gl,0,none⟩) ρ.n ρ.c)∧w.cell? ⟨ρ.g,1,none⟩=some (.int .i64 ((ρ.n:Int) - σ.left))∧w.cell? ⟨ρ.g,2,none⟩=some (.int .i64 (ρ.bad σ))∧w.cell? ⟨ρ.g,3,none⟩=some (.bool big)∧
  w.frozen? ⟨ρ.g,1,none⟩=false∧w.frozen? ⟨ρ.g,2,none⟩=false∧w.frozen? ⟨ρ.g,3,none⟩=false:=
 ⟨h.blk.cell 0,h.blk.cell 1,h.blk.cell 2,h.blk.cell 3,h.blk.frozen 1,h.blk.frozen 2,h.blk.frozen 3⟩
theorem br.at.place {ρ:br} {w:World} {σ:aW} {big:Bool}(h:ρ.at w σ big):((ρ.n:Int) - σ.left)=((ρ.n - σ.left:Nat):Int):=by have:=h.left;omega
theorem br.at.ET {ρ:br} {w:World} {σ:aW} {big:Bool}(h:ρ.at w σ big):decide (ρ.bad σ < 0)=σ.gp:=by
 have hl:=h.left
 match σ,hl with
 | .bad m,hl=>have e:ρ.bad (.bad m)=(ρ.n:Int) - m:=rfl;have e2:(aW.bad m).left=m:=rfl;rw[e2] at hl;rw[e];simp only[aW.gp,decide_eq_false_iff_not];omega
 | .good l,_=>rfl
theorem GU {s:ByteArray} {t:Wd}:kO s.data.toList t=((t.k==1 || t.k==4)&&(t.s==s.toList)):=by unfold kO;rw[ByteArray.toList_eq]
def kT:Obj:=.cells #[.int .u8 0,.string ⟨#[]⟩,.int .i64 0,.int .i64 0] 46
def bT (t:Tok):Array Value:= #[.int .u8 t.w.k,.string ⟨t.w.s.toArray⟩,.int .i64 t.w.n,.int .i64 t.p]
structure Wx (ρ:br) (w:World) (t:Tok) (pl:Nat) (bd:Int):Prop where
 c0:w.cell? ⟨ρ.g,0,none⟩=some (.slice (some ⟨ρ.gl,0,none⟩) ρ.n ρ.c)
 c1:w.cell? ⟨ρ.g,1,none⟩=some (.int .i64 pl)
 c2:w.cell? ⟨ρ.g,2,none⟩=some (.int .i64 bd)
 d0:w.cell? ⟨ρ.gl,pl*4,none⟩=some (.int .u8 t.w.k)
 d1:w.cell? ⟨ρ.gl,pl*4+1,none⟩=some (.string ⟨t.w.s.toArray⟩)
 d2:w.cell? ⟨ρ.gl,pl*4+2,none⟩=some (.int .i64 t.w.n)
 d3:w.cell? ⟨ρ.gl,pl*4+3,none⟩=some (.int .i64 t.p)
theorem Wx.later {ρ:br} {w w':World} {t:Tok} {pl:Nat} {bd:Int}(h:Wx ρ w t pl bd)(hb:Below w.heap.size w w'):Wx ρ w' t pl bd:=by obtain⟨h0,h1,h2,h3,h4,h5,h6⟩:=h;exact⟨(hb.cell (ay h0)).trans h0,(hb.cell (ay h1)).trans h1,(hb.cell (ay h2)).trans h2,(hb.cell (ay h3)).trans h3,(hb.cell (ay h4)).trans h4,(hb.cell (ay h5)).trans h5,(hb.cell (ay h6)).trans h6⟩
theorem br.at.iB {ρ:br} {w:World} {σ:aW} {big:Bool}(h:ρ.at w σ big):∃(t:Tok) (pl:Nat) (bd:Int),pl=ρ.n - σ.left∧pl < ρ.n∧ρ.n≤5000∧bd=ρ.bad σ∧decide (bd < 0)=σ.gp∧(∀l,σ=.good l→∃r,l=t.w::r)∧0≤t.w.n∧t.w.n≤9223372036854775807∧Wx ρ w t pl bd:=by obtain⟨t,ht,hg⟩:=h.next;obtain⟨d0,d1,d2,d3⟩:=h.cell _ t ht;obtain⟨c0,c1,c2,c3,f1,f2,f3⟩:=h.facts;have hl:=h.left;rw[h.place] at c1;have hn:=h.yL t (List.mem_of_getElem? ht);exact⟨t,_,_,rfl,by omega,h.small,rfl,h.ET,hg,hn.1,hn.2,c0,c1,c2,d0,d1,d2,d3⟩
theorem fW (ρ:br)(w:World)(σ:aW)(big:Bool)(h:ρ.at w σ big)(s:ByteArray):
  Calls Tryz.prog 46 #[ρ.ptr,.string s] w fun e w'=>e=.returned (.bool (σ.head s.data.toList))∧Below w.heap.size w w':=by
 obtain⟨t,pl,bd,hpl,hlt,hsm,kU,bQ,hg,mM,mA,hp⟩:=h.iB;have oh:=hp.later (aa w kT);have yN:=hp.later ((aa w (.cells (bT t) 46)).drew);have hHD:σ.head s.data.toList=(decide (bd < 0)&&((t.w.k==1 || t.w.k==4)&&(t.w.s==s.toList))):=by
  rw[bQ]
  match σ with
  | .bad m=>rfl
  | .good l=>obtain⟨r,rfl⟩:=hg l rfl;rw[← GU];rfl
 have lB:=hid hHD;have hb:=(aa w (.cells (bT t) 46)).drew;have HT:=(au.new w 46 (bT t)).drew;clear hHD hpl hg bQ kU h;unfold br.ptr;generalize σ.head s.data.toList=R at*;obtain⟨c0,c1,c2,d0,d1,d2,d3⟩:=hp;obtain⟨y0,y1,y2,z0,z1,z2,z3⟩:=oh;obtain⟨x0,x1,x2,v0,v1,v2,v3⟩:=yN;unfold kT at y0 y1 y2 z0 z1 z2 z3;go_enter Tryz.func46,Tryz.ntmps46;go_wp2_with fail;go_region;clear c0 c1 c2 d0 d1 d2 d3 y0 y1 y2 z0 z1 z2 z3 x0 x1 v0 v1 v2 v3;obtain⟨u0,u1,u2,u3,_⟩:=aT HT;unfold bT at x2 u0 u1 u2 u3 hb;generalize (w.alloc _).drew=W at*;go_wp2_with fail;all_goals
  go_ret;refine⟨fA ?_,hb⟩;rw[lB.out];generalize (t.w.s==s.toList)=X;cases X <;> rw[Bool.eq_iff_iff] <;> simp <;> omega
def GV (ρ:br)(W:World)(bU:aW)(big:Bool)(e:Ending)(w':World):Prop:=e=.returned (.tuple #[])∧dV ρ W w' bU big
theorem jT (ρ:br)(w:World)(σ:aW)(big:Bool)(h:ρ.at w σ big):
  Calls Tryz.prog 24 #[ρ.ptr] w (GV ρ w (.bad σ.left) big):=by
 obtain⟨c0,c1,c2,c3,f1,f2,f3⟩:=h.facts;have nD:=h.left;have bQ:=h.ET;have EH:aW.of ρ.ws (.bad σ.left):=⟨(aW.EE h.of).1,(aW.EE h.of).2⟩;unfold br.ptr;by_cases hg:ρ.bad σ < 0
 ·have hB:=au.cg h.blk 2 (.int .i64 ((ρ.n:Int) - σ.left));go_enter Tryz.func24,Tryz.ntmps24;go_wp2_with fail;go_end0;exact⟨rfl,h.set hB (cd (aH (Below.refl _ _)) 2 _) EH,cd (aH (Below.refl _ _)) 2 _⟩
 ·have kU:σ=.bad σ.left:=by
   match σ with
   | .bad m=>rfl
   | .good l=>exact absurd (by show(-1:Int)< 0;decide) hg
  have HBD:=hid kU;clear kU;go_enter Tryz.func24,Tryz.ntmps24;go_wp2_with fail;go_end0;rw[← HBD.out];exact⟨rfl,dV.refl h⟩
theorem br.at.step {ρ:br} {w:World} {l:bH} {t:Wd} {big:Bool}(h:ρ.at w (.good (t::l)) big)(ht:t.k≠0):
  dV ρ w (w.setCell ⟨ρ.g,1,none⟩ (.int .i64 ((ρ.n:Int) - l.length))) (.good l) big:=by
 have hB:=au.cg h.blk 1 (.int .i64 ((ρ.n:Int) - l.length));refine⟨h.set hB (cd (aH (Below.refl _ _)) 1 _) ⟨?_,h.of.2.tail ht⟩,cd (aH (Below.refl _ _)) 1 _⟩;exact(List.suffix_cons _ _).trans h.of.1
theorem dL (ρ:br)(w:World)(σ:aW)(big:Bool)(h:ρ.at w σ big)(s:ByteArray):
  Calls Tryz.prog 23 #[ρ.ptr,.string s] w fun e w'=>e=.returned (.bool (σ.head s.data.toList))∧dV ρ w w' (ae (may s.data.toList) σ) big:=by
 have hw:=fW ρ w σ big h s;have vV:ρ.ptr=.pointer (some ⟨ρ.g,0,none⟩):=rfl;cases hh:σ.head s.data.toList
 ·rw[hh] at hw;rw[aG hh];go_enter Tryz.func23,Tryz.ntmps23;go_wp2_with (go_at_call 46;refine hw.mono ?_;rintro e w1 ⟨rfl,b1⟩);go_ret;exact⟨rfl,dV.aL h b1⟩
 ·rw[hh] at hw;obtain⟨t,r,rfl,ht⟩:=tH hh;rw[aP hh];go_enter Tryz.func23,Tryz.ntmps23;have HH:=hid h;have HK:=hid (vI ht);have hsm:=h.small;clear ht hh h;go_wp2_with (go_at_call 46;refine hw.mono ?_;rintro e w1 ⟨rfl,b1⟩;obtain⟨c0,c1,c2,c3,f1,f2,f3⟩:=(HH.out.later b1).facts;have nD:=(HH.out.later b1).left;have e1:(ρ.n:Int) - (aW.good (t::r)).left+1=(ρ.n:Int) - r.length:=by(simp[aW.left];omega));go_ret;have hd:=br.at.step (HH.out.later b1) HK.out;exact⟨rfl,(dV.aL HH.out b1).trans hd⟩
theorem dH (w:World)(q:Nat)(cs:Array Value):w.grownBy (w.setRow q cs) (some q):=
 ⟨rfl,rfl,rfl,by simp,fun i hi hne=>setRow_other w q i cs (fun e=>hne (by rw[e]))⟩
theorem iP {B q:Nat}(w:World)(hq:q < B)(cs:Array Value):∀b,eD B w b→(∀o,(w.setRow q cs).cell? ⟨b,o,none⟩=w.cell? ⟨b,o,none⟩)∧eD B (w.setRow q cs) b:=fun b hb=>
 ⟨cell_of_heap (setRow_other w q b cs (by have:=hb.1;omega)),hb.1,by rw[size_setRow];exact hb.2⟩
theorem au.row {w:World} {q:Nat} {T:TypeId} {old:Array Value}(h:au w q T old)(cs:Array Value):au (w.setRow q cs) q T cs:=setRow_heap w q old cs T (0,0) h
theorem au.ia {w:World} {q b:Nat} {T:TypeId} {old:Array Value}(h:au w b T old)(hq:b≠q)(cs:Array Value):au (w.setRow q cs) b T old:=(setRow_other w q b cs hq).trans h
theorem ln {w:World} {g:Nat} {t:TypeId} {cs:Array Value} {fr:Nat×Nat}(hg:w.heap[g]?=some (.cells cs t fr)):w.setRow g cs=w:=by
 have hh:(w.setRow g cs).heap=w.heap:=by
  apply Array.ext_getElem?;intro i;by_cases hi:i=g
  ·subst hi;exact(setRow_heap w i cs cs t fr hg).trans hg.symm
  ·exact setRow_other w g i cs hi
 cases w;simp only[World.setRow] at hh ⊢;rw[hh]
theorem ju {P:Program} {fn:Func} {p u v:Tmp} {ty:TypeId}(h:fn.results= #[.cell p ty,.tmp u,.tmp v])(tmps:Array Value)(w:World)(g:Nat)(t:TypeId)(cs:Array Value)(fr:Nat×Nat)(d:TypeDesc)(x y:Value)
  (hp:tmps.getD p undef=.pointer (some ⟨g,0,none⟩)) (hg:w.heap[g]?=some (.cells cs t fr))
  (hu:P.underlying ty=some d) (hd:(match d with | .struct _ | .array _ _=>true | _=>false)=true) (hi:(P.info? ty).map (·.size)=some cs.size) (hx:tmps.getD u undef=x) (hy:tmps.getD v undef=y):
  (results fn tmps).run P w=.ok (.tuple #[.agg cs,x,y]) w:=by
 have hp':tmps[p]?.getD undef=.pointer (some ⟨g,0,none⟩):=by simpa using hp
 have hx':tmps[u]?.getD undef=x:=by simpa using hx
 have hy':tmps[v]?.getD undef=y:=by simpa using hy
 simp[results,h,hp',hx',hy',asAddr,Sem.run_bind,run_loadVar_row w g t ty cs fr d hg hu hd hi,Result.andThen]
theorem ag {P:Program} {fn:Func} {Q:Ending→World→Prop} {chain:List PanicEntry} {a:Act} {w:World}(hd:a.defers=[])(h:Q (.panicked chain) w):bodyPost P fn Q (.panic chain) a w:=⟨hd,h⟩
end Go.Proofs.YtcneefmaghoejaaGreatDoor
