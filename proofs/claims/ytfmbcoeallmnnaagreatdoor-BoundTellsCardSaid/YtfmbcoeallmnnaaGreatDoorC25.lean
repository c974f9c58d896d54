/- Parts of the proof. -/
import Derived.Test.YtfmbcoeallmnnaaGreatDoorC24
namespace Go.Proofs.YtfmbcoeallmnnaaGreatDoor.R
open Go.Lib (hid)
open Go.ChangeShapes Go.WideShapes Go.ChangeAt Go.RowKit
set_option linter.unusedVariables false
set_option linter.unusedSimpArgs false
theorem GN {s:ByteArray} {a:Nat} {x:List UInt8}(hb:a+x.length≤s.size):((s.extract a (a+x.length)).toList==x)=x.isPrefixOf (s.data.toList.drop a):=by
 rw[ByteArray.toList_eq,mX,List.drop_take,Nat.add_sub_cancel_left];rw[Bool.eq_iff_iff,beq_iff_eq,List.isPrefixOf_iff_prefix];constructor
 ·intro h;refine⟨(s.data.toList.drop a).drop x.length,?_⟩;have:=List.take_append_drop x.length (s.data.toList.drop a);rwa [h] at this
 ·rintro⟨r,h⟩;rw[← h];simp
theorem GQ {s:ByteArray} {a:Nat} {x:List UInt8}(hb:¬a+x.length≤s.size)(ha:a≤s.size):x.isPrefixOf (s.data.toList.drop a)=false:=by rw[Bool.eq_false_iff];intro h;rw[List.isPrefixOf_iff_prefix] at h;have:=h.length_le;rw[List.length_drop] at this;simp at this;omega
set_option maxHeartbeats 4000000
set_option maxRecDepth 100000
theorem Kn (s:ByteArray)(at_:Nat)(w:World)(ha:at_ < s.size)(hl:fx s[at_]=false)(QV:bz s[at_]=false)(hq:s[at_]≠39)(hs:s.size≤4294967280):
  Calls Tryz.prog 103 #[.string s,.int .i64 at_] w (tV s at_ w (gT (s.data.toList.drop at_))):=by
 have hd:=cB (eM s at_ ha);have kA:gT (s.data.toList.drop at_)=match jI signs (s.data.toList.drop at_)with
   | some x=> .ok (⟨4,x,0⟩,(s.data.toList.drop at_).drop x.length)
   | none=> .error 30:=by
  rw[hd];simp only[gT,hl,QV,if_neg hq];rfl
 generalize gT (s.data.toList.drop at_)=R at*;have t0:(((s[at_].toNat:Nat):Int)==39)=false:=by rw[beq_eq_false_iff_ne];intro h;exact hq (UInt8.toNat_inj.1 (by simpa using(by omega:s[at_].toNat=39)))
 have ou:=hid kA;have Uq:=hid hl;have Ur:=hid QV;have HLEN:=hid (show s.data.toList.length=s.size by simp);clear kA hd hl QV hq;go_enter Tryz.func103,Tryz.ntmps103;go_wp2_with (first
  |(go_at_call 123;refine(dU s[at_] _).mono ?_;rintro e w' ⟨rfl,rfl⟩;rw[Uq.out])
  |(go_at_call 124;refine(eI s[at_] _).mono ?_;rintro e w' ⟨rfl,rfl⟩;rw[Ur.out]))
 have HZ:=hid ((ah.new w 116 #[.int .u8 0,.string ⟨#[]⟩,.int .i64 0,.int .i64 0]).alloc (.cells (signs.map fun l=>Value.string ⟨l.toArray⟩).toArray 9));have hG:ah ((w.alloc (.cells #[.int .u8 0,.string ⟨#[]⟩,.int .i64 0,.int .i64 0] 116)).alloc (.cells (signs.map fun l=>Value.string ⟨l.toArray⟩).toArray 9)) (w.heap.size+1) 9 (signs.map fun l=>Value.string ⟨l.toArray⟩).toArray:=by have:=ah.new (w.alloc (.cells #[.int .u8 0,.string ⟨#[]⟩,.int .i64 0,.int .i64 0] 116)) 9 (signs.map fun l=>Value.string ⟨l.toArray⟩).toArray;simpa using this
 have bb:Below w.heap.size w ((w.alloc (.cells #[.int .u8 0,.string ⟨#[]⟩,.int .i64 0,.int .i64 0] 116)).alloc (.cells (signs.map fun l=>Value.string ⟨l.toArray⟩).toArray 9)):=((Below.refl _ _).alloc (Nat.le_refl _) _).alloc (by simp) _;have HG:=hid hG;clear hG t0;simp only[signs,List.map_cons,List.map_nil] at HZ HG bb;generalize (w.alloc (.cells #[.int .u8 0,.string ⟨#[]⟩,.int .i64 0,.int .i64 0] 116)).alloc _=W at*;go_loopw [13] (fun u wr=>∃i n:Nat,i≤15∧u=.int .i64 i∧wr=W.drewN n∧jI signs (s.data.toList.drop at_)=jI (signs.drop i) (s.data.toList.drop at_)) (fun u _=>15 - (intOf u).toNat);case atStart=>exact⟨0,0,by omega,rfl,rfl,rfl⟩
 case round=>
  obtain⟨i,n,hi,rfl,rfl,Ko⟩:=hrel;have Pb:=hid Ko;clear Ko;have Zy:=hid (HZ.out.drewN n);have Xu:=bb.trans ((ot W n).mono bb.size);by_cases Ut:i < 15
  ·obtain⟨x,hx,Zz,hx1,hx2⟩:=Ni Ut;have hcell:(W.drewN n).cell? ⟨w.heap.size+1,i,none⟩=some (.string ⟨x.toArray⟩):=by
    rw[(HG.out.drewN n).cell i];have:(signs.map fun l=>Value.string ⟨l.toArray⟩).toArray[i]?=some (.string ⟨x.toArray⟩):=by simp[hx]
    exact this
   generalize ZA:W.drewN n=Wn at*;have ZB:=hid ZA;have OZ:=hid Zz;clear ZA hx Zz;by_cases Ol:at_+x.length≤s.size
   ·have n1:=decide_eq_true (show((at_:Int)+(x.length:Int))≤(s.size:Int) by omega);have HT:=hid (GN Ol);cases hp:x.isPrefixOf (s.data.toList.drop at_)
    ·have HP:=hid hp;have t1:((s.extract at_ (at_+x.length)).toList==x)=false:=HT.out.trans hp;have jV:=fun W':World=>km s at_ (at_+x.length) (at_:Int) ((at_:Int)+(x.length:Int)) rfl (by omega) (by omega) Ol W'
     clear hp;go_wp2_with fail;go_quiet (fail);go_wp2_with fail;go_roundw;case rel=>
      refine⟨i+1,n+nq,by omega,by go_num,?_,?_⟩
      ·rw[← ZB.out];exact vL W n nq
      ·rw[Pb.out,OZ.out,jI,HP.out];rfl
     case measure=>simp[intOf];omega
    ·have HP:=hid hp;have t1:((s.extract at_ (at_+x.length)).toList==x)=true:=HT.out.trans hp;have jV:=fun W':World=>km s at_ (at_+x.length) (at_:Int) ((at_:Int)+(x.length:Int)) rfl (by omega) (by omega) Ol W'
     clear hp;go_wp2_with fail;go_quiet (fail);obtain⟨z0,z1,z2,z3,y0,y1,y2,y3⟩:=aZ (Zy.out.drewN nq);have bq:=Xu.trans ((ot Wn nq).mono Xu.size);have Xv:(Wn.drewN nq).cell? ⟨w.heap.size+1,i,none⟩=some (.string ⟨x.toArray⟩):=hcell;generalize Wn.drewN nq=Wq at*;clear hcell;go_wp2_with fail;refine bodyPost_ret (v:=.tuple #[.agg #[.int .u8 4,.string ⟨x.toArray⟩,.int .i64 0,.int .i64 at_],.int .i64 ((at_:Int)+(x.length:Int)),.int .i64 0]) ?_ rfl ?_
     ·simp[results,Tryz.results103,go_sem,z0,z1,z2,z3]
     ·have e1:jI signs (s.data.toList.drop at_)=some x:=by rw[Pb.out,OZ.out,jI,if_pos HP.out]
      rw[ou.out,e1];unfold tV;simp only;have e2:s.size - ((s.data.toList.drop at_).drop x.length).length=at_+x.length:=by rw[List.drop_drop,List.length_drop,HLEN.out];omega
      rw[e2];exact⟨rfl,rv bq (Nat.le_refl _) _ _ _ _⟩
   ·have n1:=decide_eq_false (show¬((at_:Int)+(x.length:Int))≤(s.size:Int) by omega);have HP:=hid (GQ Ol (by omega));go_wp2_with fail;go_quiet (fail);go_wp2_with fail;go_roundw;case rel=>
     refine⟨i+1,n+nq,by omega,by go_num,?_,?_⟩
     ·rw[← ZB.out];exact vL W n nq
     ·rw[Pb.out,OZ.out,jI,HP.out];rfl
    case measure=>simp[intOf];omega
  ·obtain rfl:i=15:=by omega
   obtain⟨z0,z1,z2,z3,y0,y1,y2,y3⟩:=aZ Zy.out;generalize W.drewN n=Wn at*;go_wp2_with fail;refine bodyPost_ret (v:=.tuple #[.agg #[.int .u8 0,.string ⟨#[]⟩,.int .i64 0,.int .i64 0],.int .i64 0,.int .i64 30]) ?_ rfl ?_
   ·simp[results,Tryz.results103,go_sem,z0,z1,z2,z3]
   ·rw[ou.out,Pb.out];exact⟨rfl,rv Xu (Nat.le_refl _) _ _ _ _⟩
theorem Nq (s:ByteArray)(at_:Nat)(w:World)(ha:at_ < s.size)(hs:s.size≤4294967280):
  Calls Tryz.prog 103 #[.string s,.int .i64 at_] w (tV s at_ w (gT (s.data.toList.drop at_))):=by
 cases hl:fx s[at_]
 ·cases hd:bz s[at_]
  ·by_cases hq:s[at_]=39
   ·exact Km s at_ w ha hl hd hq hs
   ·exact Kn s at_ w ha hl hd hq hs
  ·exact one_num s at_ w ha hl hd hs
 ·exact Kl s at_ w ha hl hs
def LX (n:Nat)(r:List UInt8):Except (Nat×Nat) (List Tok):=si n (n+1) r
def pre (acc:List Tok):Except (Nat×Nat) (List Tok)→Except (Nat×Nat) (List Tok)
 | .error e=> .error e
 | .ok l=> .ok (acc++l)
def Kp (n:Nat):Tok:=⟨⟨0,[],0⟩,n⟩
theorem sD (b:Bool)(r:List UInt8):cy false (cy b r)=cy b r:=by
 induction r generalizing b with
 | nil=>cases b <;> rfl
 | cons d r ih=>
   cases b with
   | true=>
     simp only[cy];split
     ·exact ih false
     ·exact ih true
   | false=>
     by_cases h1:nW d=true
     ·simp only[cy,if_pos h1];exact ih false
     ·by_cases h2:d=45∧r.head?=some 45
      ·simp only[cy,if_neg h1,if_pos h2];exact ih true
      ·have:cy false (d::r)=d::r:=by simp only[cy,if_neg h1,if_neg h2]
       rw[this,this]
theorem Fb (n:Nat)(r:List UInt8):LX n (cy false r)=LX n r:=by unfold LX;simp only[si];have:=sD false r;rw[this]
theorem QY {n:Nat} {r:List UInt8}(h:cy false r=[]):LX n r=.ok [Kp n]:=by unfold LX;simp only[si,h];rfl
theorem QZ {n:Nat} {r r':List UInt8} {c:UInt8} {e:Nat}(h:cy false r=c::r')(ho:gT (c::r')=.error e):LX n r=.error (n - (c::r').length,e):=by unfold LX;simp only[si,h,ho]
theorem Uu {n:Nat} {r r' rest:List UInt8} {c:UInt8} {w:Wd}(hr:r.length≤n)(h:cy false r=c::r')(ho:gT (c::r')=.ok (w,rest)):LX n r=pre [⟨w,n - (c::r').length⟩] (LX n rest):=by
 have h1:=uq ho;have h2:=jB false r;rw[h] at h2;unfold LX;conv=>lhs;unfold si
 simp only[h,ho];rw[xF n n (n+1) rest (by omega) (by omega)];cases si n (n+1) rest <;> rfl
theorem Nr (a b:List Tok)(x:Except (Nat×Nat) (List Tok)):pre a (pre b x)=pre (a++b) x:=by cases x <;> simp[pre]
theorem pre_nil (x:Except (Nat×Nat) (List Tok)):pre [] x=x:=by cases x <;> rfl
theorem Kq {r:List UInt8} {x:Nat}(h:gT r=.error x):x=2∨x=30:=by
 cases r with
 | nil=>simp[gT] at h;exact .inr h.symm
 | cons c r=>
   simp only[gT] at h;split at h
   ·split at h
    ·cases h
    ·injection h with h;exact .inl h.symm
   ·split at h
    ·split at h
     ·cases h
     ·injection h with h;exact .inr h.symm
    ·split at h
     ·split at h
      ·cases h
      ·injection h with h;exact .inr h.symm
     ·split at h
      ·cases h
      ·injection h with h;exact .inr h.symm
theorem Bg {r rest:List UInt8} {w:Wd}(h:gT r=.ok (w,rest)):rest <:+ r:=by obtain⟨b,hb,_⟩:=vq h;exact⟨b,hb.symm⟩
def ow (t:Tok):List Value:=[.int .u8 t.w.k,.string ⟨t.w.s.toArray⟩,.int .i64 t.w.n,.int .i64 t.p]
theorem Bh:(Tryz.prog.info? 116).map (fun i=>(i.zero,i.size,i.bytes))=some (some (.agg #[.int .u8 0,.string ⟨#[]⟩,.int .i64 0,.int .i64 0]),4,40):=by kernel_rfl
def Bi (w:World)(base:Nat)(v:Value)(l:List Tok):Prop:=aW ow 116 4 w base v l
def ry (s:ByteArray)(w:World)(e:Ending)(w':World):Prop:=
 match qm s.data.toList with
 | .error (p,x)=>e=.returned (.tuple #[.slice none 0 0,.int .i64 p,.int .i64 x])∧Below w.heap.size w w'
 | .ok l=>∃v,e=.returned (.tuple #[v,.int .i64 0,.int .i64 0])∧Bi w' w.heap.size v l∧Below w.heap.size w w'
theorem Kr {s:ByteArray}(h:4096 < s.size):qm s.data.toList=.error (0,2):=by unfold qm;rw[if_pos (by simpa using h)]
theorem Ns {s:ByteArray}(h:¬4096 < s.size):qm s.data.toList=LX s.size s.data.toList:=by
 unfold qm LX;have:s.data.toList.length=s.size:=by simp
 rw[this,if_neg h]
structure Ks (s:ByteArray) (w:World) (a:Nat) (v:Value) (acc:List Tok) (wr:World):Prop where
 Nj:Below w.heap.size w wr
 own:Bi wr w.heap.size v acc
 le:a≤s.size
 len:acc.length≤a
 skip:cy false (s.data.toList.drop a)=s.data.toList.drop a
 more:LX s.size s.data.toList=pre acc (LX s.size (s.data.toList.drop a))
theorem Kt (s:ByteArray)(w:World)(hs:s.size≤4294967280):Calls Tryz.prog 72 #[.string s] w (ry s w):=by
 by_cases Uv:4096 < s.size
 ·unfold ry;rw[Kr Uv];go_enter Tryz.func72,Tryz.ntmps72;go_wp2_with fail;go_ret3;exact⟨rfl,Below.refl _ _⟩
 ·have ZC:=hid (Ns Uv);have HLEN:=hid (show s.data.toList.length=s.size by simp);go_enter Tryz.func72,Tryz.ntmps72;go_wp2_with fail;refine(xO s 0 _ (Nat.zero_le _) hs).mono ?_;rintro e w1 ⟨rfl,rfl⟩;have hA:Ks s w (fp s 0) (.slice none 0 0) [] w:=by
   refine⟨Below.refl _ _,aW.nil,sy _ _,Nat.zero_le _,?_,?_⟩
   ·rw[lD];exact sD _ _
   ·rw[lD,Fb,pre_nil];rfl
  generalize fp s 0=a0 at*;have HA:=hid hA;clear hA;go_wp2_with fail;go_loopw [5,6] (fun x y wr=>∃(a:Nat) (acc:List Tok) (u:Value),x=u∧y=.int .i64 a∧Ks s w a u acc wr) (fun _ y _=>s.size - (intOf y).toNat);case atStart=>exact⟨a0,[],_,rfl,rfl,HA.out⟩
  case round=>
   obtain⟨a,acc,u,hu,rfl,hA⟩:=hrel;have Xw:=hu.symm;clear hu;subst Xw;have Ra:=hA.Nj.size;have sB:=hA.len;have U2:=hA.le;have Gw:=hid hA;clear hA;by_cases ha:a < s.size
   ·go_wp2_with fail;refine(Nq s a _ ha hs).mono ?_;intro e w2 hp;have HB:=hid (eM s a ha);rcases hres:gT (s.data.toList.drop a)with x |⟨d,rest⟩
    ·rw[hres] at hp;obtain⟨rfl,hb⟩:=hp;have hx:=Kq hres;have ox:=hid hres;have n1:((x:Int)==0)=false:=by rcases hx with rfl | rfl <;> rfl
     have n2:((x:Int) != 0)=true:=by rcases hx with rfl | rfl <;> rfl
     have n3:¬((x:Int)=0):=by omega
     clear hres;go_wp2_with fail;go_ret3;unfold ry;rw[ZC.out,Gw.out.more,QZ (by rw[Gw.out.skip];exact cB HB.out) (by rw[← cB HB.out];exact ox.out)];have e1:s.size - (s[a]::s.data.toList.drop (a+1)).length=a:=by rw[← cB HB.out,List.length_drop,HLEN.out];omega
     rw[e1];exact⟨rfl,Gw.out.Nj.trans ((hb.mono Ra).trans ((aa w2 _).mono (by have:=hb.size;omega)))⟩
    ·rw[hres] at hp;obtain⟨rfl,hb⟩:=hp;have ox:=hid hres;clear hres;have bW:=((Below.refl w2.heap.size w2).alloc (Nat.le_refl _) (.cells (ow ⟨d,a⟩).toArray 116)).alloc (by simp) (.cells (ow ⟨d,a⟩).toArray 116);have hown:Bi w2 w.heap.size u acc:=Gw.out.own.later hb;have HO:=hid (hown.later bW);have hG:ah ((w2.alloc (.cells (ow ⟨d,a⟩).toArray 116)).alloc (.cells (ow ⟨d,a⟩).toArray 116)) (w2.heap.size+1) 116 (ow ⟨d,a⟩).toArray:=by have:=ah.new (w2.alloc (.cells (ow ⟨d,a⟩).toArray 116)) 116 (ow ⟨d,a⟩).toArray;simpa using this
     have HG:=hid hG;have Uw:Below w.heap.size w ((w2.alloc (.cells (ow ⟨d,a⟩).toArray 116)).alloc (.cells (ow ⟨d,a⟩).toArray 116)):=Gw.out.Nj.trans ((hb.mono Ra).trans (bW.mono (by have:=hb.size;omega)));have vN:=hid Uw;clear hown hG Uw bW hb;have Rb:rest <:+ s.data.toList:=(Bg ox.out).trans (List.drop_suffix _ _);have hq:s.data.toList.drop (s.size - rest.length)=rest:=by have:=drop_suffix Rb;rwa [HLEN.out] at this
     have K7:rest.length < s.size - a:=by have:=uq ox.out;rwa [List.length_drop,HLEN.out] at this
     have HQ:=hid hq;have K8:s.size - rest.length≤fp s (s.size - rest.length):=by unfold fp;rw[HQ.out];have:=jB false rest;omega
     clear hq Rb;unfold ow at HG HO vN;go_wp2_with (first
      |(at_builtin
        refine ew rfl (.tmp 30) (.tmp 32) 107 rfl _ 40 Tryz.underlying107 Bh rfl (by omega) ⟨d,a⟩ rfl (by simp[ow,Value.oneCell']) rfl HO.out (w2.heap.size+1) rfl HG.out (by omega) (by omega) vN.out.size ?_
        intro v2 w3 o2 g2
        have b2:=iU HO.out g2 vN.out.size
        have O2:=hid o2
        have B2:=hid (vN.out.trans b2)
        clear o2 g2 HO HG b2 vN))
     refine(xO s (s.size - rest.length) _ (Nat.sub_le _ _) hs).mono ?_;rintro e w4 ⟨rfl,rfl⟩;go_wp2_with fail;go_roundw;case rel=>
      refine⟨fp s (s.size - rest.length),acc++ [Tok.mk d a],v2,rfl,rfl,B2.out,O2.out,sy _ _,?_,?_,?_⟩
      ·rw[List.length_append,List.length_singleton];omega
      ·rw[lD];exact sD _ _
      ·have e1:s.size - (s[a]::s.data.toList.drop (a+1)).length=a:=by rw[← cB HB.out,List.length_drop,HLEN.out];omega
       rw[Gw.out.more,Uu (by rw[List.length_drop,HLEN.out];omega) (by rw[Gw.out.skip];exact cB HB.out) (by rw[← cB HB.out];exact ox.out),e1,Nr,lD,Fb,HQ.out]
     case measure=>have:=sy s (s.size - rest.length);simp[intOf];omega
   ·have hnil:s.data.toList.drop a=[]:=List.drop_eq_nil_of_le (by rw[HLEN.out];omega);have QX:=hid hnil;clear hnil;have bW:=(Below.refl wr.heap.size wr).alloc (Nat.le_refl _) (.cells (ow (Kp s.size)).toArray 116);have HO:=hid (Gw.out.own.later bW);have HG:=hid (ah.new wr 116 (ow (Kp s.size)).toArray);have vN:=hid (Gw.out.Nj.trans (bW.mono Ra));clear bW;unfold ow Kp at HG HO vN;go_wp2_with (first
     |(at_builtin
       refine ew rfl (.tmp 37) (.tmp 41) 107 rfl _ 40 Tryz.underlying107 Bh rfl (by omega) (Kp s.size) rfl (by simp[ow,Value.oneCell']) rfl HO.out wr.heap.size rfl HG.out (by omega) (by omega) vN.out.size ?_
       intro v2 w3 o2 g2
       have b2:=iU HO.out g2 vN.out.size
       have O2:=hid o2
       have B2:=hid (vN.out.trans b2)
       clear o2 g2 HO HG b2 vN))
    go_ret3;unfold ry;rw[ZC.out,Gw.out.more,QX.out,QY rfl];exact⟨v2,rfl,O2.out,B2.out⟩
theorem Fc (t:Tok):(ow t).length=4:=rfl
theorem Bi.at_ {w:World} {base:Nat} {v:Value} {l:List Tok}(h:Bi w base v l) {k:Nat} {t:Tok}(hk:l[k]?=some t):
  ∃g c,v=.slice (some ⟨g,0,none⟩) l.length c∧g < w.heap.size∧w.cell? ⟨g,k*4,none⟩=some (.int .u8 t.w.k)∧w.cell? ⟨g,k*4+1,none⟩=some (.string ⟨t.w.s.toArray⟩)∧w.cell? ⟨g,k*4+2,none⟩=some (.int .i64 t.w.n)∧w.cell? ⟨g,k*4+3,none⟩=some (.int .i64 t.p):=by
 obtain⟨g,c,hv,_,hlt,hc⟩:=aW.cell Fc h hk;exact⟨g,c,hv,hlt,hc 0 _ rfl,hc 1 _ rfl,hc 2 _ rfl,hc 3 _ rfl⟩
theorem Bi.cells {w:World} {base:Nat} {A:Option Addr} {n c:Nat} {l:List Tok}(h:Bi w base (.slice A n c) l)(hne:l≠ []):
  ∃g,A=some ⟨g,0,none⟩∧base≤g∧g < w.heap.size∧∀k t,l[k]?=some t→w.cell? ⟨g,k*4,none⟩=some (.int .u8 t.w.k)∧w.cell? ⟨g,k*4+1,none⟩=some (.string ⟨t.w.s.toArray⟩)∧w.cell? ⟨g,k*4+2,none⟩=some (.int .i64 t.w.n)∧w.cell? ⟨g,k*4+3,none⟩=some (.int .i64 t.p):=by
 match l,hne with
 | t0::l,_=>obtain⟨g,c0,hv,hb,hlt,_⟩:=aW.cell Fc h (k:=0) (x:=t0) rfl;injection hv with hA _ _;refine⟨g,hA,hb,hlt,fun k t hk=>?_⟩;obtain⟨g',c',hv',_,a⟩:=h.at_ hk;injection hv' with hA' _ _;rw[hA] at hA';injection hA' with hA';injection hA' with hg _ _;subst hg;exact a
structure cu where
 g:Nat
 gl:Nat
 c:Nat
 GR:List Tok
def cu.n (ρ:cu):Nat:=ρ.GR.length
def cu.ws (ρ:cu):fA:=ρ.GR.map (·.w)
def cu.bad (ρ:cu):aF→Int
 | .good _=> -1
 | .bad m=>(ρ.n:Int) - m
def cu.cells (ρ:cu)(σ:aF)(big:Bool):Array Value:= #[.slice (some ⟨ρ.gl,0,none⟩) ρ.n ρ.c,.int .i64 ((ρ.n:Int) - σ.left),.int .i64 (ρ.bad σ),.bool big]
structure cu.at (ρ:cu) (w:World) (σ:aF) (big:Bool):Prop where
 blk:ah w ρ.g 112 (ρ.cells σ big)
 lt:ρ.gl < ρ.g
 cell:∀k t,ρ.GR[k]?=some t→w.cell? ⟨ρ.gl,k*4,none⟩=some (.int .u8 t.w.k)∧w.cell? ⟨ρ.gl,k*4+1,none⟩=some (.string ⟨t.w.s.toArray⟩)∧w.cell? ⟨ρ.gl,k*4+2,none⟩=some (.int .i64 t.w.n)∧w.cell? ⟨ρ.gl,k*4+3,none⟩=some (.int .i64 t.p)
 of:σ.of ρ.ws
 small:ρ.n≤5000
 Ku:∀t∈ρ.GR,0≤t.w.n∧t.w.n≤9223372036854775807
section
variable {ρ:cu} {w w':World} {σ:aF} {big:Bool}
theorem cu.at.later (h:ρ.at w σ big)(hb:Below w.heap.size w w'):ρ.at w' σ big:=
 ⟨h.blk.later hb,h.lt,fun k t hk=>by
   have hl:ρ.gl < w.heap.size:=Nat.lt_trans h.lt h.blk.lt
   have c:=fun o=>hb.cell (p:=⟨ρ.gl,o,none⟩) hl
   obtain⟨h1,h2,h3,h4⟩:=h.cell k t hk
   exact⟨(c _).trans h1,(c _).trans h2,(c _).trans h3,(c _).trans h4⟩,h.of,h.small,h.Ku⟩
theorem cu.at.qJ (h:ρ.at w σ big):ρ.g < w.heap.size:=h.blk.lt
theorem cu.at.set {bw:aF} {Ds:Bool}(h:ρ.at w σ big)(hw:ah w' ρ.g 112 (ρ.cells bw Ds))(hg:w.grownBy w' (some ρ.g))(ho:bw.of ρ.ws):ρ.at w' bw Ds:=
 ⟨hw,h.lt,fun k t hk=>by
   have hl:ρ.gl < w.heap.size:=Nat.lt_trans h.lt h.blk.lt
   have c:=cell_of_heap (hg.block ρ.gl hl (fun e=>by injection e with e;have:=h.lt;omega))
   obtain⟨h1,h2,h3,h4⟩:=h.cell k t hk
   exact⟨(c _).trans h1,(c _).trans h2,(c _).trans h3,(c _).trans h4⟩,ho,h.small,h.Ku⟩
theorem cu.at.left (h:ρ.at w σ big):0 < σ.left∧σ.left≤ρ.n:=by have:=aF.Dm h.of;simpa [cu.ws,cu.n] using this
theorem cu.at.far {q:Nat}(h:ρ.at w σ big)(hq:ρ.g < q)(i:Nat)(u:Value):ρ.at (w.setCell ⟨q,i,none⟩ u) σ big:=
 ⟨h.blk.far (p:=⟨q,i,none⟩) (by simp;omega) u,h.lt,fun k t hk=>by
   have c:=cell_of_heap (Below.heap_setCell w ⟨q,i,none⟩ u ρ.gl (by have:=h.lt;simp;omega))
   obtain⟨h1,h2,h3,h4⟩:=h.cell k t hk
   exact⟨(c _).trans h1,(c _).trans h2,(c _).trans h3,(c _).trans h4⟩,h.of,h.small,h.Ku⟩
theorem cu.at.next (h:ρ.at w σ big):∃t:Tok,ρ.GR[ρ.n - σ.left]?=some t∧(∀l,σ=.good l→∃r,l=t.w::r):=by
 obtain⟨h1,h2⟩:=h.left;have hlt:ρ.n - σ.left < ρ.GR.length:=by unfold cu.n at*;omega
 refine⟨_,List.getElem?_eq_getElem hlt,?_⟩;rintro l rfl;obtain⟨t,r,hl,hk⟩:=aF.of_next h.of;refine⟨r,?_⟩;have e:ρ.ws.length - l.length=ρ.n - (aF.good l).left:=by simp[cu.ws,cu.n,aF.left]
 rw[e] at hk;unfold cu.ws at hk;rw[List.getElem?_map,List.getElem?_eq_getElem hlt] at hk;simp only[Option.map_some] at hk;injection hk with hk;rw[hk];exact hl
end
structure dz (ρ:cu) (W w':World) (bw:aF) (Ds:Bool):Prop where
 at_:ρ.at w' bw Ds
 grown:W.grownBy w' (some ρ.g)
section
variable {ρ:cu} {W w w':World} {σ bw:aF} {big Ds:Bool}
theorem dz.refl (h:ρ.at w σ big):dz ρ w w σ big:=⟨h,eU (Below.refl _ _)⟩
theorem dz.bH (h:ρ.at w σ big)(hb:Below w.heap.size w w'):dz ρ w w' σ big:=⟨h.later hb,eU hb⟩
theorem dz.later (h:dz ρ W w σ big)(hb:Below w.heap.size w w'):dz ρ W w' σ big:=⟨h.at_.later hb,oq h.grown (eU hb)⟩
theorem dz.trans (h:dz ρ W w σ big)(k:dz ρ w w' bw Ds):dz ρ W w' bw Ds:=⟨k.at_,oq h.grown k.grown⟩
theorem dz.lt (h:dz ρ W w σ big):ρ.g < w.heap.size:=h.at_.qJ
theorem dz.size (h:dz ρ W w σ big):W.heap.size≤w.heap.size:=h.grown.size
theorem dz.far {q:Nat}(h:dz ρ W w σ big)(hW:ρ.g < W.heap.size)(hq:W.heap.size≤q)(i:Nat)(u:Value):dz ρ W (w.setCell ⟨q,i,none⟩ u) σ big:=by
 refine⟨h.at_.far (by omega) i u,h.grown.os,h.grown.tape,h.grown.output,?_,fun k hk K9=>?_⟩
 ·have:(w.setCell ⟨q,i,none⟩ u).heap.size=w.heap.size:=by simp[World.setCell]
  rw[this];exact h.grown.size
 ·rw[Below.heap_setCell w ⟨q,i,none⟩ u k (by simp;omega)];exact h.grown.block k hk K9
theorem dz.blk {q:Nat} {t:TypeId} {cs:Array Value}(h:dz ρ W w σ big)(hq:ah W q t cs)(hg:q≠ρ.g):ah w q t cs:=hq.grown h.grown fun e=>hg (by injection e)
end
theorem oP {s:List UInt8} {σ:aF}(h:σ.head s=true):∃t r,σ=.good (t::r)∧kW s t=true:=by
 match σ with
 | .bad n=>simp[aF.head,aF.words,bQ] at h
 | .good l=>obtain⟨t,r,e,ht⟩:=fU (s:=s) (l:=l) h;exact⟨t,r,by rw[e],ht⟩
theorem je {s:List UInt8} {σ:aF}(h:σ.head s=true):(aF.good σ.words.tail).left=σ.left - 1∧0 < σ.left∧σ.left=σ.words.tail.length+1:=by obtain⟨t,r,rfl,_⟩:=oP h;simp[aF.left,aF.words]
theorem az {s:List UInt8} {σ:aF}(h:σ.head s=true):af (may s) σ=.good σ.words.tail:=by rw[Bb,h];rfl
theorem av {s:List UInt8} {σ:aF}(h:σ.head s=false):af (may s) σ=σ:=by rw[Bb,h];rfl
theorem kR {s:List UInt8} {σ:aF}(h:σ.head s=true):af (must s) σ=.good σ.words.tail:=by rw[xL,h];rfl
theorem tW {s:List UInt8} {σ:aF}(h:σ.head s=false):af (must s) σ=.bad σ.left:=by rw[xL,h];rfl
def lG:List (List UInt8)→Ps Unit
 | []=>pure ()
 | s::ks=>do must s;lG ks
theorem vO:∀ks,bX (lG ks)
 | []=>aY _
 | s::ks=>aQ (aK s) fun _=>vO ks
theorem qu (s:List UInt8)(ks:List (List UInt8))(σ:aF):af (lG (s::ks)) σ=af (lG ks) (af (must s) σ):=ay (x:=()) (bF _ _)
theorem oy (σ:aF):af (lG []) σ=σ:=bs _ _
theorem br (s:List UInt8)(σ:aF):af (lG [s]) σ=af (must s) σ:=by rw[qu,oy]
theorem Ux (s:List UInt8)(ks:List (List UInt8))(σ:aF):af (ri (s::ks)) σ=if σ.head s then .good σ.words.tail else af (ri ks) σ:=by
 match σ with
 | .bad n=>rfl
 | .good l=>
   simp only[af,ri,aF.head,aF.words];by_cases h:bQ s l=true
   ·simp only[h,if_true]
   ·simp only[h];rfl
theorem oQ (t:Wd)(r:fA):af bE (.good (t::r))=if t.k=1∧wV t.s=false then .good r else .bad (r.length+1):=by
 simp only[af,bE];by_cases h:t.k=1∧wV t.s=false
 ·simp only[h,and_self,if_true]
 ·simp only[h,if_false];rfl
theorem Dt (t:Wd)(r:fA):au bE (.good (t::r)) ⟨t.s.toArray⟩:=by
 simp only[au,bE];by_cases h:t.k=1∧wV t.s=false
 ·simp only[h,and_self,if_true]
 ·simp only[h,if_false]
theorem Bj (t:Wd)(r:fA):af gu (.good (t::r))=if t.k=2 then .good r else .bad (r.length+1):=by
 simp only[af,gu];by_cases h:t.k=2
 ·simp only[h,if_true]
 ·simp only[h,if_false];rfl
theorem GU (t:Wd)(r:fA):au gu (.good (t::r)) t.n:=by
 simp only[au,gu];by_cases h:t.k=2
 ·simp only[h,if_true]
 ·simp only[h,if_false]
theorem kn {α:Type} {p:Ps α} {σ:aF} {n:Nat}(h:af p σ=.bad n)(x:α):au p σ x:=by
 match σ with
 | .bad m=>trivial
 | .good l=>
   simp only[af,au] at h ⊢;cases e:p l with
   | error m=>trivial
   | ok y=>obtain⟨y,r⟩:=y;rw[e] at h;cases h
section
variable {s:List UInt8} {op:Int} {same below:Ps Tr} {σ:aF} {x:Tr}
theorem pL (h:σ.head s=false):af (Df s op same below) σ=af below σ:=by unfold Df;rw[ay (aG s σ),h,av h];rfl
theorem oz (h:σ.head s=false)(k:au below σ x):au (Df s op same below) σ x:=by refine aj (aG s σ) ?_;rw[h,av h];exact k
theorem rA (h:σ.head s=true):af (Df s op same below) σ=af same (.good σ.words.tail):=by
 unfold Df;rw[ay (aG s σ),h,az h];show af (same >>= fun x=>pure (gH op [x])) _=_;generalize (aF.good σ.words.tail)=τ
 match τ with
 | .bad n=>rfl
 | .good l=>
   simp only[af,ee];cases same l with
   | error n=>rfl
   | ok y=>rfl
theorem pM (h:σ.head s=true)(k:au same (.good σ.words.tail) x):au (Df s op same below) σ (gH op [x]):=by refine aj (aG s σ) ?_;rw[h,az h];exact aj k (aT _ _)
end
def cu.ptr (ρ:cu):Value:=.pointer (some ⟨ρ.g,0,none⟩)
theorem cu.at.facts {ρ:cu} {w:World} {σ:aF} {big:Bool}(h:ρ.at w σ big):
  w.cell? ⟨ρ.g,0,none⟩=some (.slice (some ⟨ρ.gl,0,none⟩) ρ.n ρ.c)∧w.cell? ⟨ρ.g,1,none⟩=some (.int .i64 ((ρ.n:Int) - σ.left))∧w.cell? ⟨ρ.g,2,none⟩=some (.int .i64 (ρ.bad σ))∧w.cell? ⟨ρ.g,3,none⟩=some (.bool big)∧
  w.frozen? ⟨ρ.g,1,none⟩=false∧w.frozen? ⟨ρ.g,2,none⟩=false∧w.frozen? ⟨ρ.g,3,none⟩=false:=
 ⟨h.blk.cell 0,h.blk.cell 1,h.blk.cell 2,h.blk.cell 3,h.blk.frozen 1,h.blk.frozen 2,h.blk.frozen 3⟩
theorem cu.at.place {ρ:cu} {w:World} {σ:aF} {big:Bool}(h:ρ.at w σ big):((ρ.n:Int) - σ.left)=((ρ.n - σ.left:Nat):Int):=by have:=h.left;omega
theorem cu.at.zm {ρ:cu} {w:World} {σ:aF} {big:Bool}(h:ρ.at w σ big):decide (ρ.bad σ < 0)=σ.dN:=by
 have hl:=h.left
 match σ,hl with
 | .bad m,hl=>have e:ρ.bad (.bad m)=(ρ.n:Int) - m:=rfl;have e2:(aF.bad m).left=m:=rfl;rw[e2] at hl;rw[e];simp only[aF.dN,decide_eq_false_iff_not];omega
 | .good l,_=>rfl
theorem Kv {s:ByteArray} {t:Wd}:kW s.data.toList t=((t.k==1 || t.k==4)&&(t.s==s.toList)):=by unfold kW;rw[ByteArray.toList_eq]
def jD:Obj:=.cells #[.int .u8 0,.string ⟨#[]⟩,.int .i64 0,.int .i64 0] 116
def cm (t:Tok):Array Value:= #[.int .u8 t.w.k,.string ⟨t.w.s.toArray⟩,.int .i64 t.w.n,.int .i64 t.p]
structure Nt (ρ:cu) (w:World) (t:Tok) (pl:Nat) (bd:Int):Prop where
 c0:w.cell? ⟨ρ.g,0,none⟩=some (.slice (some ⟨ρ.gl,0,none⟩) ρ.n ρ.c)
 c1:w.cell? ⟨ρ.g,1,none⟩=some (.int .i64 pl)
 c2:w.cell? ⟨ρ.g,2,none⟩=some (.int .i64 bd)
 d0:w.cell? ⟨ρ.gl,pl*4,none⟩=some (.int .u8 t.w.k)
 d1:w.cell? ⟨ρ.gl,pl*4+1,none⟩=some (.string ⟨t.w.s.toArray⟩)
 d2:w.cell? ⟨ρ.gl,pl*4+2,none⟩=some (.int .i64 t.w.n)
 d3:w.cell? ⟨ρ.gl,pl*4+3,none⟩=some (.int .i64 t.p)
theorem Nt.later {ρ:cu} {w w':World} {t:Tok} {pl:Nat} {bd:Int}(h:Nt ρ w t pl bd)(hb:Below w.heap.size w w'):Nt ρ w' t pl bd:=by obtain⟨h0,h1,h2,h3,h4,h5,h6⟩:=h;exact⟨(hb.cell (ji h0)).trans h0,(hb.cell (ji h1)).trans h1,(hb.cell (ji h2)).trans h2,(hb.cell (ji h3)).trans h3,(hb.cell (ji h4)).trans h4,(hb.cell (ji h5)).trans h5,(hb.cell (ji h6)).trans h6⟩
theorem cu.at.mY {ρ:cu} {w:World} {σ:aF} {big:Bool}(h:ρ.at w σ big):∃(t:Tok) (pl:Nat) (bd:Int),pl=ρ.n - σ.left∧pl < ρ.n∧ρ.n≤5000∧bd=ρ.bad σ∧decide (bd < 0)=σ.dN∧(∀l,σ=.good l→∃r,l=t.w::r)∧0≤t.w.n∧t.w.n≤9223372036854775807∧Nt ρ w t pl bd:=by obtain⟨t,ht,hg⟩:=h.next;obtain⟨d0,d1,d2,d3⟩:=h.cell _ t ht;obtain⟨c0,c1,c2,c3,f1,f2,f3⟩:=h.facts;have hl:=h.left;rw[h.place] at c1;have hn:=h.Ku t (List.mem_of_getElem? ht);exact⟨t,_,_,rfl,by omega,h.small,rfl,h.zm,hg,hn.1,hn.2,c0,c1,c2,d0,d1,d2,d3⟩
theorem jf (ρ:cu)(w:World)(σ:aF)(big:Bool)(h:ρ.at w σ big)(s:ByteArray):
  Calls Tryz.prog 104 #[ρ.ptr,.string s] w fun e w'=>e=.returned (.bool (σ.head s.data.toList))∧Below w.heap.size w w':=by
 obtain⟨t,pl,bd,hpl,hlt,hsm,lV,aX,hg,wI,uN,hp⟩:=h.mY;have sF:=hp.later (aa w jD);have tX:=hp.later ((aa w (.cells (cm t) 116)).drew);have ZE:σ.head s.data.toList=(decide (bd < 0)&&((t.w.k==1 || t.w.k==4)&&(t.w.s==s.toList))):=by
  rw[aX]
  match σ with
  | .bad m=>rfl
  | .good l=>obtain⟨r,rfl⟩:=hg l rfl;rw[← Kv];rfl
 have vP:=hid ZE;have hb:=(aa w (.cells (cm t) 116)).drew;have HT:=(ah.new w 116 (cm t)).drew;clear ZE hpl hg aX lV h;unfold cu.ptr;generalize σ.head s.data.toList=R at*;obtain⟨c0,c1,c2,d0,d1,d2,d3⟩:=hp;obtain⟨y0,y1,y2,z0,z1,z2,z3⟩:=sF;obtain⟨x0,x1,x2,v0,v1,v2,v3⟩:=tX;unfold jD at y0 y1 y2 z0 z1 z2 z3;go_enter Tryz.func104,Tryz.ntmps104;go_wp2_with fail;go_region;clear c0 c1 c2 d0 d1 d2 d3 y0 y1 y2 z0 z1 z2 z3 x0 x1 v0 v1 v2 v3;obtain⟨u0,u1,u2,u3,_⟩:=aZ HT;unfold cm at x2 u0 u1 u2 u3 hb;generalize (w.alloc _).drew=W at*;go_wp2_with fail;all_goals
  go_ret;refine⟨kP ?_,hb⟩;rw[vP.out];generalize (t.w.s==s.toList)=X;cases X <;> rw[Bool.eq_iff_iff] <;> simp <;> omega
def Bk (ρ:cu)(W:World)(bw:aF)(big:Bool)(e:Ending)(w':World):Prop:=e=.returned (.tuple #[])∧dz ρ W w' bw big
theorem kS (ρ:cu)(w:World)(σ:aF)(big:Bool)(h:ρ.at w σ big):
  Calls Tryz.prog 75 #[ρ.ptr] w (Bk ρ w (.bad σ.left) big):=by
 obtain⟨c0,c1,c2,c3,f1,f2,f3⟩:=h.facts;have Bl:=h.left;have aX:=h.zm;have FK:aF.of ρ.ws (.bad σ.left):=⟨(aF.Dm h.of).1,(aF.Dm h.of).2⟩;unfold cu.ptr;by_cases hg:ρ.bad σ < 0
 ·have hB:=ah.cn h.blk 2 (.int .i64 ((ρ.n:Int) - σ.left));go_enter Tryz.func75,Tryz.ntmps75;go_wp2_with fail;go_end0;exact⟨rfl,h.set hB (mv (eU (Below.refl _ _)) 2 _) FK,mv (eU (Below.refl _ _)) 2 _⟩
 ·have lV:σ=.bad σ.left:=by
   match σ with
   | .bad m=>rfl
   | .good l=>exact absurd (by show(-1:Int)< 0;decide) hg
  have L0:=hid lV;clear lV;go_enter Tryz.func75,Tryz.ntmps75;go_wp2_with fail;go_end0;rw[← L0.out];exact⟨rfl,dz.refl h⟩
theorem cu.at.step {ρ:cu} {w:World} {l:fA} {t:Wd} {big:Bool}(h:ρ.at w (.good (t::l)) big)(ht:t.k≠0):
  dz ρ w (w.setCell ⟨ρ.g,1,none⟩ (.int .i64 ((ρ.n:Int) - l.length))) (.good l) big:=by
 have hB:=ah.cn h.blk 1 (.int .i64 ((ρ.n:Int) - l.length));refine⟨h.set hB (mv (eU (Below.refl _ _)) 1 _) ⟨?_,h.of.2.tail ht⟩,mv (eU (Below.refl _ _)) 1 _⟩;exact(List.suffix_cons _ _).trans h.of.1
theorem cT (ρ:cu)(w:World)(σ:aF)(big:Bool)(h:ρ.at w σ big)(s:ByteArray):
  Calls Tryz.prog 74 #[ρ.ptr,.string s] w fun e w'=>e=.returned (.bool (σ.head s.data.toList))∧dz ρ w w' (af (may s.data.toList) σ) big:=by
 have hw:=jf ρ w σ big h s;have Du:ρ.ptr=.pointer (some ⟨ρ.g,0,none⟩):=rfl;cases hh:σ.head s.data.toList
 ·rw[hh] at hw;rw[av hh];go_enter Tryz.func74,Tryz.ntmps74;go_wp2_with (go_at_call 104;refine hw.mono ?_;rintro e w1 ⟨rfl,b1⟩);go_ret;exact⟨rfl,dz.bH h b1⟩
 ·rw[hh] at hw;obtain⟨t,r,rfl,ht⟩:=oP hh;rw[az hh];go_enter Tryz.func74,Tryz.ntmps74;have HH:=hid h;have HK:=hid (tC ht);have hsm:=h.small;clear ht hh h;go_wp2_with (go_at_call 104;refine hw.mono ?_;rintro e w1 ⟨rfl,b1⟩;obtain⟨c0,c1,c2,c3,f1,f2,f3⟩:=(HH.out.later b1).facts;have Bl:=(HH.out.later b1).left;have e1:(ρ.n:Int) - (aF.good (t::r)).left+1=(ρ.n:Int) - r.length:=by(simp[aF.left];omega));go_ret;have hd:=cu.at.step (HH.out.later b1) HK.out;exact⟨rfl,(dz.bH HH.out b1).trans hd⟩
theorem GV {pl n k:Nat}(h:pl=n - k)(hk:k≤n):(n:Int) - k=pl:=by omega
theorem xP (ρ:cu)(w:World)(σ:aF)(big:Bool)(h:ρ.at w σ big):
  Calls Tryz.prog 130 #[ρ.ptr] w fun e w'=>∃x:Int,0≤x∧x≤9223372036854775807∧e=.returned (.int .i64 x)∧dz ρ w w' (af gu σ) big∧au gu σ x:=by
 obtain⟨t,pl,bd,hpl,hlt,hsm,lV,aX,hg,wI,uN,hp⟩:=h.mY;have sF:=hp.later (aa w jD);have tX:=hp.later ((aa w (.cells (cm t) 116)).drew);have hb:=(aa w (.cells (cm t) 116)).drew;have HT:=(ah.new w 116 (cm t)).drew;have HB:=hid HT;have HF:=hid (h.later hb);have HD:=hid (dz.bH h hb);have sG:=(h.later hb).facts.2.2.2.2.1;have Du:ρ.ptr=.pointer (some ⟨ρ.g,0,none⟩):=rfl;have hwr:=kS ρ _ σ big (h.later hb);have Bl:=h.left;have cU:=h.qJ;clear h;obtain⟨c0,c1,c2,d0,d1,d2,d3⟩:=hp;obtain⟨y0,y1,y2,z0,z1,z2,z3⟩:=sF;obtain⟨x0,x1,x2,v0,v1,v2,v3⟩:=tX;unfold jD at y0 y1 y2 z0 z1 z2 z3;have Rc:=hid hwr;have Bn:=hid hpl;have HG:=hid hg;have lH:=hid aX;clear hwr hpl hg aX lV;rw[Du];go_enter Tryz.func130,Tryz.ntmps130;go_wp2_with fail;go_region;clear c0 c1 c2 d0 d1 d2 d3 y0 y1 y2 z0 z1 z2 z3 x0 v0 v1 v2 v3;obtain⟨u0,u1,u2,u3,_⟩:=aZ HT;clear HT;unfold cm at u0 u1 u2 u3 hb x1 x2 sG HF Rc HB HD;generalize (w.alloc _).drew=W at*;have hwr:=Rc.out;clear Rc;rw[Du] at hwr;by_cases qw:bd < 0
 ·obtain⟨l,rfl⟩:∃l,σ=.good l:=by
   match σ,lH.out with
   | .good l,_=>exact⟨l,rfl⟩
   | .bad m,aX=>simp[aF.dN] at aX;omega
  obtain⟨r,rfl⟩:=HG.out l rfl;have e1:(pl:Int)+1=(ρ.n:Int) - r.length:=by rw[Bn.out];simp only[aF.left,List.length_cons] at*;omega
  by_cases hk:t.w.k=2
  ·have hd:=cu.at.step HF.out (show t.w.k≠0 by omega);have s2:(W.setCell ⟨ρ.g,1,none⟩ (.int .i64 ((ρ.n:Int) - r.length))).cell? ⟨w.heap.size,2,none⟩=some (.int .i64 t.w.n):=(HB.out.far (p:=⟨ρ.g,1,none⟩) (by simp;omega) _).cell 2;go_wp2_with fail;go_ret;refine⟨t.w.n,wI,uN,rfl,?_,GU _ _⟩;rw[Bj,if_pos hk];exact HD.out.trans hd
  ·have g1:((t.w.k:Int) != 2)=true:=by simp;omega
   go_wp2_with (go_at_call 75;refine hwr.mono ?_;rintro e w1 ⟨rfl,d1⟩);go_ret;have e3:af gu (.good (t.w::r))=.bad (r.length+1):=by rw[Bj,if_neg hk]
   refine⟨0,by omega,by omega,rfl,?_,kn e3 _⟩;rw[e3];exact HD.out.trans d1
 ·obtain⟨m,rfl⟩:∃m,σ=.bad m:=by
   match σ,lH.out with
   | .good l,aX=>simp[aF.dN] at aX;omega
   | .bad m,_=>exact⟨m,rfl⟩
  go_wp2_with (go_at_call 75;refine hwr.mono ?_;rintro e w1 ⟨rfl,d1⟩);go_ret;refine⟨0,by omega,by omega,rfl,?_,su _ _ _⟩;exact HD.out.trans d1
theorem oT (ρ:cu)(w:World)(σ:aF)(big:Bool)(h:ρ.at w σ big):
  Calls Tryz.prog 108 #[ρ.ptr] w fun e w'=>∃x:ByteArray,e=.returned (.string x)∧dz ρ w w' (af bE σ) big∧au bE σ x:=by
 obtain⟨t,pl,bd,hpl,hlt,hsm,lV,aX,hg,wI,uN,hp⟩:=h.mY;have sF:=hp.later (aa w jD);have tX:=hp.later ((aa w (.cells (cm t) 116)).drew);have hb:=(aa w (.cells (cm t) 116)).drew;have HT:=(ah.new w 116 (cm t)).drew;have HB:=hid HT;have HF:=hid (h.later hb);have HD:=hid (dz.bH h hb);have sG:=(h.later hb).facts.2.2.2.2.1;have Du:ρ.ptr=.pointer (some ⟨ρ.g,0,none⟩):=rfl;have hwr:=kS ρ _ σ big (h.later hb);have Bl:=h.left;have cU:=h.qJ;clear h;obtain⟨c0,c1,c2,d0,d1,d2,d3⟩:=hp;obtain⟨y0,y1,y2,z0,z1,z2,z3⟩:=sF;obtain⟨x0,x1,x2,v0,v1,v2,v3⟩:=tX;unfold jD at y0 y1 y2 z0 z1 z2 z3;have Rc:=hid hwr;have Bn:=hid hpl;have HG:=hid hg;have lH:=hid aX;clear hwr hpl hg aX lV;rw[Du];go_enter Tryz.func108,Tryz.ntmps108;go_wp2_with fail;go_region;clear c0 c1 c2 d0 d1 d2 d3 y0 y1 y2 z0 z1 z2 z3 x0 v0 v1 v2 v3;obtain⟨u0,u1,u2,u3,_⟩:=aZ HT;clear HT;unfold cm at u0 u1 u2 u3 hb x1 x2 sG HF Rc HB HD;generalize (w.alloc _).drew=W at*;have hwr:=Rc.out;clear Rc;rw[Du] at hwr;have hres:=wY ⟨t.w.s.toArray⟩ W;have jV:(⟨t.w.s.toArray⟩:ByteArray).data.toList=t.w.s:=by simp
 rw[jV] at hres;by_cases qw:bd < 0
 ·obtain⟨l,rfl⟩:∃l,σ=.good l:=by
   match σ,lH.out with
   | .good l,_=>exact⟨l,rfl⟩
   | .bad m,aX=>simp[aF.dN] at aX;omega
  obtain⟨r,rfl⟩:=HG.out l rfl;have e1:(pl:Int)+1=(ρ.n:Int) - r.length:=by rw[Bn.out];simp only[aF.left,List.length_cons] at*;omega
  by_cases hk:t.w.k=1
  ·cases hr:wV t.w.s
   ·have HC:=hid (show t.w.k=1∧wV t.w.s=false from⟨hk,hr⟩);have ZF:=fun(W2:World) (hb2:Below W.heap.size W W2)=>cu.at.step (HF.out.later hb2) (show t.w.k≠0 by omega)
    have Ur:=hid ZF;have hs0:=fun(W2:World) (hb2:Below W.heap.size W W2)=>(HB.out.later hb2).cell 1
    have Jm:=hid hs0;have HX:=hid (fun(W2:World) (hb2:Below W.heap.size W W2)=>(HB.out.later hb2).far (p:=⟨ρ.g,1,none⟩) (by simp;omega) (.int .i64 ((ρ.n:Int) - r.length)));rw[hr] at hres;have ox:=hid hres;clear ZF hs0 hr hres;go_wp2_with (go_at_call 132;go_loud (refine ox.out.mono ?_;rintro e w1 ⟨rfl,b1⟩;obtain⟨q0,q1,q2,q3,p1,p2,p3⟩:=(HF.out.later b1).facts;have s1:=(HX.out w1 b1).cell 1;have e2:(ρ.n:Int) - (aF.good (t.w::r)).left=pl:=(GV Bn.out Bl.2);rw[e2] at q1));go_ret;refine⟨⟨t.w.s.toArray⟩,rfl,?_,Dt _ _⟩;rw[oQ,if_pos HC.out];exact(HD.out.later b1).trans (Ur.out w1 b1)
   ·have e3:af bE (.good (t.w::r))=.bad (r.length+1):=by rw[oQ,if_neg (by rw[hr];simp)]
    have Uy:=hid e3;rw[hr] at hres;have ox:=hid hres;clear hr e3 hres;go_wp2_with (first
     |(go_at_call 132;refine ox.out.mono ?_;rintro e w1 ⟨rfl,b1⟩)
     |(go_at_call 75;refine(kS ρ _ _ big (HF.out.later b1)).mono ?_;rintro e w2 ⟨rfl,d1⟩))
    go_ret;refine⟨ByteArray.empty,rfl,?_,kn Uy.out _⟩;rw[Uy.out];exact(HD.out.later b1).trans d1
  ·have e3:af bE (.good (t.w::r))=.bad (r.length+1):=by rw[oQ,if_neg (by simp[hk])]
   have Uy:=hid e3;have g1:((t.w.k:Int) != 1)=true:=by simp;omega
   clear e3;go_wp2_with (go_at_call 75;refine hwr.mono ?_;rintro e w1 ⟨rfl,d1⟩);go_ret;refine⟨ByteArray.empty,rfl,?_,kn Uy.out _⟩;rw[Uy.out];exact HD.out.trans d1
 ·obtain⟨m,rfl⟩:∃m,σ=.bad m:=by
   match σ,lH.out with
   | .good l,aX=>simp[aF.dN] at aX;omega
   | .bad m,_=>exact⟨m,rfl⟩
  go_wp2_with (go_at_call 75;refine hwr.mono ?_;rintro e w1 ⟨rfl,d1⟩);go_ret;exact⟨ByteArray.empty,rfl,HD.out.trans d1,su _ _ _⟩
def aR (ks:List (List UInt8)):Array Value:=(ks.map strOf).toArray
theorem oU {w:World} {b:Nat} {ks:List (List UInt8)}(h:ah w b 9 (aR ks)) {i:Nat} {s:List UInt8}(hi:ks[i]?=some s):w.cell? ⟨b,i,none⟩=some (.string ⟨s.toArray⟩):=by rw[h.cell i];simp[aR,hi,strOf]
theorem Kw {α:Type} {l:List α} {i:Nat} {x:α}(h:l[i]?=some x):l.drop i=x::l.drop (i+1):=by obtain⟨hlt,he⟩:=List.getElem?_eq_some_iff.1 h;rw[List.drop_eq_getElem_cons hlt,he]
theorem vQ (ks:List (List UInt8))(n:Nat):af (lG ks) (.bad n)=.bad n:=rfl
theorem dm (ρ:cu)(w:World)(σ:aF)(big:Bool)(h:ρ.at w σ big)(ks:List (List UInt8))(b n:Nat)(hn:ks.length=n)(hb:ah w b 9 (aR ks))(hbg:ρ.g≠b)(hsm:n≤10):
  Calls Tryz.prog 109 #[ρ.ptr,.slice (some ⟨b,0,none⟩) n n] w (Bk ρ w (af (lG ks) σ) big):=by
 have HH:=hid h;have HB:=hid hb;clear h hb;go_enter Tryz.func109,Tryz.ntmps109;go_wp2_with fail;go_loopw [4] (fun u wr=>∃(i:Nat) (bw:aF),i≤n∧u=.int .i64 i∧dz ρ w wr bw big∧af (lG ks) σ=af (lG (ks.drop i)) bw) (fun u _=>n - (intOf u).toNat);case atStart=>exact⟨0,σ,Nat.zero_le _,rfl,dz.refl HH.out,rfl⟩
 case round=>
  obtain⟨i,bw,hi,rfl,hD,hst⟩:=hrel;have HD:=hid hD;have HS:=hid hst;clear hD hst;by_cases hlt:i < n
  ·obtain⟨s,hs⟩:∃s,ks[i]?=some s:=⟨_,List.getElem?_eq_getElem (by omega)⟩;have hc:=oU (HD.out.blk HB.out (fun e=>hbg e.symm)) hs;have ZG:=hid (Kw hs);clear hs;have hm:=cT ρ wr bw big HD.out.at_ ⟨s.toArray⟩;cases hh:bw.head s
   ·have vP:=hid hh;rw[show bw.head (⟨s.toArray⟩:ByteArray).data.toList=false from hh,av (s:=(⟨s.toArray⟩:ByteArray).data.toList) hh] at hm;clear hh;go_wp2_with (first
     |(go_at_call 74;refine hm.mono ?_;rintro e w1 ⟨rfl,d1⟩)
     |(go_at_call 75;refine(kS ρ _ _ big d1.at_).mono ?_;rintro e w2 ⟨rfl,d2⟩))
    go_end0;refine⟨rfl,?_⟩;rw[HS.out,ZG.out,qu,tW vP.out,vQ];exact HD.out.trans (d1.trans d2)
   ·have vP:=hid hh;rw[show bw.head (⟨s.toArray⟩:ByteArray).data.toList=true from hh,az (s:=(⟨s.toArray⟩:ByteArray).data.toList) hh] at hm;clear hh;go_wp2_with (first
     |(go_at_call 74;refine hm.mono ?_;rintro e w1 ⟨rfl,d1⟩))
    go_roundw;case rel=>refine⟨i+1,_,by omega,by go_num,HD.out.trans d1,?_⟩;rw[HS.out,ZG.out,qu,kR vP.out]
    case measure=>simp[intOf];omega
  ·obtain rfl:i=n:=by omega
   have hd:ks.drop i=[]:=List.drop_eq_nil_of_le (by omega);rw[hd] at HS;go_wp2_with fail;go_end0;refine⟨rfl,?_⟩;rw[HS.out,oy];exact HD.out
theorem sH (ρ:cu)(w:World)(σ:aF)(big:Bool)(h:ρ.at w σ big)(n:Nat)(hn:n≤1000000):
  Calls Tryz.prog 111 #[ρ.ptr,.int .i64 n] w fun e w'=>e=.returned (.bool (σ.head aU))∧dz ρ w w' (af (may aU) σ) (big || decide (64 < n)):=by
 have Du:ρ.ptr=.pointer (some ⟨ρ.g,0,none⟩):=rfl;obtain⟨c0,c1,c2,c3,f1,f2,f3⟩:=h.facts;by_cases ZH:64 < n
 ·have hB:=ah.cn h.blk 3 (.bool true);have hg:w.grownBy (w.setCell ⟨ρ.g,3,none⟩ (.bool true)) (some ρ.g):=mv (eU (Below.refl _ _)) 3 _;have hat:ρ.at (w.setCell ⟨ρ.g,3,none⟩ (.bool true)) σ true:=h.set hB hg h.of;have hm:=cT ρ _ σ true hat ⟨#[44]⟩;have e1:(big || decide (64 < n))=true:=by simp[ZH]
  have hn:(64:Int)< n:=by omega
  rw[e1];clear h hat hB e1;unfold cu.ptr at*;go_enter Tryz.func111,Tryz.ntmps111;go_wp2_with (first
   |(go_at_call 74;refine hm.mono ?_;rintro e w1 ⟨rfl,d1⟩))
  go_ret;exact⟨rfl,⟨d1.at_,oq hg d1.grown⟩⟩
 ·have hm:=cT ρ _ σ big h ⟨#[44]⟩;have e1:(big || decide (64 < n))=big:=by simp[ZH]
  have hn:¬(64:Int)< n:=by omega
  rw[e1];clear h e1;unfold cu.ptr at*;go_enter Tryz.func111,Tryz.ntmps111;go_wp2_with (first
   |(go_at_call 74;refine hm.mono ?_;rintro e w1 ⟨rfl,d1⟩))
  go_ret;exact⟨rfl,d1⟩
end Go.Proofs.YtfmbcoeallmnnaaGreatDoor.R
