/- Parts of the proof. -/
import Derived.Test.YtfmbcoeallmnnaaGreatDoorD25
namespace Go.Proofs.YtfmbcoeallmnnaaGreatDoor.R
open Go.Lib (hid)
open Go.ChangeShapes Go.WideShapes Go.ChangeAt Go.RowKit
set_option linter.unusedVariables false
set_option linter.unusedSimpArgs false
theorem KU {s:ByteArray} {a:Nat} {x:List UInt8}(hb:a+x.length≤s.size):((s.extract a (a+x.length)).toList==x)=x.isPrefixOf (s.data.toList.drop a):=by
 rw[ByteArray.toList_eq,nP,List.drop_take,Nat.add_sub_cancel_left];rw[Bool.eq_iff_iff,beq_iff_eq,List.isPrefixOf_iff_prefix];constructor
 ·intro h;refine⟨(s.data.toList.drop a).drop x.length,?_⟩;have:=List.take_append_drop x.length (s.data.toList.drop a);rwa [h] at this
 ·rintro⟨r,h⟩;rw[← h];simp
theorem KV {s:ByteArray} {a:Nat} {x:List UInt8}(hb:¬a+x.length≤s.size)(ha:a≤s.size):x.isPrefixOf (s.data.toList.drop a)=false:=by rw[Bool.eq_false_iff];intro h;rw[List.isPrefixOf_iff_prefix] at h;have:=h.length_le;rw[List.length_drop] at this;simp at this;omega
set_option maxHeartbeats 4000000
set_option maxRecDepth 100000
theorem Oe (s:ByteArray)(at_:Nat)(w:World)(ha:at_ < s.size)(hl:fL s[at_]=false)(Vz:bH s[at_]=false)(hq:s[at_]≠39)(hs:s.size≤4294967280):
  Calls Tryz.prog 103 #[.string s,.int .i64 at_] w (vz s at_ w (iw (s.data.toList.drop at_))):=by
 have hd:=cJ (eQ s at_ ha);have jT:iw (s.data.toList.drop at_)=match kp signs (s.data.toList.drop at_)with
   | some x=> .ok (⟨4,x,0⟩,(s.data.toList.drop at_).drop x.length)
   | none=> .error 30:=by
  rw[hd];simp only[iw,hl,Vz,if_neg hq];rfl
 generalize iw (s.data.toList.drop at_)=R at*;have t0:(((s[at_].toNat:Nat):Int)==39)=false:=by rw[beq_eq_false_iff_ne];intro h;exact hq (UInt8.toNat_inj.1 (by simpa using(by omega:s[at_].toNat=39)))
 have lS:=hid jT;have Zj:=hid hl;have PY:=hid Vz;have HLEN:=hid (show s.data.toList.length=s.size by simp);clear jT hd hl Vz hq;go_enter Tryz.func103,Tryz.ntmps103;go_wp2_with (first
  |(go_at_call 123;refine(dX s[at_] _).mono ?_;rintro e w' ⟨rfl,rfl⟩;rw[Zj.out])
  |(go_at_call 124;refine(eM s[at_] _).mono ?_;rintro e w' ⟨rfl,rfl⟩;rw[PY.out]))
 have HZ:=hid ((ag.new w 116 #[.int .u8 0,.string ⟨#[]⟩,.int .i64 0,.int .i64 0]).alloc (.cells (signs.map fun l=>Value.string ⟨l.toArray⟩).toArray 9));have hG:ag ((w.alloc (.cells #[.int .u8 0,.string ⟨#[]⟩,.int .i64 0,.int .i64 0] 116)).alloc (.cells (signs.map fun l=>Value.string ⟨l.toArray⟩).toArray 9)) (w.heap.size+1) 9 (signs.map fun l=>Value.string ⟨l.toArray⟩).toArray:=by have:=ag.new (w.alloc (.cells #[.int .u8 0,.string ⟨#[]⟩,.int .i64 0,.int .i64 0] 116)) 9 (signs.map fun l=>Value.string ⟨l.toArray⟩).toArray;simpa using this
 have bb:Below w.heap.size w ((w.alloc (.cells #[.int .u8 0,.string ⟨#[]⟩,.int .i64 0,.int .i64 0] 116)).alloc (.cells (signs.map fun l=>Value.string ⟨l.toArray⟩).toArray 9)):=((Below.refl _ _).alloc (Nat.le_refl _) _).alloc (by simp) _;have HG:=hid hG;clear hG t0;simp only[signs,List.map_cons,List.map_nil] at HZ HG bb;generalize (w.alloc (.cells #[.int .u8 0,.string ⟨#[]⟩,.int .i64 0,.int .i64 0] 116)).alloc _=W at*;go_loopw [13] (fun u wr=>∃i n:Nat,i≤15∧u=.int .i64 i∧wr=W.drewN n∧kp signs (s.data.toList.drop at_)=kp (signs.drop i) (s.data.toList.drop at_)) (fun u _=>15 - (intOf u).toNat);case atStart=>exact⟨0,0,by omega,rfl,rfl,rfl⟩
 case round=>
  obtain⟨i,n,hi,rfl,rfl,Og⟩:=hrel;have TD:=hid Og;clear Og;have HZn:=hid (HZ.out.drewN n);have O6:=bb.trans ((px W n).mono bb.size);by_cases Zk:i < 15
  ·obtain⟨x,hx,hdx,hx1,hx2⟩:=Rw Zk;have hcell:(W.drewN n).cell? ⟨w.heap.size+1,i,none⟩=some (.string ⟨x.toArray⟩):=by
    rw[(HG.out.drewN n).cell i];have:(signs.map fun l=>Value.string ⟨l.toArray⟩).toArray[i]?=some (.string ⟨x.toArray⟩):=by simp[hx]
    exact this
   generalize hWn:W.drewN n=Wn at*;have HWN:=hid hWn;have Tz:=hid hdx;clear hWn hx hdx;by_cases SH:at_+x.length≤s.size
   ·have n1:=decide_eq_true (show((at_:Int)+(x.length:Int))≤(s.size:Int) by omega);have HT:=hid (KU SH);cases hp:x.isPrefixOf (s.data.toList.drop at_)
    ·have HP:=hid hp;have t1:((s.extract at_ (at_+x.length)).toList==x)=false:=HT.out.trans hp;have kG:=fun W':World=>kO s at_ (at_+x.length) (at_:Int) ((at_:Int)+(x.length:Int)) rfl (by omega) (by omega) SH W'
     clear hp;go_wp2_with fail;go_quiet (fail);go_wp2_with fail;go_roundw;case rel=>
      refine⟨i+1,n+nq,by omega,by go_num,?_,?_⟩
      ·rw[← HWN.out];exact xU W n nq
      ·rw[TD.out,Tz.out,kp,HP.out];rfl
     case measure=>simp[intOf];omega
    ·have HP:=hid hp;have t1:((s.extract at_ (at_+x.length)).toList==x)=true:=HT.out.trans hp;have kG:=fun W':World=>kO s at_ (at_+x.length) (at_:Int) ((at_:Int)+(x.length:Int)) rfl (by omega) (by omega) SH W'
     clear hp;go_wp2_with fail;go_quiet (fail);obtain⟨z0,z1,z2,z3,y0,y1,y2,y3⟩:=bl (HZn.out.drewN nq);have bq:=O6.trans ((px Wn nq).mono O6.size);have O7:(Wn.drewN nq).cell? ⟨w.heap.size+1,i,none⟩=some (.string ⟨x.toArray⟩):=hcell;generalize Wn.drewN nq=Wq at*;clear hcell;go_wp2_with fail;refine bodyPost_ret (v:=.tuple #[.agg #[.int .u8 4,.string ⟨x.toArray⟩,.int .i64 0,.int .i64 at_],.int .i64 ((at_:Int)+(x.length:Int)),.int .i64 0]) ?_ rfl ?_
     ·simp[results,Tryz.results103,go_sem,z0,z1,z2,z3]
     ·have e1:kp signs (s.data.toList.drop at_)=some x:=by rw[TD.out,Tz.out,kp,if_pos HP.out]
      rw[lS.out,e1];unfold vz;simp only;have e2:s.size - ((s.data.toList.drop at_).drop x.length).length=at_+x.length:=by rw[List.drop_drop,List.length_drop,HLEN.out];omega
      rw[e2];exact⟨rfl,tj bq (Nat.le_refl _) _ _ _ _⟩
   ·have n1:=decide_eq_false (show¬((at_:Int)+(x.length:Int))≤(s.size:Int) by omega);have HP:=hid (KV SH (by omega));go_wp2_with fail;go_quiet (fail);go_wp2_with fail;go_roundw;case rel=>
     refine⟨i+1,n+nq,by omega,by go_num,?_,?_⟩
     ·rw[← HWN.out];exact xU W n nq
     ·rw[TD.out,Tz.out,kp,HP.out];rfl
    case measure=>simp[intOf];omega
  ·obtain rfl:i=15:=by omega
   obtain⟨z0,z1,z2,z3,y0,y1,y2,y3⟩:=bl HZn.out;generalize W.drewN n=Wn at*;go_wp2_with fail;refine bodyPost_ret (v:=.tuple #[.agg #[.int .u8 0,.string ⟨#[]⟩,.int .i64 0,.int .i64 0],.int .i64 0,.int .i64 30]) ?_ rfl ?_
   ·simp[results,Tryz.results103,go_sem,z0,z1,z2,z3]
   ·rw[lS.out,TD.out];exact⟨rfl,tj O6 (Nat.le_refl _) _ _ _ _⟩
theorem RG (s:ByteArray)(at_:Nat)(w:World)(ha:at_ < s.size)(hs:s.size≤4294967280):
  Calls Tryz.prog 103 #[.string s,.int .i64 at_] w (vz s at_ w (iw (s.data.toList.drop at_))):=by
 cases hl:fL s[at_]
 ·cases hd:bH s[at_]
  ·by_cases hq:s[at_]=39
   ·exact Od s at_ w ha hl hd hq hs
   ·exact Oe s at_ w ha hl hd hq hs
  ·exact one_num s at_ w ha hl hd hs
 ·exact Oc s at_ w ha hl hs
def LX (n:Nat)(r:List UInt8):Except (Nat×Nat) (List Tok):=tY n (n+1) r
def pre (acc:List Tok):Except (Nat×Nat) (List Tok)→Except (Nat×Nat) (List Tok)
 | .error e=> .error e
 | .ok l=> .ok (acc++l)
def Oh (n:Nat):Tok:=⟨⟨0,[],0⟩,n⟩
theorem ui (b:Bool)(r:List UInt8):cD false (cD b r)=cD b r:=by
 induction r generalizing b with
 | nil=>cases b <;> rfl
 | cons d r ih=>
   cases b with
   | true=>
     simp only[cD];split
     ·exact ih false
     ·exact ih true
   | false=>
     by_cases h1:oZ d=true
     ·simp only[cD,if_pos h1];exact ih false
     ·by_cases h2:d=45∧r.head?=some 45
      ·simp only[cD,if_neg h1,if_pos h2];exact ih true
      ·have:cD false (d::r)=d::r:=by simp only[cD,if_neg h1,if_neg h2]
       rw[this,this]
theorem Ja (n:Nat)(r:List UInt8):LX n (cD false r)=LX n r:=by unfold LX;simp only[tY];have:=ui false r;rw[this]
theorem VC {n:Nat} {r:List UInt8}(h:cD false r=[]):LX n r=.ok [Oh n]:=by unfold LX;simp only[tY,h];rfl
theorem VD {n:Nat} {r r':List UInt8} {c:UInt8} {e:Nat}(h:cD false r=c::r')(ho:iw (c::r')=.error e):LX n r=.error (n - (c::r').length,e):=by unfold LX;simp only[tY,h,ho]
theorem Zl {n:Nat} {r r' rest:List UInt8} {c:UInt8} {w:Wd}(hr:r.length≤n)(h:cD false r=c::r')(ho:iw (c::r')=.ok (w,rest)):LX n r=pre [⟨w,n - (c::r').length⟩] (LX n rest):=by
 have h1:=vM ho;have h2:=jZ false r;rw[h] at h2;unfold LX;conv=>lhs;unfold tY
 simp only[h,ho];rw[Ac n n (n+1) rest (by omega) (by omega)];cases tY n (n+1) rest <;> rfl
theorem RH (a b:List Tok)(x:Except (Nat×Nat) (List Tok)):pre a (pre b x)=pre (a++b) x:=by cases x <;> simp[pre]
theorem pre_nil (x:Except (Nat×Nat) (List Tok)):pre [] x=x:=by cases x <;> rfl
theorem Oi {r:List UInt8} {x:Nat}(h:iw r=.error x):x=2∨x=30:=by
 cases r with
 | nil=>simp[iw] at h;exact .inr h.symm
 | cons c r=>
   simp only[iw] at h;split at h
   ·split at h
    ·cases h
    ·injection h with h;exact .inl h.symm
   ·split at h
    ·split at h
     ·cases h
     ·injection h with h;exact .inr h.symm
    ·split at h
     ·split at h
      ·cases h
      ·injection h with h;exact .inr h.symm
     ·split at h
      ·cases h
      ·injection h with h;exact .inr h.symm
theorem DV {r rest:List UInt8} {w:Wd}(h:iw r=.ok (w,rest)):rest <:+ r:=by obtain⟨b,hb,_⟩:=xA h;exact⟨b,hb.symm⟩
def py (t:Tok):List Value:=[.int .u8 t.w.k,.string ⟨t.w.s.toArray⟩,.int .i64 t.w.n,.int .i64 t.p]
theorem DX:(Tryz.prog.info? 116).map (fun i=>(i.zero,i.size,i.bytes))=some (some (.agg #[.int .u8 0,.string ⟨#[]⟩,.int .i64 0,.int .i64 0]),4,40):=by kernel_rfl
def DY (w:World)(base:Nat)(v:Value)(l:List Tok):Prop:=aQ py 116 4 w base v l
def tq (s:ByteArray)(w:World)(e:Ending)(w':World):Prop:=
 match ru s.data.toList with
 | .error (p,x)=>e=.returned (.tuple #[.slice none 0 0,.int .i64 p,.int .i64 x])∧Below w.heap.size w w'
 | .ok l=>∃v,e=.returned (.tuple #[v,.int .i64 0,.int .i64 0])∧DY w' w.heap.size v l∧Below w.heap.size w w'
theorem Oj {s:ByteArray}(h:4096 < s.size):ru s.data.toList=.error (0,2):=by unfold ru;rw[if_pos (by simpa using h)]
theorem RI {s:ByteArray}(h:¬4096 < s.size):ru s.data.toList=LX s.size s.data.toList:=by
 unfold ru LX;have:s.data.toList.length=s.size:=by simp
 rw[this,if_neg h]
structure Ol (s:ByteArray) (w:World) (a:Nat) (v:Value) (acc:List Tok) (wr:World):Prop where
 Fh:Below w.heap.size w wr
 own:DY wr w.heap.size v acc
 le:a≤s.size
 len:acc.length≤a
 skip:cD false (s.data.toList.drop a)=s.data.toList.drop a
 more:LX s.size s.data.toList=pre acc (LX s.size (s.data.toList.drop a))
theorem Om (s:ByteArray)(w:World)(hs:s.size≤4294967280):Calls Tryz.prog 72 #[.string s] w (tq s w):=by
 by_cases Zm:4096 < s.size
 ·unfold tq;rw[Oj Zm];go_enter Tryz.func72,Tryz.ntmps72;go_wp2_with fail;go_ret3;exact⟨rfl,Below.refl _ _⟩
 ·have HPO:=hid (RI Zm);have HLEN:=hid (show s.data.toList.length=s.size by simp);go_enter Tryz.func72,Tryz.ntmps72;go_wp2_with fail;refine(Al s 0 _ (Nat.zero_le _) hs).mono ?_;rintro e w1 ⟨rfl,rfl⟩;have hA:Ol s w (fH s 0) (.slice none 0 0) [] w:=by
   refine⟨Below.refl _ _,aQ.nil,ug _ _,Nat.zero_le _,?_,?_⟩
   ·rw[mh];exact ui _ _
   ·rw[mh,Ja,pre_nil];rfl
  generalize fH s 0=a0 at*;have HA:=hid hA;clear hA;go_wp2_with fail;go_loopw [5,6] (fun x y wr=>∃(a:Nat) (acc:List Tok) (u:Value),x=u∧y=.int .i64 a∧Ol s w a u acc wr) (fun _ y _=>s.size - (intOf y).toNat);case atStart=>exact⟨a0,[],_,rfl,rfl,HA.out⟩
  case round=>
   obtain⟨a,acc,u,hu,rfl,hA⟩:=hrel;have O8:=hu.symm;clear hu;subst O8;have VE:=hA.Fh.size;have uh:=hA.len;have hae:=hA.le;have Kz:=hid hA;clear hA;by_cases ha:a < s.size
   ·go_wp2_with fail;refine(RG s a _ ha hs).mono ?_;intro e w2 hp;have HB:=hid (eQ s a ha);rcases hres:iw (s.data.toList.drop a)with x |⟨d,rest⟩
    ·rw[hres] at hp;obtain⟨rfl,hb⟩:=hp;have hx:=Oi hres;have pz:=hid hres;have n1:((x:Int)==0)=false:=by rcases hx with rfl | rfl <;> rfl
     have n2:((x:Int) != 0)=true:=by rcases hx with rfl | rfl <;> rfl
     have n3:¬((x:Int)=0):=by omega
     clear hres;go_wp2_with fail;go_ret3;unfold tq;rw[HPO.out,Kz.out.more,VD (by rw[Kz.out.skip];exact cJ HB.out) (by rw[← cJ HB.out];exact pz.out)];have e1:s.size - (s[a]::s.data.toList.drop (a+1)).length=a:=by rw[← cJ HB.out,List.length_drop,HLEN.out];omega
     rw[e1];exact⟨rfl,Kz.out.Fh.trans ((hb.mono VE).trans ((aa w2 _).mono (by have:=hb.size;omega)))⟩
    ·rw[hres] at hp;obtain⟨rfl,hb⟩:=hp;have pz:=hid hres;clear hres;have bW:=((Below.refl w2.heap.size w2).alloc (Nat.le_refl _) (.cells (py ⟨d,a⟩).toArray 116)).alloc (by simp) (.cells (py ⟨d,a⟩).toArray 116);have hown:DY w2 w.heap.size u acc:=Kz.out.own.later hb;have HO:=hid (hown.later bW);have hG:ag ((w2.alloc (.cells (py ⟨d,a⟩).toArray 116)).alloc (.cells (py ⟨d,a⟩).toArray 116)) (w2.heap.size+1) 116 (py ⟨d,a⟩).toArray:=by have:=ag.new (w2.alloc (.cells (py ⟨d,a⟩).toArray 116)) 116 (py ⟨d,a⟩).toArray;simpa using this
     have HG:=hid hG;have Zn:Below w.heap.size w ((w2.alloc (.cells (py ⟨d,a⟩).toArray 116)).alloc (.cells (py ⟨d,a⟩).toArray 116)):=Kz.out.Fh.trans ((hb.mono VE).trans (bW.mono (by have:=hb.size;omega)));have xW:=hid Zn;clear hown hG Zn bW hb;have hrs:rest <:+ s.data.toList:=(DV pz.out).trans (List.drop_suffix _ _);have hq:s.data.toList.drop (s.size - rest.length)=rest:=by have:=drop_suffix hrs;rwa [HLEN.out] at this
     have ada:rest.length < s.size - a:=by have:=vM pz.out;rwa [List.length_drop,HLEN.out] at this
     have HQ:=hid hq;have adb:s.size - rest.length≤fH s (s.size - rest.length):=by unfold fH;rw[HQ.out];have:=jZ false rest;omega
     clear hq hrs;unfold py at HG HO xW;go_wp2_with (first
      |(at_builtin
        refine dm rfl (.tmp 30) (.tmp 32) 107 rfl _ 40 Tryz.underlying107 DX rfl (by omega) ⟨d,a⟩ rfl (by simp[py,Value.oneCell']) rfl HO.out (w2.heap.size+1) rfl HG.out (by omega) (by omega) xW.out.size ?_
        intro v2 w3 o2 g2
        have b2:=eR HO.out g2 xW.out.size
        have O2:=hid o2
        have B2:=hid (xW.out.trans b2)
        clear o2 g2 HO HG b2 xW))
     refine(Al s (s.size - rest.length) _ (Nat.sub_le _ _) hs).mono ?_;rintro e w4 ⟨rfl,rfl⟩;go_wp2_with fail;go_roundw;case rel=>
      refine⟨fH s (s.size - rest.length),acc++ [Tok.mk d a],v2,rfl,rfl,B2.out,O2.out,ug _ _,?_,?_,?_⟩
      ·rw[List.length_append,List.length_singleton];omega
      ·rw[mh];exact ui _ _
      ·have e1:s.size - (s[a]::s.data.toList.drop (a+1)).length=a:=by rw[← cJ HB.out,List.length_drop,HLEN.out];omega
       rw[Kz.out.more,Zl (by rw[List.length_drop,HLEN.out];omega) (by rw[Kz.out.skip];exact cJ HB.out) (by rw[← cJ HB.out];exact pz.out),e1,RH,mh,Ja,HQ.out]
     case measure=>have:=ug s (s.size - rest.length);simp[intOf];omega
   ·have hnil:s.data.toList.drop a=[]:=List.drop_eq_nil_of_le (by rw[HLEN.out];omega);have VB:=hid hnil;clear hnil;have bW:=(Below.refl wr.heap.size wr).alloc (Nat.le_refl _) (.cells (py (Oh s.size)).toArray 116);have HO:=hid (Kz.out.own.later bW);have HG:=hid (ag.new wr 116 (py (Oh s.size)).toArray);have xW:=hid (Kz.out.Fh.trans (bW.mono VE));clear bW;unfold py Oh at HG HO xW;go_wp2_with (first
     |(at_builtin
       refine dm rfl (.tmp 37) (.tmp 41) 107 rfl _ 40 Tryz.underlying107 DX rfl (by omega) (Oh s.size) rfl (by simp[py,Value.oneCell']) rfl HO.out wr.heap.size rfl HG.out (by omega) (by omega) xW.out.size ?_
       intro v2 w3 o2 g2
       have b2:=eR HO.out g2 xW.out.size
       have O2:=hid o2
       have B2:=hid (xW.out.trans b2)
       clear o2 g2 HO HG b2 xW))
    go_ret3;unfold tq;rw[HPO.out,Kz.out.more,VB.out,VC rfl];exact⟨v2,rfl,O2.out,B2.out⟩
theorem Jb (t:Tok):(py t).length=4:=rfl
theorem DY.at_ {w:World} {base:Nat} {v:Value} {l:List Tok}(h:DY w base v l) {k:Nat} {t:Tok}(hk:l[k]?=some t):
  ∃g c,v=.slice (some ⟨g,0,none⟩) l.length c∧g < w.heap.size∧w.cell? ⟨g,k*4,none⟩=some (.int .u8 t.w.k)∧w.cell? ⟨g,k*4+1,none⟩=some (.string ⟨t.w.s.toArray⟩)∧w.cell? ⟨g,k*4+2,none⟩=some (.int .i64 t.w.n)∧w.cell? ⟨g,k*4+3,none⟩=some (.int .i64 t.p):=by
 obtain⟨g,c,hv,_,hlt,hc⟩:=aQ.cell Jb h hk;exact⟨g,c,hv,hlt,hc 0 _ rfl,hc 1 _ rfl,hc 2 _ rfl,hc 3 _ rfl⟩
theorem DY.cells {w:World} {base:Nat} {A:Option Addr} {n c:Nat} {l:List Tok}(h:DY w base (.slice A n c) l)(hne:l≠ []):
  ∃g,A=some ⟨g,0,none⟩∧base≤g∧g < w.heap.size∧∀k t,l[k]?=some t→w.cell? ⟨g,k*4,none⟩=some (.int .u8 t.w.k)∧w.cell? ⟨g,k*4+1,none⟩=some (.string ⟨t.w.s.toArray⟩)∧w.cell? ⟨g,k*4+2,none⟩=some (.int .i64 t.w.n)∧w.cell? ⟨g,k*4+3,none⟩=some (.int .i64 t.p):=by
 match l,hne with
 | t0::l,_=>obtain⟨g,c0,hv,hb,hlt,_⟩:=aQ.cell Jb h (k:=0) (x:=t0) rfl;injection hv with hA _ _;refine⟨g,hA,hb,hlt,fun k t hk=>?_⟩;obtain⟨g',c',hv',_,a⟩:=h.at_ hk;injection hv' with hA' _ _;rw[hA] at hA';injection hA' with hA';injection hA' with hg _ _;subst hg;exact a
structure cB where
 g:Nat
 gl:Nat
 c:Nat
 KX:List Tok
def cB.n (ρ:cB):Nat:=ρ.KX.length
def cB.ws (ρ:cB):fN:=ρ.KX.map (·.w)
def cB.bad (ρ:cB):aH→Int
 | .good _=> -1
 | .bad m=>(ρ.n:Int) - m
def cB.cells (ρ:cB)(σ:aH)(big:Bool):Array Value:= #[.slice (some ⟨ρ.gl,0,none⟩) ρ.n ρ.c,.int .i64 ((ρ.n:Int) - σ.left),.int .i64 (ρ.bad σ),.bool big]
structure cB.at (ρ:cB) (w:World) (σ:aH) (big:Bool):Prop where
 blk:ag w ρ.g 112 (ρ.cells σ big)
 lt:ρ.gl < ρ.g
 cell:∀k t,ρ.KX[k]?=some t→w.cell? ⟨ρ.gl,k*4,none⟩=some (.int .u8 t.w.k)∧w.cell? ⟨ρ.gl,k*4+1,none⟩=some (.string ⟨t.w.s.toArray⟩)∧w.cell? ⟨ρ.gl,k*4+2,none⟩=some (.int .i64 t.w.n)∧w.cell? ⟨ρ.gl,k*4+3,none⟩=some (.int .i64 t.p)
 of:σ.of ρ.ws
 small:ρ.n≤5000
 Oo:∀t∈ρ.KX,0≤t.w.n∧t.w.n≤9223372036854775807
section
variable {ρ:cB} {w w':World} {σ:aH} {big:Bool}
theorem cB.at.later (h:ρ.at w σ big)(hb:Below w.heap.size w w'):ρ.at w' σ big:=
 ⟨h.blk.later hb,h.lt,fun k t hk=>by
   have hl:ρ.gl < w.heap.size:=Nat.lt_trans h.lt h.blk.lt
   have c:=fun o=>hb.cell (p:=⟨ρ.gl,o,none⟩) hl
   obtain⟨h1,h2,h3,h4⟩:=h.cell k t hk
   exact⟨(c _).trans h1,(c _).trans h2,(c _).trans h3,(c _).trans h4⟩,h.of,h.small,h.Oo⟩
theorem cB.at.rP (h:ρ.at w σ big):ρ.g < w.heap.size:=h.blk.lt
theorem cB.at.set {bB:aH} {Gw:Bool}(h:ρ.at w σ big)(hw:ag w' ρ.g 112 (ρ.cells bB Gw))(hg:w.grownBy w' (some ρ.g))(ho:bB.of ρ.ws):ρ.at w' bB Gw:=
 ⟨hw,h.lt,fun k t hk=>by
   have hl:ρ.gl < w.heap.size:=Nat.lt_trans h.lt h.blk.lt
   have c:=cell_of_heap (hg.block ρ.gl hl (fun e=>by injection e with e;have:=h.lt;omega))
   obtain⟨h1,h2,h3,h4⟩:=h.cell k t hk
   exact⟨(c _).trans h1,(c _).trans h2,(c _).trans h3,(c _).trans h4⟩,ho,h.small,h.Oo⟩
theorem cB.at.left (h:ρ.at w σ big):0 < σ.left∧σ.left≤ρ.n:=by have:=aH.Gr h.of;simpa [cB.ws,cB.n] using this
theorem cB.at.far {q:Nat}(h:ρ.at w σ big)(hq:ρ.g < q)(i:Nat)(u:Value):ρ.at (w.setCell ⟨q,i,none⟩ u) σ big:=
 ⟨h.blk.far (p:=⟨q,i,none⟩) (by simp;omega) u,h.lt,fun k t hk=>by
   have c:=cell_of_heap (Below.heap_setCell w ⟨q,i,none⟩ u ρ.gl (by have:=h.lt;simp;omega))
   obtain⟨h1,h2,h3,h4⟩:=h.cell k t hk
   exact⟨(c _).trans h1,(c _).trans h2,(c _).trans h3,(c _).trans h4⟩,h.of,h.small,h.Oo⟩
theorem cB.at.next (h:ρ.at w σ big):∃t:Tok,ρ.KX[ρ.n - σ.left]?=some t∧(∀l,σ=.good l→∃r,l=t.w::r):=by
 obtain⟨h1,h2⟩:=h.left;have hlt:ρ.n - σ.left < ρ.KX.length:=by unfold cB.n at*;omega
 refine⟨_,List.getElem?_eq_getElem hlt,?_⟩;rintro l rfl;obtain⟨t,r,hl,hk⟩:=aH.of_next h.of;refine⟨r,?_⟩;have e:ρ.ws.length - l.length=ρ.n - (aH.good l).left:=by simp[cB.ws,cB.n,aH.left]
 rw[e] at hk;unfold cB.ws at hk;rw[List.getElem?_map,List.getElem?_eq_getElem hlt] at hk;simp only[Option.map_some] at hk;injection hk with hk;rw[hk];exact hl
end
structure dH (ρ:cB) (W w':World) (bB:aH) (Gw:Bool):Prop where
 at_:ρ.at w' bB Gw
 grown:W.grownBy w' (some ρ.g)
section
variable {ρ:cB} {W w w':World} {σ bB:aH} {big Gw:Bool}
theorem dH.refl (h:ρ.at w σ big):dH ρ w w σ big:=⟨h,fg (Below.refl _ _)⟩
theorem dH.bP (h:ρ.at w σ big)(hb:Below w.heap.size w w'):dH ρ w w' σ big:=⟨h.later hb,fg hb⟩
theorem dH.later (h:dH ρ W w σ big)(hb:Below w.heap.size w w'):dH ρ W w' σ big:=⟨h.at_.later hb,pw h.grown (fg hb)⟩
theorem dH.trans (h:dH ρ W w σ big)(k:dH ρ w w' bB Gw):dH ρ W w' bB Gw:=⟨k.at_,pw h.grown k.grown⟩
theorem dH.lt (h:dH ρ W w σ big):ρ.g < w.heap.size:=h.at_.rP
theorem dH.size (h:dH ρ W w σ big):W.heap.size≤w.heap.size:=h.grown.size
theorem dH.far {q:Nat}(h:dH ρ W w σ big)(hW:ρ.g < W.heap.size)(hq:W.heap.size≤q)(i:Nat)(u:Value):dH ρ W (w.setCell ⟨q,i,none⟩ u) σ big:=by
 refine⟨h.at_.far (by omega) i u,h.grown.os,h.grown.tape,h.grown.output,?_,fun k hk hkg=>?_⟩
 ·have:(w.setCell ⟨q,i,none⟩ u).heap.size=w.heap.size:=by simp[World.setCell]
  rw[this];exact h.grown.size
 ·rw[Below.heap_setCell w ⟨q,i,none⟩ u k (by simp;omega)];exact h.grown.block k hk hkg
theorem dH.blk {q:Nat} {t:TypeId} {cs:Array Value}(h:dH ρ W w σ big)(hq:ag W q t cs)(hg:q≠ρ.g):ag w q t cs:=hq.grown h.grown fun e=>hg (by injection e)
end
theorem pS {s:List UInt8} {σ:aH}(h:σ.head s=true):∃t r,σ=.good (t::r)∧lR s t=true:=by
 match σ with
 | .bad n=>simp[aH.head,aH.words,bV] at h
 | .good l=>obtain⟨t,r,e,ht⟩:=gD (s:=s) (l:=l) h;exact⟨t,r,by rw[e],ht⟩
theorem jD {s:List UInt8} {σ:aH}(h:σ.head s=true):(aH.good σ.words.tail).left=σ.left - 1∧0 < σ.left∧σ.left=σ.words.tail.length+1:=by obtain⟨t,r,rfl,_⟩:=pS h;simp[aH.left,aH.words]
theorem aB {s:List UInt8} {σ:aH}(h:σ.head s=true):af (may s) σ=.good σ.words.tail:=by rw[DN,h];rfl
theorem aw {s:List UInt8} {σ:aH}(h:σ.head s=false):af (may s) σ=σ:=by rw[DN,h];rfl
theorem lL {s:List UInt8} {σ:aH}(h:σ.head s=true):af (must s) σ=.good σ.words.tail:=by rw[Ai,h];rfl
theorem vA {s:List UInt8} {σ:aH}(h:σ.head s=false):af (must s) σ=.bad σ.left:=by rw[Ai,h];rfl
def mj:List (List UInt8)→Ps Unit
 | []=>pure ()
 | s::ks=>do must s;mj ks
theorem xX:∀ks,cg (mj ks)
 | []=>bj _
 | s::ks=>aU (aN s) fun _=>xX ks
theorem rC (s:List UInt8)(ks:List (List UInt8))(σ:aH):af (mj (s::ks)) σ=af (mj ks) (af (must s) σ):=az (x:=()) (bM _ _)
theorem pA (σ:aH):af (mj []) σ=σ:=bz _ _
theorem bw (s:List UInt8)(σ:aH):af (mj [s]) σ=af (must s) σ:=by rw[rC,pA]
theorem Zo (s:List UInt8)(ks:List (List UInt8))(σ:aH):af (sU (s::ks)) σ=if σ.head s then .good σ.words.tail else af (sU ks) σ:=by
 match σ with
 | .bad n=>rfl
 | .good l=>
   simp only[af,sU,aH.head,aH.words];by_cases h:bV s l=true
   ·simp only[h,if_true]
   ·simp only[h];rfl
theorem pT (t:Wd)(r:fN):af bL (.good (t::r))=if t.k=1∧zh t.s=false then .good r else .bad (r.length+1):=by
 simp only[af,bL];by_cases h:t.k=1∧zh t.s=false
 ·simp only[h,and_self,if_true]
 ·simp only[h,if_false];rfl
theorem Gx (t:Wd)(r:fN):au bL (.good (t::r)) ⟨t.s.toArray⟩:=by
 simp only[au,bL];by_cases h:t.k=1∧zh t.s=false
 ·simp only[h,and_self,if_true]
 ·simp only[h,if_false]
theorem DZ (t:Wd)(r:fN):af gQ (.good (t::r))=if t.k=2 then .good r else .bad (r.length+1):=by
 simp only[af,gQ];by_cases h:t.k=2
 ·simp only[h,if_true]
 ·simp only[h,if_false];rfl
theorem KY (t:Wd)(r:fN):au gQ (.good (t::r)) t.n:=by
 simp only[au,gQ];by_cases h:t.k=2
 ·simp only[h,if_true]
 ·simp only[h,if_false]
theorem kP {α:Type} {p:Ps α} {σ:aH} {n:Nat}(h:af p σ=.bad n)(x:α):au p σ x:=by
 match σ with
 | .bad m=>trivial
 | .good l=>
   simp only[af,au] at h ⊢;cases e:p l with
   | error m=>trivial
   | ok y=>obtain⟨y,r⟩:=y;rw[e] at h;cases h
section
variable {s:List UInt8} {op:Int} {same below:Ps Tr} {σ:aH} {x:Tr}
theorem qJ (h:σ.head s=false):af (Gj s op same below) σ=af below σ:=by unfold Gj;rw[az (aI s σ),h,aw h];rfl
theorem pB (h:σ.head s=false)(k:au below σ x):au (Gj s op same below) σ x:=by refine aj (aI s σ) ?_;rw[h,aw h];exact k
theorem tu (h:σ.head s=true):af (Gj s op same below) σ=af same (.good σ.words.tail):=by
 unfold Gj;rw[az (aI s σ),h,aB h];show af (same >>= fun x=>pure (gZ op [x])) _=_;generalize (aH.good σ.words.tail)=τ
 match τ with
 | .bad n=>rfl
 | .good l=>
   simp only[af,ep];cases same l with
   | error n=>rfl
   | ok y=>rfl
theorem qK (h:σ.head s=true)(k:au same (.good σ.words.tail) x):au (Gj s op same below) σ (gZ op [x]):=by refine aj (aI s σ) ?_;rw[h,aB h];exact aj k (aW _ _)
end
def cB.ptr (ρ:cB):Value:=.pointer (some ⟨ρ.g,0,none⟩)
theorem cB.at.facts {ρ:cB} {w:World} {σ:aH} {big:Bool}(h:ρ.at w σ big):
  w.cell? ⟨ρ.g,0,none⟩=some (.slice (some ⟨ρ.gl,0,none⟩) ρ.n ρ.c)∧w.cell? ⟨ρ.g,1,none⟩=some (.int .i64 ((ρ.n:Int) - σ.left))∧w.cell? ⟨ρ.g,2,none⟩=some (.int .i64 (ρ.bad σ))∧w.cell? ⟨ρ.g,3,none⟩=some (.bool big)∧
  w.frozen? ⟨ρ.g,1,none⟩=false∧w.frozen? ⟨ρ.g,2,none⟩=false∧w.frozen? ⟨ρ.g,3,none⟩=false:=
 ⟨h.blk.cell 0,h.blk.cell 1,h.blk.cell 2,h.blk.cell 3,h.blk.frozen 1,h.blk.frozen 2,h.blk.frozen 3⟩
theorem cB.at.place {ρ:cB} {w:World} {σ:aH} {big:Bool}(h:ρ.at w σ big):((ρ.n:Int) - σ.left)=((ρ.n - σ.left:Nat):Int):=by have:=h.left;omega
theorem cB.at.BM {ρ:cB} {w:World} {σ:aH} {big:Bool}(h:ρ.at w σ big):decide (ρ.bad σ < 0)=σ.dR:=by
 have hl:=h.left
 match σ,hl with
 | .bad m,hl=>have e:ρ.bad (.bad m)=(ρ.n:Int) - m:=rfl;have e2:(aH.bad m).left=m:=rfl;rw[e2] at hl;rw[e];simp only[aH.dR,decide_eq_false_iff_not];omega
 | .good l,_=>rfl
theorem Oq {s:ByteArray} {t:Wd}:lR s.data.toList t=((t.k==1 || t.k==4)&&(t.s==s.toList)):=by unfold lR;rw[ByteArray.toList_eq]
def kh:Obj:=.cells #[.int .u8 0,.string ⟨#[]⟩,.int .i64 0,.int .i64 0] 116
def cr (t:Tok):Array Value:= #[.int .u8 t.w.k,.string ⟨t.w.s.toArray⟩,.int .i64 t.w.n,.int .i64 t.p]
structure RJ (ρ:cB) (w:World) (t:Tok) (pl:Nat) (bd:Int):Prop where
 c0:w.cell? ⟨ρ.g,0,none⟩=some (.slice (some ⟨ρ.gl,0,none⟩) ρ.n ρ.c)
 c1:w.cell? ⟨ρ.g,1,none⟩=some (.int .i64 pl)
 c2:w.cell? ⟨ρ.g,2,none⟩=some (.int .i64 bd)
 d0:w.cell? ⟨ρ.gl,pl*4,none⟩=some (.int .u8 t.w.k)
 d1:w.cell? ⟨ρ.gl,pl*4+1,none⟩=some (.string ⟨t.w.s.toArray⟩)
 d2:w.cell? ⟨ρ.gl,pl*4+2,none⟩=some (.int .i64 t.w.n)
 d3:w.cell? ⟨ρ.gl,pl*4+3,none⟩=some (.int .i64 t.p)
theorem RJ.later {ρ:cB} {w w':World} {t:Tok} {pl:Nat} {bd:Int}(h:RJ ρ w t pl bd)(hb:Below w.heap.size w w'):RJ ρ w' t pl bd:=by obtain⟨h0,h1,h2,h3,h4,h5,h6⟩:=h;exact⟨(hb.cell (jH h0)).trans h0,(hb.cell (jH h1)).trans h1,(hb.cell (jH h2)).trans h2,(hb.cell (jH h3)).trans h3,(hb.cell (jH h4)).trans h4,(hb.cell (jH h5)).trans h5,(hb.cell (jH h6)).trans h6⟩
theorem cB.at.nQ {ρ:cB} {w:World} {σ:aH} {big:Bool}(h:ρ.at w σ big):∃(t:Tok) (pl:Nat) (bd:Int),pl=ρ.n - σ.left∧pl < ρ.n∧ρ.n≤5000∧bd=ρ.bad σ∧decide (bd < 0)=σ.dR∧(∀l,σ=.good l→∃r,l=t.w::r)∧0≤t.w.n∧t.w.n≤9223372036854775807∧RJ ρ w t pl bd:=by obtain⟨t,ht,hg⟩:=h.next;obtain⟨d0,d1,d2,d3⟩:=h.cell _ t ht;obtain⟨c0,c1,c2,c3,f1,f2,f3⟩:=h.facts;have hl:=h.left;rw[h.place] at c1;have hn:=h.Oo t (List.mem_of_getElem? ht);exact⟨t,_,_,rfl,by omega,h.small,rfl,h.BM,hg,hn.1,hn.2,c0,c1,c2,d0,d1,d2,d3⟩
theorem jE (ρ:cB)(w:World)(σ:aH)(big:Bool)(h:ρ.at w σ big)(s:ByteArray):
  Calls Tryz.prog 104 #[ρ.ptr,.string s] w fun e w'=>e=.returned (.bool (σ.head s.data.toList))∧Below w.heap.size w w':=by
 obtain⟨t,pl,bd,hpl,hlt,hsm,mE,bh,hg,yM,rQ,hp⟩:=h.nQ;have uj:=hp.later (aa w kh);have vB:=hp.later ((aa w (.cells (cr t) 116)).drew);have hHD:σ.head s.data.toList=(decide (bd < 0)&&((t.w.k==1 || t.w.k==4)&&(t.w.s==s.toList))):=by
  rw[bh]
  match σ with
  | .bad m=>rfl
  | .good l=>obtain⟨r,rfl⟩:=hg l rfl;rw[← Oq];rfl
 have xY:=hid hHD;have hb:=(aa w (.cells (cr t) 116)).drew;have HT:=(ag.new w 116 (cr t)).drew;clear hHD hpl hg bh mE h;unfold cB.ptr;generalize σ.head s.data.toList=R at*;obtain⟨c0,c1,c2,d0,d1,d2,d3⟩:=hp;obtain⟨y0,y1,y2,z0,z1,z2,z3⟩:=uj;obtain⟨x0,x1,x2,v0,v1,v2,v3⟩:=vB;unfold kh at y0 y1 y2 z0 z1 z2 z3;go_enter Tryz.func104,Tryz.ntmps104;go_wp2_with fail;go_region;clear c0 c1 c2 d0 d1 d2 d3 y0 y1 y2 z0 z1 z2 z3 x0 x1 v0 v1 v2 v3;obtain⟨u0,u1,u2,u3,_⟩:=bl HT;unfold cr at x2 u0 u1 u2 u3 hb;generalize (w.alloc _).drew=W at*;go_wp2_with fail;all_goals
  go_ret;refine⟨lJ ?_,hb⟩;rw[xY.out];generalize (t.w.s==s.toList)=X;cases X <;> rw[Bool.eq_iff_iff] <;> simp <;> omega
def Ea (ρ:cB)(W:World)(bB:aH)(big:Bool)(e:Ending)(w':World):Prop:=e=.returned (.tuple #[])∧dH ρ W w' bB big
theorem lM (ρ:cB)(w:World)(σ:aH)(big:Bool)(h:ρ.at w σ big):
  Calls Tryz.prog 75 #[ρ.ptr] w (Ea ρ w (.bad σ.left) big):=by
 obtain⟨c0,c1,c2,c3,f1,f2,f3⟩:=h.facts;have Eb:=h.left;have bh:=h.BM;have JK:aH.of ρ.ws (.bad σ.left):=⟨(aH.Gr h.of).1,(aH.Gr h.of).2⟩;unfold cB.ptr;by_cases hg:ρ.bad σ < 0
 ·have hB:=ag.cA h.blk 2 (.int .i64 ((ρ.n:Int) - σ.left));go_enter Tryz.func75,Tryz.ntmps75;go_wp2_with fail;go_end0;exact⟨rfl,h.set hB (nd (fg (Below.refl _ _)) 2 _) JK,nd (fg (Below.refl _ _)) 2 _⟩
 ·have mE:σ=.bad σ.left:=by
   match σ with
   | .bad m=>rfl
   | .good l=>exact absurd (by show(-1:Int)< 0;decide) hg
  have HBD:=hid mE;clear mE;go_enter Tryz.func75,Tryz.ntmps75;go_wp2_with fail;go_end0;rw[← HBD.out];exact⟨rfl,dH.refl h⟩
theorem cB.at.step {ρ:cB} {w:World} {l:fN} {t:Wd} {big:Bool}(h:ρ.at w (.good (t::l)) big)(ht:t.k≠0):
  dH ρ w (w.setCell ⟨ρ.g,1,none⟩ (.int .i64 ((ρ.n:Int) - l.length))) (.good l) big:=by
 have hB:=ag.cA h.blk 1 (.int .i64 ((ρ.n:Int) - l.length));refine⟨h.set hB (nd (fg (Below.refl _ _)) 1 _) ⟨?_,h.of.2.tail ht⟩,nd (fg (Below.refl _ _)) 1 _⟩;exact(List.suffix_cons _ _).trans h.of.1
theorem df (ρ:cB)(w:World)(σ:aH)(big:Bool)(h:ρ.at w σ big)(s:ByteArray):
  Calls Tryz.prog 74 #[ρ.ptr,.string s] w fun e w'=>e=.returned (.bool (σ.head s.data.toList))∧dH ρ w w' (af (may s.data.toList) σ) big:=by
 have hw:=jE ρ w σ big h s;have Gy:ρ.ptr=.pointer (some ⟨ρ.g,0,none⟩):=rfl;cases hh:σ.head s.data.toList
 ·rw[hh] at hw;rw[aw hh];go_enter Tryz.func74,Tryz.ntmps74;go_wp2_with (go_at_call 104;refine hw.mono ?_;rintro e w1 ⟨rfl,b1⟩);go_ret;exact⟨rfl,dH.bP h b1⟩
 ·rw[hh] at hw;obtain⟨t,r,rfl,ht⟩:=pS hh;rw[aB hh];go_enter Tryz.func74,Tryz.ntmps74;have HH:=hid h;have HK:=hid (uS ht);have hsm:=h.small;clear ht hh h;go_wp2_with (go_at_call 104;refine hw.mono ?_;rintro e w1 ⟨rfl,b1⟩;obtain⟨c0,c1,c2,c3,f1,f2,f3⟩:=(HH.out.later b1).facts;have Eb:=(HH.out.later b1).left;have e1:(ρ.n:Int) - (aH.good (t::r)).left+1=(ρ.n:Int) - r.length:=by(simp[aH.left];omega));go_ret;have hd:=cB.at.step (HH.out.later b1) HK.out;exact⟨rfl,(dH.bP HH.out b1).trans hd⟩
theorem KZ {pl n k:Nat}(h:pl=n - k)(hk:k≤n):(n:Int) - k=pl:=by omega
theorem Am (ρ:cB)(w:World)(σ:aH)(big:Bool)(h:ρ.at w σ big):
  Calls Tryz.prog 130 #[ρ.ptr] w fun e w'=>∃x:Int,0≤x∧x≤9223372036854775807∧e=.returned (.int .i64 x)∧dH ρ w w' (af gQ σ) big∧au gQ σ x:=by
 obtain⟨t,pl,bd,hpl,hlt,hsm,mE,bh,hg,yM,rQ,hp⟩:=h.nQ;have uj:=hp.later (aa w kh);have vB:=hp.later ((aa w (.cells (cr t) 116)).drew);have hb:=(aa w (.cells (cr t) 116)).drew;have HT:=(ag.new w 116 (cr t)).drew;have HB:=hid HT;have HF:=hid (h.later hb);have HD:=hid (dH.bP h hb);have uk:=(h.later hb).facts.2.2.2.2.1;have Gy:ρ.ptr=.pointer (some ⟨ρ.g,0,none⟩):=rfl;have hwr:=lM ρ _ σ big (h.later hb);have Eb:=h.left;have dh:=h.rP;clear h;obtain⟨c0,c1,c2,d0,d1,d2,d3⟩:=hp;obtain⟨y0,y1,y2,z0,z1,z2,z3⟩:=uj;obtain⟨x0,x1,x2,v0,v1,v2,v3⟩:=vB;unfold kh at y0 y1 y2 z0 z1 z2 z3;have VF:=hid hwr;have Ec:=hid hpl;have HG:=hid hg;have ml:=hid bh;clear hwr hpl hg bh mE;rw[Gy];go_enter Tryz.func130,Tryz.ntmps130;go_wp2_with fail;go_region;clear c0 c1 c2 d0 d1 d2 d3 y0 y1 y2 z0 z1 z2 z3 x0 v0 v1 v2 v3;obtain⟨u0,u1,u2,u3,_⟩:=bl HT;clear HT;unfold cr at u0 u1 u2 u3 hb x1 x2 uk HF VF HB HD;generalize (w.alloc _).drew=W at*;have hwr:=VF.out;clear VF;rw[Gy] at hwr;by_cases rD:bd < 0
 ·obtain⟨l,rfl⟩:∃l,σ=.good l:=by
   match σ,ml.out with
   | .good l,_=>exact⟨l,rfl⟩
   | .bad m,bh=>simp[aH.dR] at bh;omega
  obtain⟨r,rfl⟩:=HG.out l rfl;have e1:(pl:Int)+1=(ρ.n:Int) - r.length:=by rw[Ec.out];simp only[aH.left,List.length_cons] at*;omega
  by_cases hk:t.w.k=2
  ·have hd:=cB.at.step HF.out (show t.w.k≠0 by omega);have s2:(W.setCell ⟨ρ.g,1,none⟩ (.int .i64 ((ρ.n:Int) - r.length))).cell? ⟨w.heap.size,2,none⟩=some (.int .i64 t.w.n):=(HB.out.far (p:=⟨ρ.g,1,none⟩) (by simp;omega) _).cell 2;go_wp2_with fail;go_ret;refine⟨t.w.n,yM,rQ,rfl,?_,KY _ _⟩;rw[DZ,if_pos hk];exact HD.out.trans hd
  ·have g1:((t.w.k:Int) != 2)=true:=by simp;omega
   go_wp2_with (go_at_call 75;refine hwr.mono ?_;rintro e w1 ⟨rfl,d1⟩);go_ret;have e3:af gQ (.good (t.w::r))=.bad (r.length+1):=by rw[DZ,if_neg hk]
   refine⟨0,by omega,by omega,rfl,?_,kP e3 _⟩;rw[e3];exact HD.out.trans d1
 ·obtain⟨m,rfl⟩:∃m,σ=.bad m:=by
   match σ,ml.out with
   | .good l,bh=>simp[aH.dR] at bh;omega
   | .bad m,_=>exact⟨m,rfl⟩
  go_wp2_with (go_at_call 75;refine hwr.mono ?_;rintro e w1 ⟨rfl,d1⟩);go_ret;refine⟨0,by omega,by omega,rfl,?_,ue _ _ _⟩;exact HD.out.trans d1
theorem pU (ρ:cB)(w:World)(σ:aH)(big:Bool)(h:ρ.at w σ big):
  Calls Tryz.prog 108 #[ρ.ptr] w fun e w'=>∃x:ByteArray,e=.returned (.string x)∧dH ρ w w' (af bL σ) big∧au bL σ x:=by
 obtain⟨t,pl,bd,hpl,hlt,hsm,mE,bh,hg,yM,rQ,hp⟩:=h.nQ;have uj:=hp.later (aa w kh);have vB:=hp.later ((aa w (.cells (cr t) 116)).drew);have hb:=(aa w (.cells (cr t) 116)).drew;have HT:=(ag.new w 116 (cr t)).drew;have HB:=hid HT;have HF:=hid (h.later hb);have HD:=hid (dH.bP h hb);have uk:=(h.later hb).facts.2.2.2.2.1;have Gy:ρ.ptr=.pointer (some ⟨ρ.g,0,none⟩):=rfl;have hwr:=lM ρ _ σ big (h.later hb);have Eb:=h.left;have dh:=h.rP;clear h;obtain⟨c0,c1,c2,d0,d1,d2,d3⟩:=hp;obtain⟨y0,y1,y2,z0,z1,z2,z3⟩:=uj;obtain⟨x0,x1,x2,v0,v1,v2,v3⟩:=vB;unfold kh at y0 y1 y2 z0 z1 z2 z3;have VF:=hid hwr;have Ec:=hid hpl;have HG:=hid hg;have ml:=hid bh;clear hwr hpl hg bh mE;rw[Gy];go_enter Tryz.func108,Tryz.ntmps108;go_wp2_with fail;go_region;clear c0 c1 c2 d0 d1 d2 d3 y0 y1 y2 z0 z1 z2 z3 x0 v0 v1 v2 v3;obtain⟨u0,u1,u2,u3,_⟩:=bl HT;clear HT;unfold cr at u0 u1 u2 u3 hb x1 x2 uk HF VF HB HD;generalize (w.alloc _).drew=W at*;have hwr:=VF.out;clear VF;rw[Gy] at hwr;have hres:=zm ⟨t.w.s.toArray⟩ W;have kG:(⟨t.w.s.toArray⟩:ByteArray).data.toList=t.w.s:=by simp
 rw[kG] at hres;by_cases rD:bd < 0
 ·obtain⟨l,rfl⟩:∃l,σ=.good l:=by
   match σ,ml.out with
   | .good l,_=>exact⟨l,rfl⟩
   | .bad m,bh=>simp[aH.dR] at bh;omega
  obtain⟨r,rfl⟩:=HG.out l rfl;have e1:(pl:Int)+1=(ρ.n:Int) - r.length:=by rw[Ec.out];simp only[aH.left,List.length_cons] at*;omega
  by_cases hk:t.w.k=1
  ·cases hr:zh t.w.s
   ·have HC:=hid (show t.w.k=1∧zh t.w.s=false from⟨hk,hr⟩);have hd0:=fun(W2:World) (hb2:Below W.heap.size W W2)=>cB.at.step (HF.out.later hb2) (show t.w.k≠0 by omega)
    have PY:=hid hd0;have hs0:=fun(W2:World) (hb2:Below W.heap.size W W2)=>(HB.out.later hb2).cell 1
    have Nd:=hid hs0;have HX:=hid (fun(W2:World) (hb2:Below W.heap.size W W2)=>(HB.out.later hb2).far (p:=⟨ρ.g,1,none⟩) (by simp;omega) (.int .i64 ((ρ.n:Int) - r.length)));rw[hr] at hres;have pz:=hid hres;clear hd0 hs0 hr hres;go_wp2_with (go_at_call 132;go_loud (refine pz.out.mono ?_;rintro e w1 ⟨rfl,b1⟩;obtain⟨q0,q1,q2,q3,p1,p2,p3⟩:=(HF.out.later b1).facts;have s1:=(HX.out w1 b1).cell 1;have e2:(ρ.n:Int) - (aH.good (t.w::r)).left=pl:=(KZ Ec.out Eb.2);rw[e2] at q1));go_ret;refine⟨⟨t.w.s.toArray⟩,rfl,?_,Gx _ _⟩;rw[pT,if_pos HC.out];exact(HD.out.later b1).trans (PY.out w1 b1)
   ·have e3:af bL (.good (t.w::r))=.bad (r.length+1):=by rw[pT,if_neg (by rw[hr];simp)]
    have Zp:=hid e3;rw[hr] at hres;have pz:=hid hres;clear hr e3 hres;go_wp2_with (first
     |(go_at_call 132;refine pz.out.mono ?_;rintro e w1 ⟨rfl,b1⟩)
     |(go_at_call 75;refine(lM ρ _ _ big (HF.out.later b1)).mono ?_;rintro e w2 ⟨rfl,d1⟩))
    go_ret;refine⟨ByteArray.empty,rfl,?_,kP Zp.out _⟩;rw[Zp.out];exact(HD.out.later b1).trans d1
  ·have e3:af bL (.good (t.w::r))=.bad (r.length+1):=by rw[pT,if_neg (by simp[hk])]
   have Zp:=hid e3;have g1:((t.w.k:Int) != 1)=true:=by simp;omega
   clear e3;go_wp2_with (go_at_call 75;refine hwr.mono ?_;rintro e w1 ⟨rfl,d1⟩);go_ret;refine⟨ByteArray.empty,rfl,?_,kP Zp.out _⟩;rw[Zp.out];exact HD.out.trans d1
 ·obtain⟨m,rfl⟩:∃m,σ=.bad m:=by
   match σ,ml.out with
   | .good l,bh=>simp[aH.dR] at bh;omega
   | .bad m,_=>exact⟨m,rfl⟩
  go_wp2_with (go_at_call 75;refine hwr.mono ?_;rintro e w1 ⟨rfl,d1⟩);go_ret;exact⟨ByteArray.empty,rfl,HD.out.trans d1,ue _ _ _⟩
def aV (ks:List (List UInt8)):Array Value:=(ks.map strOf).toArray
theorem pV {w:World} {b:Nat} {ks:List (List UInt8)}(h:ag w b 9 (aV ks)) {i:Nat} {s:List UInt8}(hi:ks[i]?=some s):w.cell? ⟨b,i,none⟩=some (.string ⟨s.toArray⟩):=by rw[h.cell i];simp[aV,hi,strOf]
theorem Ot {α:Type} {l:List α} {i:Nat} {x:α}(h:l[i]?=some x):l.drop i=x::l.drop (i+1):=by obtain⟨hlt,he⟩:=List.getElem?_eq_some_iff.1 h;rw[List.drop_eq_getElem_cons hlt,he]
theorem xZ (ks:List (List UInt8))(n:Nat):af (mj ks) (.bad n)=.bad n:=rfl
theorem dw (ρ:cB)(w:World)(σ:aH)(big:Bool)(h:ρ.at w σ big)(ks:List (List UInt8))(b n:Nat)(hn:ks.length=n)(hb:ag w b 9 (aV ks))(hbg:ρ.g≠b)(hsm:n≤10):
  Calls Tryz.prog 109 #[ρ.ptr,.slice (some ⟨b,0,none⟩) n n] w (Ea ρ w (af (mj ks) σ) big):=by
 have HH:=hid h;have HB:=hid hb;clear h hb;go_enter Tryz.func109,Tryz.ntmps109;go_wp2_with fail;go_loopw [4] (fun u wr=>∃(i:Nat) (bB:aH),i≤n∧u=.int .i64 i∧dH ρ w wr bB big∧af (mj ks) σ=af (mj (ks.drop i)) bB) (fun u _=>n - (intOf u).toNat);case atStart=>exact⟨0,σ,Nat.zero_le _,rfl,dH.refl HH.out,rfl⟩
 case round=>
  obtain⟨i,bB,hi,rfl,hD,hst⟩:=hrel;have HD:=hid hD;have HS:=hid hst;clear hD hst;by_cases hlt:i < n
  ·obtain⟨s,hs⟩:∃s,ks[i]?=some s:=⟨_,List.getElem?_eq_getElem (by omega)⟩;have hc:=pV (HD.out.blk HB.out (fun e=>hbg e.symm)) hs;have HDR:=hid (Ot hs);clear hs;have hm:=df ρ wr bB big HD.out.at_ ⟨s.toArray⟩;cases hh:bB.head s
   ·have xY:=hid hh;rw[show bB.head (⟨s.toArray⟩:ByteArray).data.toList=false from hh,aw (s:=(⟨s.toArray⟩:ByteArray).data.toList) hh] at hm;clear hh;go_wp2_with (first
     |(go_at_call 74;refine hm.mono ?_;rintro e w1 ⟨rfl,d1⟩)
     |(go_at_call 75;refine(lM ρ _ _ big d1.at_).mono ?_;rintro e w2 ⟨rfl,d2⟩))
    go_end0;refine⟨rfl,?_⟩;rw[HS.out,HDR.out,rC,vA xY.out,xZ];exact HD.out.trans (d1.trans d2)
   ·have xY:=hid hh;rw[show bB.head (⟨s.toArray⟩:ByteArray).data.toList=true from hh,aB (s:=(⟨s.toArray⟩:ByteArray).data.toList) hh] at hm;clear hh;go_wp2_with (first
     |(go_at_call 74;refine hm.mono ?_;rintro e w1 ⟨rfl,d1⟩))
    go_roundw;case rel=>refine⟨i+1,_,by omega,by go_num,HD.out.trans d1,?_⟩;rw[HS.out,HDR.out,rC,lL xY.out]
    case measure=>simp[intOf];omega
  ·obtain rfl:i=n:=by omega
   have hd:ks.drop i=[]:=List.drop_eq_nil_of_le (by omega);rw[hd] at HS;go_wp2_with fail;go_end0;refine⟨rfl,?_⟩;rw[HS.out,pA];exact HD.out
theorem um (ρ:cB)(w:World)(σ:aH)(big:Bool)(h:ρ.at w σ big)(n:Nat)(hn:n≤1000000):
  Calls Tryz.prog 111 #[ρ.ptr,.int .i64 n] w fun e w'=>e=.returned (.bool (σ.head aX))∧dH ρ w w' (af (may aX) σ) (big || decide (64 < n)):=by
 have Gy:ρ.ptr=.pointer (some ⟨ρ.g,0,none⟩):=rfl;obtain⟨c0,c1,c2,c3,f1,f2,f3⟩:=h.facts;by_cases h64:64 < n
 ·have hB:=ag.cA h.blk 3 (.bool true);have hg:w.grownBy (w.setCell ⟨ρ.g,3,none⟩ (.bool true)) (some ρ.g):=nd (fg (Below.refl _ _)) 3 _;have hat:ρ.at (w.setCell ⟨ρ.g,3,none⟩ (.bool true)) σ true:=h.set hB hg h.of;have hm:=df ρ _ σ true hat ⟨#[44]⟩;have e1:(big || decide (64 < n))=true:=by simp[h64]
  have hn:(64:Int)< n:=by omega
  rw[e1];clear h hat hB e1;unfold cB.ptr at*;go_enter Tryz.func111,Tryz.ntmps111;go_wp2_with (first
   |(go_at_call 74;refine hm.mono ?_;rintro e w1 ⟨rfl,d1⟩))
  go_ret;exact⟨rfl,⟨d1.at_,pw hg d1.grown⟩⟩
 ·have hm:=df ρ _ σ big h ⟨#[44]⟩;have e1:(big || decide (64 < n))=big:=by simp[h64]
  have hn:¬(64:Int)< n:=by omega
  rw[e1];clear h e1;unfold cB.ptr at*;go_enter Tryz.func111,Tryz.ntmps111;go_wp2_with (first
   |(go_at_call 74;refine hm.mono ?_;rintro e w1 ⟨rfl,d1⟩))
  go_ret;exact⟨rfl,d1⟩
end Go.Proofs.YtfmbcoeallmnnaaGreatDoor.R
