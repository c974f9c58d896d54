/- Parts of the proof. -/
import Derived.Deep.Strs
import Derived.Test.YtndgjggokjickaaGreatDoorXG10
namespace Go.Proofs.YtndgjggokjickaaGreatDoor
variable{p:Prop}
set_option maxHeartbeats 90000000
set_option maxRecDepth 100000
open Go.ChangeShapes Go.WideShapes Go.ChangeAt Go.RowKit List
set_option linter.unusedVariables false
set_option linter.unusedSimpArgs false
variable{cols:List aV}{op:Int}{args:uF}
theorem Xp(h:(fZ cols op args).2=0):args.length<=2:=by
 unfold fZ at h;split at h
 ·rename_i h1;exact absurd h h1
 ·unfold jP at h;split at h
  ·cases h
  ·rename_i h2;rw[length_map,Tr.oP] at h2;have h2:(args.length:Int)=iN op:=Decidable.byContradiction h2;rcases Lv (op:=op)with e | e | e <;> omega
def oz (s:dp):Prop:=∀a∈s.aD,a.args.length<=2
mutual
theorem Tr.Nx (aF:uF)(cols:List aV):∀(t:Tr) (s:dp) (y:Tr) (s':dp),t.turn aF cols s=.ok (y,s')->oz s->oz s'
 | .mk op v name width args,s,y,s',h,hs=>by
   unfold Tr.turn at h;split at h
   ·injection h with h;injection h with h1 h2;rw[<- h2];exact hs
   ·split at h
    ·rename_i hop;split at h
     ·cases h
     ·rename_i hty;injection h with h;injection h with h1 h2;rw[<- h2];intro a ha;rcases List.mem_append.1 ha with ha | ha
      ·exact hs a ha
      ·rw[mem_singleton] at ha;rw[ha];have h9:=Xp (cols:=cols) (op:=op) (args:=args) (Decidable.byContradiction hty);exact h9
    ·split at h
     ·cases h
     ·rename_i ys s1 h1;split at h
      ·cases h
      ·split at h
       ·cases h
       ·injection h with h;injection h with h3 h4;rw[<- h4];exact Tr.Hf aF cols args s ys s1 h1 hs
theorem Tr.Hf (aF:uF)(cols:List aV):∀(ts:uF) (s:dp) (ys:uF) (s':dp),Tr.turns aF cols ts s=.ok (ys,s')->oz s->oz s'
 | [],s,ys,s',h,hs=>by unfold Tr.turns at h;injection h with h;injection h with h1 h2;rw[<- h2];exact hs
 | t::ts,s,ys,s',h,hs=>by
   unfold Tr.turns at h;split at h
   ·cases h
   ·rename_i y s1 h1;split at h
    ·cases h
    ·rename_i Wf s2 h2;injection h with h;injection h with h3 h4;rw[<- h4];exact Tr.Hf aF cols ts s1 Wf s2 h2 (Tr.Nx aF cols t s y s1 h1 hs)
end
variable{aF:uF}{t:Tr}{s:dp}{y:Tr}{k:Int}{s':dp}
theorem JR{g:Bool}       (h:mb g aF cols t s=.ok (y,k,s'))(hs:oz s):oz s':=by
 unfold mb at h;split at h
 ·exact Zfu
 ·split at h
  ·cases h
  ·rename_i y1 s1 h1;split at h
   ·cases h
   ·injection h with h;injection h with h2 h;injection h with h3 h4;rw[<- h4];exact Tr.Nx aF cols t s y1 s1 h1 hs
theorem Hg{g:Bool}  :∀ {l:List (Tr×t_)} {s:dp} {ys:uF} {hd:List aV} {s':dp},cC g aF cols l s=.ok (ys,hd,s')->oz s->oz s'
 | [],s,ys,hd,s',h,hs=>by unfold cC at h;injection h with h;injection h with h1 h;injection h with h2 h3;rw[<- h3];exact hs
 |(t,nm)::l,s,ys,hd,s',h,hs=>by
  unfold cC at h;split at h
  ·cases h
  ·rename_i y k s1 h1;split at h
   ·cases h
   ·rename_i Wf Qw s2 h2;injection h with h;injection h with h3 h;injection h with h4 h5;rw[<- h5];exact Hg h2 (JR h1 hs)
theorem DR{g:Bool}  :∀ {l:uF} {s:dp} {ys:uF} {s':dp},dm g aF cols l s=.ok (ys,s')->oz s->oz s'
 | [],s,ys,s',h,hs=>by unfold dm at h;injection h with h;injection h with h1 h2;rw[<- h2];exact hs
 | t::l,s,ys,s',h,hs=>by
   unfold dm at h;split at h
   ·cases h
   ·rename_i y k s1 h1;split at h
    ·cases h
    split at h
    ·cases h
    ·rename_i Wf s2 h2;injection h with h;injection h with h3 h4;rw[<- h4];exact DR h2 (JR h1 hs)
theorem Hh{g:Bool}  :∀ {l:List (Tr×Bool)} {s:dp} {ys:uF} {s':dp},dX g aF cols l s=.ok (ys,s')->oz s->oz s'
 | [],s,ys,s',h,hs=>by unfold dX at h;injection h with h;injection h with h1 h2;rw[<- h2];exact hs
 |(t,d)::l,s,ys,s',h,hs=>by
  unfold dX at h;split at h
  ·cases h
  ·rename_i y k s1 h1;split at h
   ·cases h
   ·rename_i Wf s2 h2;injection h with h;injection h with h3 h4;rw[<- h4];exact Hh h2 (JR h1 hs)
variable{q:Qy}
theorem zfN.Kbu(h:p:=by exact Hh h3 (DR h2 (Hg h1 (λ a ha=>by cases ha)))):p:=h
theorem Y7{p:ix}(h:dV q cols=.ok p):oz p.st:=by
 open zfN in exact ZdT
theorem Ny{g:Bool}  :∀ {l:List (Tr×t_)} {s:dp} {ys:uF} {hd:List aV} {s':dp},cC g aF cols l s=.ok (ys,hd,s')->Tr.cH (l.map (·.1))->Tr.cH s.aD->Tr.cH ys/\Tr.cH s'.aD/\hd.length=l.length/\s'.aF.length+s'.aD.length<=s.aF.length+s.aD.length+2*Tr.aN (l.map (·.1))
 | [],s,ys,hd,s',h,_,hs=>by unfold cC at h;injection h with h;injection h with h1 h;injection h with h2 h3;subst h1 h2 h3;exact⟨by unfold Tr.cH;trivial,hs,rfl,by omega⟩
 |(t,nm)::l,s,ys,hd,s',h,ho,hs=>by
  unfold cC at h;rw[map_cons] at ho ⊢;unfold Tr.cH at ho;have hf:=lL g aF cols t s;split at h
  ·cases h
  rename_i y k s1 hy;split at h
  ·cases h
  rename_i Wf Qw s2 h2;injection h with h;injection h with h3 h;injection h with h4 h5;subst h3 h4 h5;have e1:=hf.ok _ _ _ hy ho.1;have e2:=hf.aok _ _ _ hy ho.1 hs;have e3:=hf.len _ _ _ hy;obtain⟨f1,f2,f3,f4⟩:=Ny h2 ho.2 e2;have e4:Tr.aN (t::l.map (·.1))=t.nodes+Tr.aN (l.map (·.1)):=by rw[Tr.aN]
  refine⟨by unfold Tr.cH;exact⟨e1,f1⟩,f2,by simp[f3],by rw[e4];omega⟩
theorem Hi{g:Bool}  :∀ {l:uF} {s:dp} {ys:uF} {s':dp},dm g aF cols l s=.ok (ys,s')->Tr.cH l->Tr.cH s.aD->Tr.cH ys/\Tr.cH s'.aD/\ys.length=l.length/\s'.aF.length+s'.aD.length<=s.aF.length+s.aD.length+2*Tr.aN l
 | [],s,ys,s',h,_,hs=>by unfold dm at h;injection h with h;injection h with h1 h3;subst h1 h3;exact⟨by unfold Tr.cH;trivial,hs,rfl,by omega⟩
 | t::l,s,ys,s',h,ho,hs=>by
   unfold dm at h;unfold Tr.cH at ho;have hf:=lL g aF cols t s;split at h
   ·cases h
   rename_i y k s1 hy;split at h
   ·cases h
   split at h
   ·cases h
   rename_i Wf s2 h2;injection h with h;injection h with h3 h5;subst h3 h5;have e1:=hf.ok _ _ _ hy ho.1;have e2:=hf.aok _ _ _ hy ho.1 hs;have e3:=hf.len _ _ _ hy;obtain⟨f1,f2,f3,f4⟩:=Hi h2 ho.2 e2;have e4:Tr.aN (t::l)=t.nodes+Tr.aN l:=by rw[Tr.aN]
   refine⟨by unfold Tr.cH;exact⟨e1,f1⟩,f2,by simp[f3],by rw[e4];omega⟩
theorem Nz{g:Bool}  :∀ {l:List (Tr×Bool)} {s:dp} {ys:uF} {s':dp},dX g aF cols l s=.ok (ys,s')->Tr.cH (l.map (·.1))->Tr.cH s.aD->Tr.cH ys/\Tr.cH s'.aD/\ys.length=l.length/\s'.aF.length+s'.aD.length<=s.aF.length+s.aD.length+2*Tr.aN (l.map (·.1))
 | [],s,ys,s',h,_,hs=>by unfold dX at h;injection h with h;injection h with h1 h3;subst h1 h3;exact⟨by unfold Tr.cH;trivial,hs,rfl,by omega⟩
 |(t,b)::l,s,ys,s',h,ho,hs=>by
  unfold dX at h;rw[map_cons] at ho ⊢;unfold Tr.cH at ho;have hf:=lL g aF cols t s;split at h
  ·cases h
  rename_i y k s1 hy;split at h
  ·cases h
  rename_i Wf s2 h2;injection h with h;injection h with h3 h5;subst h3 h5;have e1:=hf.ok _ _ _ hy ho.1;have e2:=hf.aok _ _ _ hy ho.1 hs;have e3:=hf.len _ _ _ hy;obtain⟨f1,f2,f3,f4⟩:=Nz h2 ho.2 e2;have e4:Tr.aN (t::l.map (·.1))=t.nodes+Tr.aN (l.map (·.1)):=by rw[Tr.aN]
  refine⟨by unfold Tr.cH;exact⟨e1,f1⟩,f2,by simp[f3],by rw[e4];omega⟩
theorem Hj:∀ {l:uF} {k:Nat} {gc:List aV},gM cols l k=.ok gc->gc.length=l.length
 | [],k,gc,h=>by unfold gM at h;injection h with h;subst h;rfl
 | t::ts,k,gc,h=>by
   unfold gM at h;split at h
   ·cases h
   split at h
   ·cases h
   rename_i l hg;injection h with h;subst h;rw[length_cons,length_cons,Hj hg]
structure RX (q:Qy) (p:ix):Prop where
 items:Tr.cH p.items
 having:Tr.cH p.having
 order:Tr.cH p.order
 aD:Tr.cH p.st.aD
 agW:∀t∈p.st.aD,isAgg t.op=true
 few:∀t∈p.st.aD,t.args.length<=2
 li:p.items.length=q.items.length
 lh:p.having.length=q.fK.length
 lo:p.order.length=q.ord.length
 ln:p.st.aF.length+p.st.aD.length<=q.aF.length+2*Tr.aN (q.items.map (·.1))+2*Tr.aN q.fK+2*Tr.aN (q.ord.map (·.1))
theorem aeQ{p:ix}(h:dV q cols=.ok p)(h1:Tr.cH (q.items.map (·.1)))(h2:Tr.cH q.fK)(h3:Tr.cH (q.ord.map (·.1))):RX q p:=by
 obtain⟨_,_,gc,hd,s1,s2,_,hg,hi,hh,ho,_⟩:=pL h;obtain⟨a1,a2,a3,a4⟩:=Ny hi h1 (by unfold Tr.cH;trivial);obtain⟨b1,b2,b3,b4⟩:=Hi hh h2 a2;obtain⟨c1,c2,c3,c4⟩:=Nz ho h3 b2;have Ai:=Hj hg;refine⟨a1,b1,c1,c2,Wh h,Y7 h,yE hi,b3,c3,?_⟩;have e:(dp.mk [] gc).aF.length+(dp.mk [] gc).aD.length=q.aF.length:=by rw[<- Ai];rfl
 omega
theorem aeR (cols:List aV)(CA:z_)(cc:Nat)(row:v_)(RA:z_)(rc:Nat)(ts:uF)(ys:u_)(A:z_)(c:Nat)(w:rQ)(cL:cols.length<=140737488355328)(lX:row.length<=140737488355328)(hro:∀v∈row,v.Ok)
  (aZ:Tr.cH ts) (hat:Tr.aM w (Old w) ts ys) (hl:ys.length<=1599289640356) (hA:RE w w.heap.size A ys) (hC:RC w w.heap.size CA cols) (hV:RV w w.heap.size RA row):
  ar 16 #[.slice A ys.length c,.slice CA cols.length cc,.slice RA row.length rc] w λ e w'=>e=.returned (.tuple #[.bool (eK cols ts row).1,af (eK cols ts row).2])/\aj w w':=by
 cases ts with
 | nil=>unfold Tr.aM at hat;subst hat;refine(YT A c _ _ w).mono ?_;rintro e w' ⟨rfl,rfl⟩;exact⟨rfl,Below.refl _ _⟩
 | cons t ts=>unfold Tr.aM at hat;obtain⟨y,ys',rfl,h1,_⟩:=hat;unfold Tr.cH at aZ;have he:=Tr.Sv cols CA cc row RA rc cL lX hro t y w aZ.1 h1 hC hV;exact YS A (y::ys').length c Taa hl y ys' _ _ (t.eval cols row) w hA he
theorem Ue (cols:List aV)(CA:z_)(cc:Nat)(ts:uF)(ys:u_)(A:z_)(c:Nat)(rows:List aX)(RA:z_)(rc:Nat)(w:rQ)(cL:cols.length<=140737488355328)(Rb:rows.length<=1000000)(lX:∀r∈rows,r.l.length<=140737488355328/\∀v∈r.l,v.Ok)
  (aZ:Tr.cH ts) (hat:Tr.aM w (Old w) ts ys) (hl:ys.length<=1599289640356) (hA:RE w w.heap.size A ys) (hC:RC w w.heap.size CA cols) (hR:RR w w.heap.size RA rows):
  ar 32 #[.slice A ys.length c,.slice CA cols.length cc,.slice RA rows.length rc] w λ e w'=>∃v,e=.returned (.tuple #[v,af (cT cols ts (rows.map (·.l))).2])/\aH cq 38 1 w' w.heap.size v (jE (eK cols ts) rows)/\aj w w':=by
 have he:(cT cols ts (rows.map (·.l))).2=bU (rows.map λ r=>(eK cols ts r.l).2):=by unfold cT;rw[map_map];rfl
 rw[he];refine ZP (.slice A ys.length c) (.slice CA cols.length cc) (eK cols ts) rows RA rc w Rb hR λ r hr W hW=>?_
 obtain⟨i,hi,rfl⟩:=getElem_of_mem hr;obtain⟨_,_,_,_,_,hv⟩:=(hR.below hW).at_ hi;exact aeR cols CA cc rows[i].l rows[i].A rows[i].c ts ys A c W cL (lX _ hr).1 (lX _ hr).2 aZ (Tr.aM.later hat hW) hl (hA.later hW) (hC.later hW) (hv.more hW.size)
theorem Y8 (cols:List aV)(ts:uF)(rows:List aX):(jE (eK cols ts) rows).map (·.l)=(cT cols ts (rows.map (·.l))).1:=by unfold jE cT;dsimp only;rw[filter_map];rfl
variable{base:Nat}{v:Value}
theorem NA{w:rQ}   {cl:List aX}(h:aH cq 38 1 w base v cl)(hm:∀r∈cl,RV w w.heap.size r.A r.l):∃A c,v=.slice A cl.length c/\RR w w.heap.size A cl:=by
 obtain⟨A,c,hv,hc⟩:=dT (f:=cq) (size:=1) (λ _=>rfl) h;refine⟨A,c,hv,?_⟩;rcases hc with hc |⟨g,hA,hg,hc⟩
 ·exact .inl hc
 ·refine .inr ⟨g,0,hA,hg,λ i r hr=>⟨?_,hm r (mem_of_getElem? hr)⟩⟩;have:=hc i r 0 _ hr TD rfl;exact ZeR
variable{ts:uF}{A:z_}{n:Nat}
theorem RY{w:rQ}   (h:fT w ts A n):∃ys,n=ys.length/\RE w w.heap.size A ys/\Tr.aM w (Old w) ts ys:=by obtain⟨hn,ys,h1,h2⟩:=h;refine⟨ys,by rw[hn,dZ h2],?_,h2⟩;exact ZcM
theorem akt (s:St)(a b:Val):(s.feed a b).a=s.a\/(s.feed a b).a=a:=by
 unfold St.feed St.does St.some_ St.put St.alone St.BD St.take;repeat' split
 all_goals first
  | exact .inl rfl
  | exact .inr rfl
theorem DT:∀(l:List (Val×Val)) (s:St),s.a.Ok->(∀x∈l,x.1.Ok)->(l.foldl (λ s x=>s.feed x.1 x.2) s).a.Ok
 | [],s,hs,_=>hs
 | x::l,s,hs,h=>by
   rw[foldl_cons];refine DT l _ ?_ λ y hy=>h y (mem_cons_of_mem _ hy)
   rcases akt s x.1 x.2 with e | e
   ·rw[e];exact hs
   ·rw[e];exact h x (mem_cons_self ..)
theorem Z0{l:List (Val×Val)}(h:∀x∈l,x.1.Ok):(cy op l).a.Ok:=DT l (fA op) ed h
theorem zfd.Kbg(h:p:=by exact⟨_,λ w=>KY (hi a) (lo a) n q r _ nl c nh c2 hn e0 hs hd (Int.tmod_eq_emod_of_nonneg e0) s1 s2 w,(sf _).1,(sf _).2⟩):p:=h
theorem Xq (a n:Int)(ha0:0<=a)(ha1:a < M*M)(hn:0 < n)(uT:n < 512):∃v,Pa a n v/\ -9223372036854775808<=v/\v<=9223372036854775807:=by
 have h0:=sj ha0;have h1:=afF ha1;have l0:=si a;have l1:=Sz a;by_cases hs:(hi a / 9223372036854775808==0)=true
 ·have NW:=Int.emod_nonneg (hi a) (show n≠0 by omega);have Ij:=Int.emod_lt_of_pos (hi a) hn;obtain⟨q,r,hd⟩:=Ik (hi a % n) (lo a) n NW Ij uT l0 l1;exact⟨_,λ w=>KX (hi a) (lo a) n q r _ hn h0 hs hd (Int.tmod_eq_emod_of_nonneg h0) w,(sf _).1,(sf _).2⟩
 ·open zfd in exact Zdd
theorem aku{s:St}(ok:s.Ok)(hc:s.count < 512)(ha:s.a.Ok):∃v e,fM s v e/\v.Ok:=by
 have h1:=ok.amP;have h2:=ok.aum;have h3:=ok.xC;unfold fM;split
 ·exact Zg0
 ·split
  ·exact Zg0
  ·split
   ·refine⟨_,_,⟨rfl,rfl⟩,?_⟩;unfold St.total;split
    ·exact ed
    ·split
     ·show -9223372036854775808<=yO _/\yO _<=9223372036854775807;exact Zhf
     ·exact ed
   ·split
    ·by_cases hz:s.count=0
     ·exact⟨aC,0,⟨.inl ⟨hz,rfl⟩,rfl⟩,ed⟩
     ·obtain⟨q,hq,q1,q2⟩:=Xq s.sum s.count ok.ace ok.acf TD hc;exact⟨num q,0,⟨.inr ⟨hz,q,hq,rfl⟩,rfl⟩,q1,q2⟩
    ·exact⟨s.a,0,⟨rfl,rfl⟩,ha⟩
theorem aeS{l:v_}(h:∀v∈l,v.Ok)(i:Nat):(l.getD i aC).Ok:=by
 rw[getD_eq_getElem?_getD]
 cases hj:l[i]? with
 | none=>exact ed
 | some v=>exact h v (mem_of_getElem? hj)
theorem Hk:∀(ts:uF) (l:v_),(∀v∈l,v.Ok)->∀x∈gh ts l,x.1.Ok
 | [],l,_,x,hx=>by cases hx
 | t::ts,l,h,x,hx=>by
   unfold gh at hx;rcases List.mem_cons.1 hx with rfl | hx
   ·dsimp only;split
    ·exact aeS h 0
    ·exact ed
   ·exact Hk ts _ (λ v hv=>h v (mem_of_mem_drop hv)) x hx
variable{l gs:y_}
theorem Xr{ng:Nat} {aD:uF} (hagg:∀t∈aD,isAgg t.op=true)(hl:∀r∈l,∀v∈r,v.Ok)(hn:l.length<=300)(h:jk ng aD l=.ok gs):gs.length<=l.length+1/\∀g∈gs,g.length<=ng+aD.length/\∀v∈g,v.Ok:=by
 have hk:(if ng=0 then [[]] else iF ((gQ ng aD l).map (·.1)))=bZ ng (l.map λ r=>r.take ng):=by unfold bZ gQ;rw[map_map];rfl
 unfold jk at h;have h:(if bU ((if ng=0 then [[]] else iF ((gQ ng aD l).map (·.1))).map λ k=>bQ (cD (aD.map Tr.op) (gQ ng aD l) k))≠0 then Except.error (bU ((if ng=0 then [[]] else iF ((gQ ng aD l).map (·.1))).map λ k=>bQ (cD (aD.map Tr.op) (gQ ng aD l) k)))else .ok ((if ng=0 then [[]] else iF ((gQ ng aD l).map (·.1))).map λ k=>k++(cD (aD.map Tr.op) (gQ ng aD l) k).map (·.1)))=.ok gs:=h;rw[hk] at h;split at h
 ·cases h
 ·injection h with h;subst h;refine⟨?_,λ g hg=>?_⟩
  ·rw[length_map];have:=yu ng (l.map λ r=>r.take ng);rwa [length_map] at this
  ·obtain⟨k,Z1,rfl⟩:=List.mem_map.1 hg;have nV:=rK Z1;refine⟨?_,λ v hv=>?_⟩
   ·rw[length_append,length_map,jq,length_map,nt,length_map];omega
   ·rcases List.mem_append.1 hv with hv | hv
    ·unfold bZ at Z1;split at Z1
     ·rw[mem_singleton] at Z1;rw[Z1] at hv;cases hv
     ·have:=((oa fC fD _).2 _).1 Z1;obtain⟨r,hr,rfl⟩:=List.mem_map.1 this;exact hl r hr v (mem_of_mem_take hv)
    ·rw[jq,map_map] at hv;obtain⟨s,hs,rfl⟩:=List.mem_map.1 hv;unfold dW at hs;obtain⟨i,hi,rfl⟩:=List.mem_map.1 hs;have hi:i <(aD.map Tr.op).length:=List.mem_range.1 hi
     have hop:isAgg ((aD.map Tr.op).getD i 0)=true:=by
      rw[getD_eq_getElem?_getD,getElem?_eq_getElem hi];have Kk:i < aD.length:=by simpa using hi
      simp only[Option.getD_some,getElem_map];exact hagg _ (getElem_mem Kk)
     have oL:=hop;unfold isAgg at oL;simp only[Bool.and_eq_true,decide_eq_true_eq] at oL;have hlen:(eu i (gQ ng aD l) k).length<=300:=by unfold eu;rw[length_map];refine Nat.le_trans (length_filter_le _ _) ?_;unfold gQ;rw[length_map];exact hn
     have r:=su oL.1 oL.2 (eu i (gQ ng aD l) k);have ok:=O1 oL.1 oL.2 r TD;have hcb:=Jz ((aD.map Tr.op).getD i 0) (eu i (gQ ng aD l) k);have hct:=r.count;refine acu (aku ok TD (Z0 λ x hx=>?_));unfold eu at hx;obtain⟨p,hp,rfl⟩:=List.mem_map.1 hx;have hp:=(List.mem_filter.1 hp).1;unfold gQ at hp;obtain⟨q,hq,rfl⟩:=List.mem_map.1 hp;dsimp only;rw[getD_eq_getElem?_getD]
     cases hj:(gh aD (q.drop ng))[i]? with
     | none=>exact ed
     | some y=>exact Hk aD (q.drop ng) (λ v hv=>hl q hq v (mem_of_mem_drop hv)) y (mem_of_getElem? hj)
variable{rows:List aX}
theorem aeT{aD:uF}   (hagg:∀t∈aD,isAgg t.op=true)(JB:Tr.cH (aF++aD.flatMap Tr.args))(hr:∀r∈rows,∀v∈r.l,v.Ok)(hn:rows.length<=300)(h:xd aF aD cols (rows.map (·.l))=.ok gs):gs.length<=rows.length+1/\∀g∈gs,g.length<=aF.length+aD.length/\∀v∈g,v.Ok:=by
 rw[DO] at h;split at h
 ·cases h
 ·have hl:=uJ cols (aF++aD.flatMap Tr.args) rows;obtain⟨h1,h2⟩:=Xr hagg (λ r hrm=>by
   obtain⟨x,hx,he⟩:=Wz hrm
   exact Dk (hr x hx) JB he) TD h
  exact⟨by omega,h2⟩
theorem AZ{w:rQ}   {l:List aV}(h:aH aR 113 2 w base v l):∃A c,v=.slice A l.length c/\RC w w.heap.size A l:=by
 obtain⟨A,c,hv,hc⟩:=dT (f:=aR) (size:=2) (λ _=>rfl) h;refine⟨A,c,hv,?_⟩;rcases hc with hc |⟨g,hA,hg,hc⟩
 ·exact .inl hc
 ·refine .inr ⟨g,0,hA,hg,λ i x hx=>?_⟩;have h0:=hc i x 0 _ hx TD rfl;have h1:=hc i x 1 _ hx TD rfl;unfold pR;rw[Nat.zero_add];exact⟨by simpa using h0,h1⟩
structure PlE (w:rQ) (gp:Nat) (q:Qy) (L:QL) (p:ix) (cols:List aV) (CA:z_) (cc:Nat) (yg ya yi yh yo:u_) (AA:z_) (ac:Nat) (VA:z_) (vc:Nat) (HA:z_) (hc:Nat) (IA:z_) (ic:Nat) (JA:z_) (jc:Nat) (DA:z_) (dc:Nat):Prop where
 blk:∃cs,aB w gp 81 cs
 gr:Dl w gp q.aF p.st.aD cols yg ya L.g.A L.g.c CA cc AA ac
 ops:ya.map Ex.op=p.st.aD.map Tr.op
 c10:w.cell? ⟨gp,10,none⟩=some (.slice VA p.st.aF.length vc)
 rv:RC w w.heap.size VA p.st.aF
 c11:w.cell? ⟨gp,11,none⟩=some (.bool q.aI)
 c12:w.cell? ⟨gp,12,none⟩=some (.slice HA p.head.length hc)
 c14:w.cell? ⟨gp,14,none⟩=some (.slice JA yh.length jc)
 rj:RE w w.heap.size JA yh
 tj:Tr.aM w (Old w) p.having yh
 c13:w.cell? ⟨gp,13,none⟩=some (.slice IA yi.length ic)
 ri:RE w w.heap.size IA yi
 ti:Tr.aM w (Old w) p.items yi
 c15:w.cell? ⟨gp,15,none⟩=some (.slice DA yo.length dc)
 ro:RE w w.heap.size DA yo
 eM:Tr.aM w (Old w) p.order yo
 c6:w.cell? ⟨gp,6,none⟩=some (.slice L.o.A L.o.n L.o.c)
section
variable {w w':rQ} {gp:Nat} {q:Qy} {L:QL} {p:ix} {cols:List aV} {CA:z_} {cc:Nat} {yg ya yi yh yo:u_} {AA:z_} {ac:Nat} {VA:z_} {vc:Nat} {HA:z_} {hc:Nat} {IA:z_} {ic:Nat} {JA:z_} {jc:Nat} {DA:z_} {dc:Nat}
theorem PlE.later (h:PlE w gp q L p cols CA cc yg ya yi yh yo AA ac VA vc HA hc IA ic JA jc DA dc)(hb:aj w w'):PlE w' gp q L p cols CA cc yg ya yi yh yo AA ac VA vc HA hc IA ic JA jc DA dc:=by
 have hl:=h.gr.lt;have hc:=λ i=>hb.cell (p:=⟨gp,i,none⟩) hl
 obtain⟨cs,hcs⟩:=h.blk;exact⟨⟨cs,hcs.later hb⟩,h.gr.later hb,h.ops,(hc 10).trans h.c10,h.rv.later hb,(hc 11).trans h.c11,(hc 12).trans h.c12,(hc 14).trans h.c14,h.rj.later hb,Tr.aM.later h.tj hb,(hc 13).trans h.c13,h.ri.later hb,Tr.aM.later h.ti hb,(hc 15).trans h.c15,h.ro.later hb,Tr.aM.later h.eM hb,(hc 6).trans h.c6⟩
theorem PlE.run (h:PlE w gp q L p cols CA cc yg ya yi yh yo AA ac VA vc HA hc IA ic JA jc DA dc) {over:List aV} {OA:z_}(ho:RC w w.heap.size OA over):Nt w gp p.items p.order over yi yo IA ic DA dc OA:=
 ⟨h.gr.lt,h.c13,h.c15,h.ri,h.ti,h.ro,h.eM,ho⟩
end
variable{S:Nat->Prop}
theorem Uf{w:rQ} :∀ {ts:uF} {ys:u_},Tr.aM w S ts ys->ys.map Ex.op=ts.map Tr.op
 | [],ys,h=>by unfold Tr.aM at h;rw[h];rfl
 | t::ts,ys,h=>by unfold Tr.aM at h;obtain⟨y,ys',rfl,h1,h2⟩:=h;obtain⟨op,v,name,width,args⟩:=t;unfold Tr.at_ at h1;rw[map_cons,map_cons,Uf h2,h1.1];rfl
variable{L:QL}{CA:z_}{cc:Nat}{w0:rQ}{gp:Nat}{u:Value}{ya yi yh yo:u_}
theorem Z2{w:rQ}  {r:Rest}   {p:ix}(hP:agU (Av q L CA cc cols) w0 w gp r u v ya yi yh yo p)(hq:DM (Av q L CA cc cols) w0 q L cols):
  ∃yg AA ac VA vc HA hc IA ic JA jc DA dc,PlE w gp q L p cols CA cc yg ya yi yh yo AA ac VA vc HA hc IA ic JA jc DA dc/\aH aR 113 2 w w0.heap.size (.slice HA p.head.length hc) p.head:=by obtain⟨AA,ac,hu,Kn⟩:=rL hP.o0;obtain⟨VA,vc,hv,uW⟩:=AZ hP.o1;obtain⟨HA,hc,hh,hrh⟩:=AZ hP.o2;obtain⟨IA,ic,hi,hri⟩:=rL hP.o3;obtain⟨JA,jc,hj,hrj⟩:=rL hP.o4;obtain⟨DA,dc,hd,XP⟩:=rL hP.o5;obtain⟨yg,hyn,hyr,Xd⟩:=RY hq.ig;have k1:=hP.blk;unfold PC.cells at k1;have c4:=k1.cell 4;have c6:=k1.cell 6;have c8:=k1.cell 8;have c9:=k1.cell 9;have c10:=k1.cell 10;have c11:=k1.cell 11;have c12:=k1.cell 12;have Ys:=k1.cell 13;have c14:=k1.cell 14;have c15:=k1.cell 15;simp only[Uaa] at c4 c6 c8 c9 c10 c11 c12 Ys c14 c15;have c4:w.cell? ⟨gp,4,none⟩=some (.slice L.g.A L.g.n L.g.c):=c4;rw[hyn] at c4;rw[hu] at c9;rw[hv] at c10;rw[hh] at c12;rw[hi] at Ys;rw[hj] at c14;rw[hd] at c15;refine⟨yg,AA,ac,VA,vc,HA,hc,IA,ic,JA,jc,DA,dc,⟨⟨_,hP.blk⟩,⟨k1.lt,c4,c8,c9,hyr.later hP.base,Tr.aM.later Xd hP.base,Kn,Tr.aM.later hP.aD hP.base,hq.ok.cols.later hP.base⟩,Uf hP.aD,c10,uW,c11,c12,c14,hrj,hP.t4,Ys,hri,hP.t3,c15,XP,hP.t5,c6⟩,hh▸hP.o2⟩
noncomputable def lp (q:Qy) (p:ix) (cols:List aV) (e0:Int) (rows:y_):tE (y_):=
 if e0≠0 then .error e0 else if p.aI=false then .ok rows else match xd q.aF p.st.aD cols rows with
 | .error e=> .error e
 | .ok gs=>if (cT p.st.aF p.having gs).2≠0 then .error (cT p.st.aF p.having gs).2 else .ok (cT p.st.aF p.having gs).1
theorem Z3 (q:Qy)(p:ix)(cols:List aV)(rows:y_):vR q p cols rows=lp q p cols (cT cols q.bF rows).2 (cT cols q.bF rows).1:=by
 unfold vR lp xd;split
 ·rfl
 ·split
  ·rfl
  ·cases zW ((cT cols q.bF rows).1.map λ r=>br cols r (q.aF++p.st.aD.flatMap Tr.args))<;> rfl
theorem zdF.KaK(h:p:=by
 clear hh hO hE HX;simp only[eE,eZ,Tryz.f11,Option.getD_some];refine wp_seq_k λ K hK=>?_
 have Ed:=aa hK;clear hK;by_cases h:er=0
 ·have t1:(er != 0)=false:=by simp[h]
  have H:=aa h;clear h;go_wp2_with fail;exact Ed.ae _ _ (ajS.ae H.ae _ rfl rfl rfl rfl rfl rfl)
 ·have t1:(er != 0)=true:=by simp[h]
  have H:=aa h;clear h;go_wp2_with fail;have hs:=pO Al.ae;exact HE.ae H.ae _ _ rfl rfl rfl (((Al.ae.aT 0 _).aT 1 _).aT 2 _) hs):p:=h
theorem zgH.KbQ(h:p:=by
 have hh:=λ h0 (T':x_) a0 a1 a2 a3 a4 a5=>hO h0 T' a0 a1 a2 a3 a4 a5
 simp only[eE,eZ,Tryz.f11,Option.getD_some] at hh;have ajS:=aa hh;have HE:=aa hE;have Al:=aa HX;open zdF in exact ZbF):p:=h
theorem Z4 (g3 g6 gp:Nat)(er:Int)(lv ov:Value)(T:x_)(hT:T.size=183)(h3:T.getD 3 undef=aw g3)(h6:T.getD 6 undef=aw g6)(h8:T.getD 8 undef=aw gp)(h9:T.getD 9 undef=af er)(h10:T.getD 10 undef=lv)(h11:T.getD 11 undef=ov)(d:List Deferred)(w:rQ)(Q:yD)
  (HX:aB w g6 33 #[ay,ay,af 0])
  (hE:er≠0->∀a W,a.defers=d->a.tmps.getD 6 undef=aw g6->a.tmps.getD 7 undef=af er->aB W g6 33 #[ay,ay,af 0]->aj w W->Q .ret a W)
  (hO:er=0->∀T':x_,T'.size=183->T'.getD 3 undef=aw g3->T'.getD 6 undef=aw g6->T'.getD 8 undef=aw gp->T'.getD 10 undef=lv->T'.getD 11 undef=ov->(eZ eE 8).wp Tryz.prog Q { tmps:=T',defers:=d } w):
  (eZ eE 7).wp Tryz.prog Q { tmps:=T,defers:=d } w:=by
 open zgH in exact ZeH
def xe (w:rQ)(r:aX):Prop:=RV w w.heap.size r.A r.l/\r.l.length<=1000/\∀v∈r.l,v.Ok
variable{w':rQ}
theorem xe.later{w:rQ} {r:aX}(h:xe w r)(hb:aj w w'):xe w' r:=⟨h.1.later hb,h.2⟩
theorem zcC.Kax(h:p:=by
 have iz:=aa Gu;have c11:=AK.c11;clear akv hE hO AK SZ qK hfn hz hS hw AL Ai G3 hlv Wy NT Gu;simp only[eE,eZ,Tryz.f11,Option.getD_some];refine wp_seq_k λ K hK=>?_
 have Ed:=aa hK;clear hK;by_cases h:e0=0
 ·subst h;obtain⟨gd,hgd⟩:∃gd,gd=q.aI:=⟨_,rfl⟩;rw[<- hgd] at c11;have Om:=aa hgd;clear hgd
  cases gd with
  | false=>have N8:=aa (show lp q p cols 0 (rows.map (·.l))=.ok (rows.map (·.l)) by unfold lp;rw[if_neg V0,if_pos (LW.ae.trans Om.ae.symm)]);have HOV:=aa (show ie p cols=cols by unfold ie;rw[if_neg TaV]);go_wp2_with fail;refine Ed.ae _ _ (HCK.ae 0 _ _ _ rfl rfl rfl rfl rfl rfl rfl w Q A2.ae (λ KK=>absurd rfl KK) λ _ T' a0 a1 a2 a3 a4 a5=>?_);have ho:=HOL.ae _ N8.ae T' w rows EA ec CA cc a0 a1 a2 a3 a4 (by rw[HOV.ae];exact a5) (Below.refl _ _) iz.ae rfl HJ.ae (by have:=GZ.ae;omega) (by rw[HOV.ae];exact nI.ae.gr.rc);exact ho
  | true=>
    have c10:=nI.ae.c10;go_wp2_with fail;clear c10 c11
    have agZ:Tr.cH (q.aF++p.st.aD.flatMap Tr.args):=by
     rw[dO];intro t ht;rcases List.mem_append.1 ht with ht | ht
     ·exact dO.1 HFN.ae t ht
     ·obtain⟨a,ha,hta⟩:=List.mem_flatMap.1 ht;have:=dO.1 je.ae.aD a ha;obtain⟨op,v,name,width,args⟩:=a;unfold Tr.ok at this;exact dO.1 this.2.2.2.2.2 t hta
    have arE:=aa agZ;clear agZ;refine(RU gp q.aF p.st.aD cols yg ya L.g.A L.g.c CA cc AA ac rows EA ec w nI.ae.gr nI.ae.ops je.ae.agW je.ae.few arE.ae HK.ae (by have:=HS.ae;omega) (by have:=mr.ae;omega) iz.ae GZ.ae (λ r hr=>⟨by have:=(HJ.ae r hr).2.1;omega,(HJ.ae r hr).2.2⟩)).mono ?_;rintro e w2 ⟨b2,hm⟩;have fY:=aa b2;clear b2;have HGI:=aa (λ gs=>aeT (cols:=cols) (gs:=gs) je.ae.agW arE.ae (λ r hr=>(HJ.ae r hr).2.2) GZ.ae)
    cases hgr:xd q.aF p.st.aD cols (rows.map (·.l))with
    | error er=>
      rw[hgr] at hm;obtain⟨hne,v,rfl⟩:=hm;have t1:(er==0)=false:=by simp[hne]
      have N8:=aa (show lp q p cols 0 (rows.map (·.l))=.error er by unfold lp;rw[if_neg V0,if_neg TaV,hgr]);have nO:=aa hne;clear hgr hne;go_wp2_with fail;have Lw:=HE.ae er N8.ae nO.ae;refine Ed.ae _ _ (HCK.ae er _ _ _ rfl rfl rfl rfl rfl rfl rfl w2 Q (A2.ae.later fY.ae) (λ _ a W e1 e2 e3 k6 bW=>Lw a W e1 e2 e3 k6 (Below.trans fY.ae (bW.mono fY.ae.size))) λ KK=>absurd KK nO.ae)
    | ok gs=>
      rw[hgr] at hm;obtain⟨v,cl,rfl,ho,hmi,Ez⟩:=hm;have YM:=HGI.ae gs hgr;have N8:=aa (show lp q p cols 0 (rows.map (·.l))=if (cT p.st.aF p.having gs).2≠0 then .error (cT p.st.aF p.having gs).2 else .ok (cT p.st.aF p.having gs).1 by unfold lp;rw[if_neg V0,if_neg TaV,hgr]);obtain⟨Kx,c2,hv2,hr2⟩:=Tz ho hmi;subst hv2;have Xs:=aa (nI.ae.later fY.ae);have c14:=Xs.ae.c14;have hcn:cl.length<=301:=by have h1:=congrArg List.length Ez;rw[length_map] at h1;have h2:=YM.1;have h3:=GZ.ae;omega
      have aeY:∀r∈cl,xe w2 r:=λ r hr=>by
       have hx:r.l∈gs:=by rw[<- Ez];exact mem_map_of_mem hr
       obtain⟨x1,x2⟩:=YM.2 _ hx;obtain⟨A3,c3,e3,h3⟩:=Hz (hmi r hr);unfold aX.v at e3;injection e3 with e3;refine⟨by rw[e3];exact h3,by have:=HS.ae;omega,x2⟩
      have HRI:=aa aeY;have HCN:=aa hcn;have Yc:=aa hr2;have axz:=aa Ez;have HMI:=aa hmi;clear hgr YM hcn aeY hr2 Ez hmi ho HGI;go_wp2_with fail;clear c14;have hyl:yh.length=p.having.length:=(dZ Xs.ae.tj).symm;refine(Ue p.st.aF VA vc p.having yh JA jc cl Kx c2 w2 (by have:=HO.ae;omega) (by have:=HCN.ae;omega) (λ r hr=>⟨by have:=(HRI.ae r hr).2.1;omega,(HRI.ae r hr).2.2⟩) je.ae.having Xs.ae.tj (by rw[hyl];have:=A1.ae;omega) Xs.ae.rj Xs.ae.rv Yc.ae).mono ?_;rintro e w3 ⟨v3,rfl,ho3,b3⟩;have XS:=aa (Y8 p.st.aF p.having cl);have LK:ie p cols=p.st.aF:=by unfold ie;rw[if_pos (by rw[LW.ae,<- Om.ae])]
      have HOV:=aa LK;have UF:=aa ho3;have tz:=aa b3;rw[axz.ae] at XS ⊢;have Z5:∀r∈jE (eK p.st.aF p.having) cl,xe w3 r:=λ r hr=>(HRI.ae r (List.mem_filter.1 hr).1).later tz.ae
      have ua:(jE (eK p.st.aF p.having) cl).length<=301:=Nat.le_trans (length_filter_le _ _) HCN.ae;obtain⟨A4,c4,hv4,hr4⟩:=NA UF.ae λ r hr=>(Z5 r hr).1
      subst hv4;have HR4:=aa hr4;have axB:=aa Z5;have HKN:=aa ua;obtain⟨e3,he3⟩:∃e3,e3=(cT p.st.aF p.having gs).2:=⟨_,rfl⟩;rw[<- he3] at N8 ⊢;have HE3:=aa he3;clear ho3 b3 LK Z5 ua hr4 he3 hyl;by_cases Lw:e3=0
      ·have HZ:=aa Lw;have akx:=aa (show lp q p cols 0 (rows.map (·.l))=.ok (cT p.st.aF p.having gs).1 by rw[N8.ae,if_neg (by simp[Lw])]);clear Lw;go_wp2_with fail;refine Ed.ae _ _ (HCK.ae e3 _ _ _ rfl rfl rfl rfl rfl rfl rfl w3 Q ((A2.ae.later fY.ae).later tz.ae) (λ KK=>absurd HZ.ae KK) λ _ T' a0 a1 a2 a3 a4 a5=>?_);have kM:=Below.trans fY.ae (tz.ae.mono fY.ae.size);have ho:=HOL.ae _ akx.ae T' w3 (jE (eK p.st.aF p.having) cl) A4 c4 VA vc a0 a1 a2 a3 a4 (by rw[HOV.ae];exact a5) kM HR4.ae XS.ae axB.ae HKN.ae (by rw[HOV.ae];exact(Xs.ae.later tz.ae).rv);exact ho
      ·have HZ:=aa Lw;have akx:=aa (show lp q p cols 0 (rows.map (·.l))=.error e3 by rw[N8.ae,if_pos Lw]);clear Lw;go_wp2_with fail;have hx:=HE.ae e3 akx.ae HZ.ae;refine Ed.ae _ _ (HCK.ae e3 _ _ _ rfl rfl rfl rfl rfl rfl rfl w3 Q ((A2.ae.later fY.ae).later tz.ae) (λ _ a W e1 e2 e3 k6 bW=>hx a W e1 e2 e3 k6 (Below.trans fY.ae ((Below.trans tz.ae (bW.mono tz.ae.size)).mono fY.ae.size))) λ KK=>absurd KK HZ.ae)
 ·have N8:=aa (show lp q p cols e0 (rows.map (·.l))=.error e0 by unfold lp;rw[if_pos h]);have t1:(e0==0)=false:=by simp[h]
  have H:=aa h;clear h;go_wp2_with fail;have Lw:=HE.ae e0 N8.ae H.ae;exact Ed.ae _ _ (HCK.ae e0 _ _ _ rfl rfl rfl rfl rfl rfl rfl w Q A2.ae (λ _ a W e1 e2 e3 k6 bW=>Lw a W e1 e2 e3 k6 bW) λ KK=>absurd KK H.ae)):p:=h
theorem zgI.KbQ(h:p:=by
 have akv:=λ(er:Int) (lv ov:Value) T hT a0 a1 a2 a3 a4 a5 w Q=>Z4 g3 g6 gp er lv ov T hT a0 a1 a2 a3 a4 a5 d w Q
 have Ly:=aa hO;simp only[eE,eZ,Tryz.f11,Option.getD_some] at akv hO;have HCK:=aa akv;have HOL:=aa hO;have HE:=aa hE;open zcC in exact Za7):p:=h
theorem aeU (w0:rQ)(g3 g6 gp:Nat)(q:Qy)(L:QL)(p:ix)(cols:List aV)(CA:z_)(cc:Nat)(yg ya yi yh yo:u_)(AA:z_)(ac:Nat)(VA:z_)(vc:Nat)(HA:z_)(hc:Nat)(IA:z_)(ic:Nat)(JA:z_)(jc:Nat)(DA:z_)(dc:Nat)(e0:Int)(rows:List aX)(base:Nat)(lv:Value)(T:x_)(hT:T.size=183)(h3:T.getD 3 undef=aw g3)(h6:T.getD 6 undef=aw g6)(h8:T.getD 8 undef=aw gp)(h9:T.getD 9 undef=af e0)(h10:T.getD 10 undef=lv)(h11:T.getD 11 undef=.slice CA cols.length cc)(d:List Deferred)(w:rQ)(Q:yD)
  (AK:PlE w gp q L p cols CA cc yg ya yi yh yo AA ac VA vc HA hc IA ic JA jc DA dc) (SZ:RX q p) (qK:p.aI=q.aI) (hfn:Tr.cH q.aF) (hz:q.aF.length<=1000) (hS:q.aF.length+p.st.aD.length<=1000) (hw:p.st.aF.length<=100000) (AL:cols.length<=100000) (Ai:p.having.length<=100000)
  (G3:aB w g6 33 #[ay,ay,af 0]) (hlv:aH cq 38 1 w base lv rows) (Wy:∀r∈rows,xe w r) (NT:rows.length<=300)
  (hE:∀er,lp q p cols e0 (rows.map (·.l))=.error er->er≠0->∀a W,a.defers=d->a.tmps.getD 6 undef=aw g6->a.tmps.getD 7 undef=af er->aB W g6 33 #[ay,ay,af 0]->aj w W->Q .ret a W)
  (hO:∀left,lp q p cols e0 (rows.map (·.l))=.ok left->∀(T':x_) W (rows':List aX) EA ec OA oc,T'.size=183->T'.getD 3 undef=aw g3->T'.getD 6 undef=aw g6->T'.getD 8 undef=aw gp->T'.getD 10 undef=.slice EA rows'.length ec->T'.getD 11 undef=.slice OA (ie p cols).length oc->aj w W->RR W W.heap.size EA rows'->rows'.map (·.l)=left->(∀r∈rows',xe W r)->rows'.length<=301->RC W W.heap.size OA (ie p cols)->(eZ eE 8).wp Tryz.prog Q { tmps:=T',defers:=d } W):
  (eZ eE 6).wp Tryz.prog Q { tmps:=T,defers:=d } w:=by
 obtain⟨EA,ec,aeW,Gu⟩:=NA hlv λ r hr=>(Wy r hr).1
 subst aeW;open zgI in exact ZeH
theorem Z6 (p:ix)(cols:List aV)(rows:List aX):xM p cols (rows.map (·.l))=if ee (ie p cols) (p.items++p.order) rows≠0 then .error (ee (ie p cols) (p.items++p.order) rows)else .ok (wV p.items p.order (ie p cols) rows):=by
 have e1:((rows.map (·.l)).map (zB p (ie p cols))).map exE=rows.map λ r=>ny (br (ie p cols) r.l (p.items++p.order)):=by
  rw[map_map,map_map];refine map_congr_left λ r _=>?_
  show exE (zB p (ie p cols) r.l)=_;unfold zB;cases br (ie p cols) r.l (p.items++p.order)<;> rfl
 have e2:((rows.map (·.l)).map (zB p (ie p cols))).filterMap uq=wV p.items p.order (ie p cols) rows:=by unfold wV;rw[map_map,filterMap_map];congr 1
 rw[Gz,Dg,e1,e2];rfl
noncomputable def xf (q:Qy) (p:ix) (cols:List aV) (e0:Int) (rows:y_):tE (y_):=match lp q p cols e0 rows with
 | .error e=> .error e
 | .ok left=>match xM p cols left with
   | .error e=> .error e
   | .ok ls=> .ok ((match q.lim with | []=>mf (q.ord.map λ o:Tr×Bool=>o.2) ls | n::_=>(mf (q.ord.map λ o:Tr×Bool=>o.2) ls).take n.toNat).map fg.row)
theorem aeZ (q:Qy)(cols:List aV)(rows:y_):jx q cols rows=match dV q cols with
 | .error e=> .error e
 | .ok p=>if rows.any (λ r=> !iE cols r)=true then .error 40 else match xf q p cols (cT cols q.bF rows).2 (cT cols q.bF rows).1 with
   | .error e=> .error e
   | .ok la=> .ok (p.head,la):=by
 unfold jx xf
 cases dV q cols with
 | error e=>rfl
 | ok p=>
   dsimp only;split
   ·rfl
   ·rw[Z3]
    cases lp q p cols (cT cols q.bF rows).2 (cT cols q.bF rows).1 with
    | error e=>rfl
    | ok left=>dsimp only;cases xM p cols left <;> rfl
theorem Z7 (w0:rQ)(g3 g6 gp:Nat)(q:Qy)(L:QL)(p:ix)(cols:List aV)(CA:z_)(cc:Nat)(yg ya yi yh yo:u_)(AA:z_)(ac:Nat)(VA:z_)(vc:Nat)(HA:z_)(hc:Nat)(IA:z_)(ic:Nat)(JA:z_)(jc:Nat)(DA:z_)(dc:Nat)(e0:Int)(rows:List aX)(base:Nat)(lv:Value)(T:x_)(hT:T.size=183)(h3:T.getD 3 undef=aw g3)(h6:T.getD 6 undef=aw g6)(h8:T.getD 8 undef=aw gp)(h9:T.getD 9 undef=af e0)(h10:T.getD 10 undef=lv)(h11:T.getD 11 undef=.slice CA cols.length cc)(d:List Deferred)(w:rQ)(Q:yD)
  (hPE:PlE w gp q L p cols CA cc yg ya yi yh yo AA ac VA vc HA hc IA ic JA jc DA dc) (Ay:RX q p) (Te:p.aI=q.aI) (hgo:Tr.cH q.aF) (hng:q.aF.length<=1000) (hsm:q.aF.length+p.st.aD.length<=1000) (Ai:p.st.aF.length<=100000) (cL:cols.length<=100000) (hyh:p.having.length<=100000)
  (NT:q.items.length<=1000) (gu:q.ord.length<=1000)
  (ur:fE w0 (q.ord.map λ x=>(x.1,Value.bool x.2)) L.o.A L.o.n) (pN:L.l.n=q.lim.length/\Vk w0 w0.heap.size L.l.A q.lim) (hlm:∀n∈q.lim,0<=n/\n<=9223372036854775807) (fJ:q.lim.length<=1) (hb0:aj w0 w) (hg3:aB w g3 27 (fN q L))
  (rH:aB w g6 33 #[ay,ay,af 0]) (axD:w0.heap.size<=g6) (hlv:aH cq 38 1 w base lv rows) (rP:∀r∈rows,xe w r) (Rb:rows.length<=300)
  (hE:∀er,xf q p cols e0 (rows.map (·.l))=.error er->er≠0->∀a W,a.defers=d->a.tmps.getD 6 undef=aw g6->a.tmps.getD 7 undef=af er->aB W g6 33 #[ay,ay,af 0]->aj w0 W->Q .ret a W)
  (hO:∀la,xf q p cols e0 (rows.map (·.l))=.ok la->∀a W ov (out:List aX),a.defers=d->a.tmps.getD 6 undef=aw g6->a.tmps.getD 7 undef=af 0->aB W g6 33 #[.slice HA p.head.length hc,ov,af out.length]->aH cq 38 1 W w0.heap.size ov out->(∀r∈out,jf W r)->out.map (·.l)=la->aj w0 W->w.grownBy W (some g6)->Q .ret a W):
  (eZ eE 6).wp Tryz.prog Q { tmps:=T,defers:=d } w:=by
 have HG:∀ {W:rQ},w.grownBy W (some g6)->aj w0 W:=λ h=>dS hb0 h axD
 refine aeU w0 g3 g6 gp q L p cols CA cc yg ya yi yh yo AA ac VA vc HA hc IA ic JA jc DA dc e0 rows base lv T hT h3 h6 h8 h9 h10 h11 d w Q hPE Ay Te hgo hng hsm Ai cL hyh rH hlv rP Rb ?_ ?_
 ·intro er hl hne a W e1 e2 e3 k6 bW;exact hE er (by unfold xf;rw[hl]) hne a W e1 e2 e3 k6 (Below.trans hb0 (bW.mono hb0.size))
 ·intro left hl T1 W1 aha EA ec OA oc s1 s2 s3 s4 s5 s6 b1 C4 hle hri axE hrc;have arG:=hPE.later b1;have Z8:aj w0 W1:=Below.trans hb0 (b1.mono hb0.size);have DU:=Z6 p cols aha;rw[hle] at DU;refine Xa w0 gp g3 g6 p.items p.order (ie p cols) yi yo IA ic DA dc OA oc aha EA ec T1 s1 s2 s3 s4 s5 s6 d W1 Q (arG.run hrc) (dO.2 λ t ht=>by
   rcases List.mem_append.1 ht with ht | ht
   ·exact dO.1 Ay.items t ht
   ·exact dO.1 Ay.order t ht) (by rw[Ay.li];omega) (by rw[Ay.lo];omega) ?_ (λ _=>by rw[Ay.li];omega) C4 axE (λ r hr=>(hri r hr).2) (rH.later b1) ?_ ?_
  ·unfold ie;split
   ·omega
   ·omega
  ·intro hne a W e1 e2 e3 k6 gW;rw[if_pos hne] at DU;refine hE _ (by unfold xf;rw[hl];dsimp only;rw[DU]) hne a W e1 e2 e3 k6 (HG (aY (aO b1) gW))
  ·intro hz T2 W2 LA lc dM s1 s2 s3 s4 s5 b2 aeW axF hls Ii;rw[if_neg (by simp[hz])] at DU;have afa:=arG.later b2;have aky:aj w0 W2:=Below.trans Z8 (b2.mono Z8.size);have k3:=((hg3.later b1).later b2);have c7:=k3.cell 7;unfold fN at c7;simp only[Uaa] at c7;rw[pN.1] at c7;refine U5 gp g3 g6 q.ord L.o.A L.o.n L.o.c q.lim L.l.A L.l.c dM W1.heap.size LA lc HA p.head.length hc T2 s1 s2 s3 s4 s5 d W2 Q TD TD afa.gr.lt afa.c12 afa.c6 afa.blk (ur.later aky) (λ b hb w' hg=>ur.later (dS aky hg (Nat.le_trans Z8.size hb))) c7 ⟨_,k3⟩ ?_ hlm fJ ((rH.later b1).later b2) b2.size aeW (λ x hx=>by obtain⟨q1,q2,q3,q4⟩:=axF x hx;exact⟨q1,q2,q3,by rw[q4,Ay.lo]⟩) ?_
   ·rcases pN.2 with h |⟨b,off,x1,x2,x3⟩
    ·exact .inl h
    ·exact .inr ⟨b,off,x1,Nat.lt_of_lt_of_le x2 Z8.size,λ i x hx=>(aky.cell (p:=⟨b,off+i,none⟩) x2).trans (x3 i x hx)⟩
   ·rintro a W ov out e1 e2 e3 k6 oW hk zF ⟨wm,gm,gW⟩;have g1:W1.grownBy W (some g6):=aY (pK (aO b2) gm (Nat.le_refl _) λ q hq=>(aeW.lt hq).2.1) gW;have g2:w.grownBy W (some g6):=aY (aO b1) g1;refine hO _ ?_ a W ov out e1 e2 e3 k6 (oW.down Z8.size) hk zF (HG g2) g2;unfold xf;rw[hl];dsimp only;rw[DU,<- hls];cases q.lim <;> rfl
def fX (w0:rQ)(g n a b:Nat)(D:Nat->aX)(e:Ending)(w':rQ):Prop:=e=.returned (.tuple #[])/\∃E,SS w0 g n w' E/\Sw a b D E/\gV E a b
def Rs (E:Nat->aX)(s n:Nat):Prop:=∀a,s ∣ a->gV E a (min (a+s) n)
def Low (E:Nat->aX)(s a:Nat):Prop:=∀x,s ∣ x->x+s<=a->gV E x (x+s)
def U2 (E:Nat->aX)(s a n:Nat):Prop:=∀x,s ∣ x->a<=x->gV E x (min (x+s) n)
def wU (w:rQ)(e:Ending)(w':rQ):Prop:=e=.returned (.tuple #[])/\w'=w
variable{rs:List aX}
theorem RR.later{w:rQ}  (h:RR w w.heap.size A rs)(hb:aj w w'):RR w' w'.heap.size A rs:=by
 rcases h with h |⟨b,off,h1,h2,h3⟩
 ·exact .inl h
 ·exact .inr ⟨b,off,h1,Nat.lt_of_lt_of_le h2 hb.size,λ i r hr=>⟨(hb.cell (p:=⟨b,off+i,none⟩) h2).trans (h3 i r hr).1,((h3 i r hr).2.below hb).more hb.size⟩⟩
theorem JS (a b:Val)(w:rQ):ar 144 #[.agg (aJ a),.agg (aJ b)] w λ e w'=>e=.returned (af (bM a b))/\aj w w':=by
 by_cases hk:a.k=b.k
 ·have t1:(a.k != b.k)=false:=by simpa using hk
  by_cases hn:a.n=b.n
  ·have t2:(a.n != b.n)=false:=by simpa using hn
   have hv:bM a b=lu a.s b.s:=by unfold bM or3 lQ;rw[if_neg (show¬a.k < b.k by omega),if_neg (show¬b.k < a.k by omega),if_pos rfl,if_neg (show¬a.n < b.n by omega),if_neg (show¬b.n < a.n by omega),if_pos rfl]
   have HV:=aa hv;clear hv hk hn;cases he:(a.s.toList==b.s.toList)
   ·cases hl:Op.bytesLess a.s.toList b.s.toList
    ·have HQ:=aa (show bM a b=1 by rw[HV.ae];unfold lu;rw[if_neg (by rw[hl];simp),if_neg (by rw[he];simp)]);exact Zbm
    ·have HQ:=aa (show bM a b= -1 by rw[HV.ae];unfold lu;rw[if_pos hl]);exact Zbm
   ·have hl:Op.bytesLess a.s.toList b.s.toList=false:=by
     have:a.s.toList=b.s.toList:=by simpa using he
     rw[this];exact kt _
    have HQ:=aa (show bM a b=0 by rw[HV.ae];unfold lu;rw[if_neg (by rw[hl];simp),if_pos he]);exact Zbm
  ·have t2:(a.n != b.n)=true:=by simpa using hn
   by_cases hl:a.n < b.n
   ·have t3:=decide_eq_true hl;have HQ:=aa (show bM a b= -1 by unfold bM or3 lQ;rw[if_neg (show¬a.k < b.k by omega),if_neg (show¬b.k < a.k by omega),if_pos rfl,if_pos hl,if_neg V0]);clear hk hn;exact Zbm
   ·have t3:=decide_eq_false hl;have HQ:=aa (show bM a b=1 by unfold bM or3 lQ;rw[if_neg (show¬a.k < b.k by omega),if_neg (show¬b.k < a.k by omega),if_pos rfl,if_neg hl,if_pos (show b.n < a.n by omega),if_neg V0]);clear hk hn;exact Zbm
 ·have t1:(a.k != b.k)=true:=by simpa using hk
  by_cases hl:a.k < b.k
  ·have t3:=decide_eq_true hl;have HQ:=aa (show bM a b= -1 by unfold bM or3 lQ;rw[if_pos hl,if_neg V0]);clear hk;exact Zbm
  ·have t3:=decide_eq_false hl;have HQ:=aa (show bM a b=1 by unfold bM or3 lQ;rw[if_neg hl,if_pos (show b.k < a.k by omega),if_neg V0]);clear hk;exact Zbm
theorem zdu.KaI(h:p:=by clear fI y2 x0 x1 x2 y0 y1 Kx;replace hB:=ai.then hB hL;clear hL;exact Zcc):p:=h
theorem zfA.Kbp(h:p:=by go_big_quiet_step ((go_at_call 144;exact aP (Nat.le_refl _) (JS v v' _)));open zdu in exact ZbD):p:=h
theorem Xt (A:z_)(c:Nat)(l:v_)(A':z_)(c':Nat)(l':v_)(w:rQ)(h:RV w w.heap.size A l)(h':RV w w.heap.size A' l')(hm:l.length<=1000)(hm':l'.length<=1000):
  ar 90 #[.slice A l.length c,.slice A' l'.length c'] w λ e w'=>e=.returned (af (bR l l'))/\aj w w':=by
 have HR:=aa h;have HR':=aa h';clear h h';go_enter Tryz.func90,Tryz.ntmps90;go_wp2_with fail;go_loopw [5] (λ i wr=>∃k:Nat,k<=l.length/\k<=l'.length/\i=af k/\bR (l.drop k) (l'.drop k)=bR l l'/\aj w wr) (λ i _=>l.length - (intOf i).toNat);case atStart=>exact Zhc
 case round=>
  obtain⟨k,hk,Sn,rfl,hd,hB⟩:=hrel;have HD:=aa hd;clear hd;by_cases hlt:k < l.length
  ·by_cases BG:k < l'.length
   ·obtain⟨b,off,rfl,hb,c0,c1,c2⟩:=(HR.ae.later hB).at_ hlt;obtain⟨b',off',rfl,hb',d0,d1,d2⟩:=(HR'.ae.later hB).at_ BG;have HS:=aa (Fu l l' k hlt BG);generalize l[k]=v at*;generalize l'[k]=v' at*;have x0:=λ q:Ext wr.heap.size wr=>(q.h.cell (p:=⟨b,off+k*3,none⟩) hb).trans c0
    have x1:=λ q:Ext wr.heap.size wr=>(q.h.cell (p:=⟨b,off+k*3+1,none⟩) hb).trans c1
    have x2:=λ q:Ext wr.heap.size wr=>(q.h.cell (p:=⟨b,off+k*3+2,none⟩) hb).trans c2
    have y0:=λ q:Ext wr.heap.size wr=>(q.h.cell (p:=⟨b',off'+k*3,none⟩) hb').trans d0
    have y1:=λ q:Ext wr.heap.size wr=>(q.h.cell (p:=⟨b',off'+k*3+1,none⟩) hb').trans d1
    have Kx:=λ q:Ext wr.heap.size wr=>(q.h.cell (p:=⟨b',off'+k*3+2,none⟩) hb').trans d2
    clear c0 c1 c2 d0 d1 d2;go_upto_region 4 with fail;refine aW 9 wr.heap.size wr (Below.refl _ _) WC WC WC WC ?_;open zfA in exact ZdF
   ·have HS:=aa (Fv l l' k hlt TD);have n1:¬l.length < l'.length:=by omega
    have n2:l'.length < l.length:=by omega
    exact ZcV
  ·by_cases BG:k < l'.length
   ·have HS:=aa (Fw l l' k TD BG);have n1:l.length < l'.length:=by omega
    exact ZcV
   ·have HS:=aa (Le l l' k TD TD);have n1:¬l.length < l'.length:=by omega
    have n2:¬l'.length < l.length:=by omega
    exact ZcV
theorem Xu (A:z_)(c:Nat)(l:v_)(A':z_)(c':Nat)(l':v_)(w:rQ)(h:RV w w.heap.size A l)(h':RV w w.heap.size A' l')(hm:l.length<=1000)(hm':l'.length<=1000):
  ar 53 #[.slice A l.length c,.slice A' l'.length c'] w λ e w'=>e=.returned (.bool (bR l l'==0))/\aj w w':=by have HL:=Xt A c l A' c' l' w h h' hm hm';clear h h';go_enter Tryz.func53,Tryz.ntmps53;go_wp2_with fail;refine HL.mono ?_;exact ZcP
theorem zdv.KaI(h:p:=by
 clear fI y2;go_wp2_with fail;go_roundw;case rel=>exact⟨i+1,vg,by go_num,ai.then hB hL⟩
 case measure=>exact ZaU):p:=h
theorem zfB.Kbp(h:p:=by go_big_quiet_step ((go_at_call 53;exact aP (Nat.le_refl _) (hc1 _)));open zdv in exact ZbD):p:=h
theorem NC (A:z_)(c:Nat)(rs:List aX)(A':z_)(c':Nat)(ss:List aX)(w:rQ)(h:RR w w.heap.size A rs)(h':RR w w.heap.size A' ss)(he:rs.map (·.l)=ss.map (·.l))(hm:rs.length<=1000)(hl:∀r∈rs,r.l.length<=1000):
  ar 26 #[.slice A rs.length c,.slice A' ss.length c'] w λ e w'=>e=.returned (.bool true)/\aj w w':=by
 have hlen:ss.length=rs.length:=by simpa using(congrArg List.length he).symm
 have NU:=aa (show∀i (h1:i < rs.length) (h2:i < ss.length),ss[i].l=rs[i].l from λ i h1 h2=>by
  have:=congrArg (λ l=>l[i]?) he
  simp only[getElem?_map,getElem?_eq_getElem h1,getElem?_eq_getElem h2,Option.map_some,Option.some.injEq] at this
  exact this.symm)
 have NZ:=aa hlen;have HR:=aa h;have HR':=aa h';have HL:=aa hl;rw[hlen];clear he h h' hl hlen;go_enter Tryz.func26,Tryz.ntmps26;go_wp2_with fail;go_loopw [5] (λ Kx wr=>∃k:Nat,k<=rs.length/\Kx=af k/\aj w wr) (λ Kx _=>rs.length - (intOf Kx).toNat);case atStart=>exact⟨0,Nat.zero_le _,rfl,Below.refl _ _⟩
 case round=>
  obtain⟨i,hi,rfl,hB⟩:=hrel;by_cases vg:i < rs.length
  ·have ZC:i < ss.length:=by rw[NZ.ae];exact vg
   obtain⟨b1,o1,rfl,l1,c1,r1⟩:=(HR.ae.later hB).at_ vg;obtain⟨b2,o2,rfl,l2,c2_,r2⟩:=(HR'.ae.later hB).at_ ZC;have k1:=λ q:Ext wr.heap.size wr=>(q.h.cell (p:=⟨b1,o1+i,none⟩) l1).trans c1
   have k2:=λ q:Ext wr.heap.size wr=>(q.h.cell (p:=⟨b2,o2+i,none⟩) l2).trans c2_
   have hc1:=λ q:Ext wr.heap.size wr=>Xu rs[i].A rs[i].c rs[i].l ss[i].A ss[i].c ss[i].l q.w (r1.later q.h) (r2.later q.h) (HL.ae _ (getElem_mem vg)) (by rw[NU.ae i vg ZC];exact HL.ae _ (getElem_mem vg))
   have t1:(bR rs[i].l ss[i].l==0)=true:=by rw[NU.ae i vg ZC,xE];rfl
   clear c1 c2_ l1 l2 r1 r2;go_upto_region 6 with fail;refine aW 10 wr.heap.size wr (Below.refl _ _) WC WC WC WC ?_;open zfB in exact ZdF
  ·go_wp2_with fail;go_ret;exact⟨rfl,hB⟩
theorem afb:Tryz.f11.body=some eE:=by unfold eE;simp only[Tryz.f11,Option.getD_some]
theorem afc (a b c:Value):(#[a,b,c]++Array.replicate (Tryz.f11.ntmps - (#[a,b,c]:x_).size) undef).size=183:=by simp[Tryz.f11]
variable{T:x_}{g6:Nat}{a b c:Value}{W:rQ}
theorem zge.KbF(h:p:=by simp[results,Tryz.f11,go_sem,e6,e7,v0,v1,v2]):p:=h
theorem JT(h6:T.getD 6 undef=aw g6)(h7:T.getD 7 undef=u)(HV:aB W g6 33 #[a,b,c]):(results Tryz.f11 T).run Tryz.prog W=.ok (.tuple #[.agg #[a,b,c],u]) W:=by
 have e6:T[6]?.getD undef=aw g6:=by rw[<- h6];simp[Array.getD_eq_getD_getElem?]
 have e7:T[7]?.getD undef=u:=by rw[<- h7];simp[Array.getD_eq_getD_getElem?]
 open zge in exact Zei
def DV (q:Qy)(cols:List aV)(rows:y_)(w0:rQ)(e:Ending)(W:rQ):Prop:=
 aj w0 W/\match jx q cols rows with
 | .error er=>er≠0/\e=.returned (.tuple #[.agg #[ay,ay,af 0],af er])
 | .ok (hd,la)=>∃HA hc ov out,e=.returned (.tuple #[.agg #[.slice HA hd.length hc,ov,af la.length],af 0])/\aH aR 113 2 W w0.heap.size (.slice HA hd.length hc) hd/\aH cq 38 1 W w0.heap.size ov out/\(∀r∈out,jf W r)/\out.map (·.l)=la
theorem Z9{p:ix}(h:dV q cols=.ok p):∀n∈q.lim,0<=n:=by
 unfold dV at h;split at h
 ·cases h
 ·rename_i hn;intro n hm;rcases hl:q.lim with _ |⟨a,_ |⟨b,l⟩⟩
  ·rw[hl] at hm;cases hm
  ·rw[hl] at hm hn;rw[mem_singleton] at hm;subst hm;refine Int.not_lt.1 λ hlt=>hn (.inr (.inr (.inr ⟨rfl,hlt⟩)))
  ·rw[hl] at hn;exact absurd (.inr (.inr (.inl Taa))) hn
theorem Xv{p:ix}(h:dV q cols=.ok p):q.lim.length<=1:=by
 unfold dV at h;split at h
 ·cases h
 ·rename_i hn;exact Nat.not_lt.1 λ hlt=>hn (.inr (.inr (.inl hlt)))
theorem JU{p:ix}(h:dV q cols=.ok p):q.all.any (λ t=>decide (32 < t.depth))=false:=by
 unfold dV at h;split at h
 ·cases h
 ·split at h
  ·cases h
  ·rename_i hn;exact Bool.not_eq_true _▸hn
structure JV (w0:rQ) (q:Qy) (L:QL) (CA:z_) (cc:Nat) (cols:List aV) (RA:z_) (rows:List aX):Prop where
 qy:oX w0 q L
 ok:q.Ok
 pl:DM (Av q L CA cc cols) w0 q L cols
 cl:cols.length<=1000
 rr:RR w0 w0.heap.size RA rows
 each:∀r∈rows,r.l.length<=1000/\∀v∈r.l,v.Ok
 rn:rows.length<=300
 ng:q.aF.length<=1000
 ni:q.items.length<=1000
 no:q.ord.length<=1000
 nh:q.fK.length<=1000
 nw:q.bF.length<=1000
 sm:q.all.any (λ t=>decide (32 < t.depth))=false->q.aF.length+(q.aF.length+2*Tr.aN (q.items.map (·.1))+2*Tr.aN q.fK+2*Tr.aN (q.ord.map (·.1)))<=1000
 lim:∀n∈q.lim,n<=9223372036854775807
variable{RA:z_}
theorem JV.later{w:rQ}       (h:JV w0 q L CA cc cols RA rows)(hb:aj w0 w):JV w q L CA cc cols RA rows:=
 ⟨h.qy.later hb,h.ok,h.pl.later hb,h.cl,RR.later h.rr hb,h.each,h.rn,h.ng,h.ni,h.no,h.nh,h.nw,h.sm,h.lim⟩
theorem zdG.KaK(h:p:=by
 have HS:=aa (Below.trans HB.ae (hS.mono HB.ae.size));clear hz hne HX hS;go_wp2_with fail;refine Ia.ae _ _ ?_;clear Ia;refine wp_seq_k λ K1 hK1=>?_
 clear hK1;go_wp2_with fail;refine⟨rfl,_,JT rfl rfl (((Al.ae.aT 0 _).aT 1 _).aT 2 _),?_⟩;unfold DV;rw[HR.ae];exact⟨Below.trans HS.ae ((pO Al.ae).mono HS.ae.size),nO.ae,rfl⟩):p:=h
theorem zgG.KbP(h:p:=by clear pC;go_wp2_with fail;refine⟨rfl,_,JT rfl rfl (((MD.ae.aT 0 _).aT 1 _).aT 2 _),?_⟩;unfold DV;rw[HR.ae];exact⟨Below.trans Mt.ae ((pO MD.ae).mono Mt.ae.size),by decide,rfl⟩):p:=h
theorem zfZ.Kby(h:p:=by
 have d0:=wK.ae.cell 0;simp only[getElem?_toArray,getElem?_cons_zero] at d0;go_wp2_with fail;refine(Ni g4 cols CA cc rows RA rc W wK.ae.lt d0 (by have:=Tf.ae.cl;omega) (by have:=Tf.ae.rn;omega) (λ x hz=>by have:=(Tf.ae.each x hz).1;omega) Tf.ae.pl.ok.cols Tf.ae.rr).mono ?_;rintro e w2 ⟨rfl,hL⟩;have fY:=aa hL;have arI:((rows.map (·.l)).any λ r=> !iE cols r)=(rows.any λ r=> !iE cols r.l):=by rw[any_map];rfl
 have arJ:=aa arI;have Mt:=aa (Below.trans uY.ae (hL.mono uY.ae.size));have MD:=aa (Al.ae.later hL);clear hL arI d0
 cases pC:(rows.any λ r=> !iE cols r.l)with
 | true=>have HR:=aa (show jx q cols (rows.map (·.l))=.error 40 by rw[HRD.ae,HK.ae];dsimp only;rw[arJ.ae,pC,if_pos rfl]);open zgG in exact ZeF
 | false=>
   have HR:=aa (show jx q cols (rows.map (·.l))=(match xf q p cols (cT cols q.bF (rows.map (·.l))).2 (cT cols q.bF (rows.map (·.l))).1 with | .error e=> .error e | .ok la=> .ok (p.head,la)) by rw[HRD.ae,HK.ae];dsimp only;rw[arJ.ae,pC,if_neg V0];try (generalize xf q p cols _ _=z;cases z <;> rfl));clear pC;go_wp2_with fail;refine IY.ae _ _ ?_;clear IY;refine wp_seq_k λ K3 hK3=>?_
   have CW:=aa hK3;clear hK3;have zl:=aa (Tf.ae.later fY.ae);obtain⟨yw,ym,hR,Xd⟩:=RY zl.ae.pl.iw;have y3:=(tC.ae.later fY.ae).cell 3;have d0:=(wK.ae.later fY.ae).cell 0;unfold fN at y3;simp only[Uaa] at y3 d0;rw[ym] at y3;have yq:=aa hR;have Hb:=aa Xd;clear hR Xd ym;go_wp2_with fail;clear y3 d0;have hyl:yw.length=q.bF.length:=(dZ Hb.ae).symm;refine(Ue cols CA cc q.bF yw L.w.A L.w.c rows RA rc w2 (by have:=zl.ae.cl;omega) (by have:=zl.ae.rn;omega) (λ x hz=>⟨by have:=(zl.ae.each x hz).1;omega,(zl.ae.each x hz).2⟩) zl.ae.pl.qw Hb.ae (by rw[hyl];have:=zl.ae.nw;omega) yq.ae zl.ae.pl.ok.cols zl.ae.rr).mono ?_;rintro e w3 ⟨v3,rfl,ho3,b3⟩;have UF:=aa ho3;have tz:=aa b3;have XS:=aa (Y8 cols q.bF rows);have JW:=aa (Below.trans fY.ae (b3.mono fY.ae.size));clear ho3 b3 hyl;obtain⟨e0,hK4⟩:∃e0,e0=(cT cols q.bF (rows.map (·.l))).2:=⟨_,rfl⟩;rw[<- hK4] at HR ⊢;rw[<- XS.ae] at HR;clear hK4;go_wp2_with fail;refine CW.ae _ _ ?_;clear CW;refine wp_seq_k λ K5 hK5=>?_
   have HK5:=aa hK5;clear hK5;have d0:=(wK.ae.later JW.ae).cell 0;simp only[getElem?_toArray,getElem?_cons_zero] at d0;go_wp2_with fail;refine HK5.ae _ _ ?_;clear HK5 d0;have aEZ:=aa (Below.trans HS.ae (JW.ae.mono HS.ae.size));have axH:=aa (nI.ae.later JW.ae);have axI:=aa (Below.trans uY.ae (JW.ae.mono uY.ae.size));have ua:(jE (eK cols q.bF) rows).length<=300:=Nat.le_trans (length_filter_le _ _) HQ.ae.rn;have aeY:∀x∈jE (eK cols q.bF) rows,xe w3 x:=λ x hz=>by have hz:=(List.mem_filter.1 hz).1;obtain⟨i,hi,he⟩:=getElem_of_mem hz;obtain⟨_,_,_,_,_,hv⟩:=zl.ae.rr.at_ hi;rw[he] at hv;have hv3:RV w3 w3.heap.size x.A x.l:=hv.later tz.ae;exact⟨hv3,HQ.ae.each x hz⟩
   have hsm:=HQ.ae.sm (JU HK.ae);have hln:=LW.ae.ln
   have Kt:=λ T hT a3 a6 a8 a9 FI L9=>Z7 w0 g3 g6 gp q L p cols CA cc yg ya yi yh yo AA ac VA vc HA hc IA ic JA jc DA dc e0 (jE (eK cols q.bF) rows) w2.heap.size v3 T hT a3 a6 a8 a9 FI L9 [] w3 (bodyPost Tryz.prog Tryz.f11 (DV q cols (rows.map (·.l)) w0)) axH.ae LW.ae HFN.ae HQ.ae.pl.qg HQ.ae.ng TD TD (by have:=HQ.ae.cl;omega) (by rw[LW.ae.lh];have:=HQ.ae.nh;omega) HQ.ae.ni HQ.ae.no XQ.ae.pl.io XQ.ae.qy.l (λ n hn=>⟨Z9 HK.ae n hn,HQ.ae.lim n hn⟩) (Xv HK.ae) axI.ae (tC.ae.later JW.ae) (Al.ae.later JW.ae) axG.ae UF.ae aeY ua
    (λ er hr hne a W e1 e2 e3 HX hS=>⟨e1,_,JT e2 e3 HX,by
      unfold DV
      rw[HR.ae,hr]
      exact⟨hS,hne,rfl⟩⟩)
    (λ la hr a W ov out e1 e2 e3 HX oW hk zF hS gW=>⟨e1,_,JT e2 e3 HX,by
      unfold DV
      rw[HR.ae,hr]
      have hlen:out.length=la.length:=by rw[<- zF,length_map]
      rw[hlen]
      have hh:=(je.ae.later JW.ae).grown gW ((je.ae.later JW.ae).other (Al.ae.later JW.ae) V0)
      exact⟨hS,HA,hc,ov,out,rfl,hh.down HB.ae.size,oW,hk,zF⟩⟩)
   simp only[eE,eZ,Tryz.f11,Option.getD_some] at Kt;exact Kt _ rfl rfl rfl rfl rfl rfl rfl):p:=h
theorem zgm.KbI(h:p:=by
 have d0:=K3.ae.cell 0;unfold fN at y0 y1 c2 y3 y4 y5 y6 x7;simp only[Uaa] at y0 y1 c2 y3 y4 y5 y6 x7 d0;subst hW2;subst hW1;obtain⟨g3,hg3⟩:∃g3,g3=w0.heap.size:=⟨_,rfl⟩;have uX:=aa hg3;have hpl:=RS q L CA cc cols W3 HQ.ae.qy HQ.ae.ok HQ.ae.cl HQ.ae.pl;unfold oC at hpl;have PT:=aa hpl;have XQ:=aa hq;clear hq b1 hL b3 k3 k4 HX hb s1 s2 hg3 hpl;unfold fN at hW3;simp only[World.size_alloc] at y0 y1 c2 y3 y4 y5 y6 x7 d0 K3 K6 xl;simp only[eE,eZ,Tryz.f11,Option.getD_some];refine wp_seq_k λ K hK=>?_
 have Ed:=aa hK;clear hK;go_wp2_with fail;refine Ed.ae _ _ ?_;clear Ed;rw[<- hW3];have HW3:=aa hW3;clear hW3;obtain⟨g4,hg4⟩:∃g4,g4=w0.heap.size+1:=⟨_,rfl⟩;obtain⟨g6,rH⟩:∃g6,g6=w0.heap.size+1+1:=⟨_,rfl⟩;obtain⟨g3,hg3⟩:∃g3,g3=w0.heap.size:=⟨_,rfl⟩;have axG:=aa (show w0.heap.size<=g6 by omega);rw[<- rH] at K6 ⊢;rw[<- hg4] at d0 K3 ⊢;rw[<- hg3] at y0 y1 c2 y3 y4 y5 y6 x7 HC ⊢;clear hg3 hg4 rH xl uX HW3;refine wp_seq_k λ KK oL=>?_
 have Ia:=aa oL;clear oL;go_wp2_with fail;clear y0 y1 c2 y3 y4 y5 y6 x7 d0;refine PT.ae.mono ?_;intro e W hp;unfold JP at hp;have HRD:=aa (aeZ q cols (rows.map (·.l)))
 cases hz:dV q cols with
 | error er=>
   rw[hz] at hp;obtain⟨hne,rfl,hS⟩:=hp;have HR:=aa (show jx q cols (rows.map (·.l))=.error er by rw[HRD.ae,hz]);have t1:(er != 0)=true:=by simp[hne]
   have nO:=aa hne;have HX:=K6.ae.later hS;have Al:=aa HX;open zdG in exact ZbF
 | ok p=>rw[hz] at hp;obtain⟨gp,r,u,v,ya,yi,yh,yo,rfl,akz⟩:=hp;have hq3:=HQ.ae;obtain⟨yg,AA,ac,VA,vc,HA,hc,IA,ic,JA,jc,DA,dc,AK,SZ⟩:=Z2 akz hq3.pl;have qK:=aeQ hz hq3.pl.qi hq3.pl.qh hq3.pl.qo;obtain⟨hfn,_⟩:=pL hz;have hS:=akz.base;have nI:=aa AK;have je:=aa SZ;have LW:=aa qK;have HFN:=aa hfn;have HK:=aa hz;have HS:=aa hS;have uY:=aa (Below.trans HB.ae (hS.mono HB.ae.size));have tC:=aa (HC.ae.later hS);have wK:=aa (K3.ae.later hS);have Al:=aa (K6.ae.later hS);have Tf:=aa (hq3.later hS);clear hz akz hq3 AK SZ qK hfn hS;go_wp2_with fail;refine Ia.ae _ _ ?_;open zfZ in exact Zd7):p:=h
theorem afd (q:Qy)(L:QL)(CA:z_)(cc:Nat)(cols:List aV)(RA:z_)(rc:Nat)(rows:List aX)(T:x_)(hT:T.size=183)(h0:T.getD 0 undef=oC q L)(h1:T.getD 1 undef=.slice CA cols.length cc)(h2:T.getD 2 undef=.slice RA rows.length rc)(w0:rQ)(hq:JV w0 q L CA cc cols RA rows):
  (eZ eE 0).wp Tryz.prog (bodyPost Tryz.prog Tryz.f11 (DV q cols (rows.map (·.l)) w0)) { tmps:=T,defers:=[] } w0:=by
 obtain⟨f,rfl⟩:=yH T hT;have h0:f 0=_:=h0;have h1:f 1=_:=h1;have h2:f 2=_:=h2;unfold oC at h0;simp only[Yp,h0,h1,h2];clear h0 h1 h2;clear h0 h1 h2 hT;have b1:=ah w0 (.cells (fN q L) 27);have k3:=aB.new w0 27 (fN q L);obtain⟨W1,hW1⟩:∃W1,W1=w0.alloc (.cells (fN q L) 27):=⟨_,rfl⟩;have s1:W1.heap.size=w0.heap.size+1:=by rw[hW1,World.size_alloc]
 rw[<- hW1] at b1 k3;have hL:=ah W1 (.cells #[.slice CA cols.length cc] 28);have k4:=aB.new W1 28 #[.slice CA cols.length cc];obtain⟨W2,hW2⟩:∃W2,W2=W1.alloc (.cells #[.slice CA cols.length cc] 28):=⟨_,rfl⟩;have s2:W2.heap.size=W1.heap.size+1:=by rw[hW2,World.size_alloc]
 rw[<- hW2] at hL k4;have b3:=ah W2 (.cells #[ay,ay,af 0] 33);have HX:=aB.new W2 33 #[ay,ay,af 0];obtain⟨W3,hW3⟩:∃W3,W3=W2.alloc (.cells #[ay,ay,af 0] 33):=⟨_,rfl⟩;rw[<- hW3] at b3 HX;have hb:=ai.then (ai.then b1 hL) b3;have HC:=aa (show aB W3 w0.heap.size 27 (fN q L)from(k3.later hL).later b3);have K3:=aa (show aB W3 W1.heap.size 28 #[.slice CA cols.length cc] from k4.later b3);have K6:=aa HX;have HB:=aa hb;have HQ:=aa (hq.later hb);have xl:=aa (show w0.heap.size<=W2.heap.size by omega);have y0:=HC.ae.cell 0;open zgm in exact Zel
theorem zh3.Kco(h:p:=by
 have t2:T.getD 2 undef=.slice RA rows.length rc:=by rw[Kq];simp[Array.getD_eq_getD_getElem?]
 clear Kq;exact afd q L CA cc cols RA rc rows T hT t0 t1 t2 w0 hq):p:=h
theorem JX (q:Qy)(L:QL)(CA:z_)(cc:Nat)(cols:List aV)(RA:z_)(rc:Nat)(rows:List aX)(w0:rQ)(hq:JV w0 q L CA cc cols RA rows):
  ar 11 #[oC q L,.slice CA cols.length cc,.slice RA rows.length rc] w0 (DV q cols (rows.map (·.l)) w0):=by
 refine calls_of_wp Tryz.func11 afb ?_;obtain⟨T,Kq⟩:∃T:x_,T= #[oC q L,.slice CA cols.length cc,.slice RA rows.length rc]++Array.replicate (Tryz.f11.ntmps - (#[oC q L,.slice CA cols.length cc,.slice RA rows.length rc]:x_).size) undef:=⟨_,rfl⟩;rw[<- Kq];have hT:T.size=183:=by rw[Kq];exact afc _ _ _
 open zh3 in exact Zho
mutual
def Tr.small:Tr->Prop
 | .mk op v name width args=>name.size<=1048576/\v.s.size<=1048576/\Tr.smalls args
def Tr.smalls:uF->Prop
 | []=>True
 | t::ts=>t.small/\Tr.smalls ts
end
theorem iI:∀ {a b:uF},Tr.smalls a->Tr.smalls b->Tr.smalls (a++b)
 | [],b,_,h=>h
 | t::a,b,h,k=>by unfold Tr.smalls at h;show Tr.smalls (t::(a++b));unfold Tr.smalls;exact⟨h.1,iI h.2 k⟩
variable{x:Int}
theorem eT(h0:0<=x)(h1:x < 9223372036854775808):wrap64 x=x:=by unfold wrap64;omega
mutual
theorem size_grow:∀(t:Tr),t.small->(Tr.aN t.args<=1099511627776)->0<=Tr.dF 0 t.args/\Tr.dF 0 t.args<=Tr.aN t.args*1048576/\(Tr.dF 0 t.args < 2000->(Tr.aN t.args:Int)<=Tr.dF 0 t.args)
 | .mk op v name width args,h=>by intro hn;unfold Tr.small at h;replace hn:Tr.aN args<=1099511627776:=hn;have k:=uQ args h.2.2 0 (Int.le_refl _) hn TD;show 0<=Tr.dF 0 args/\Tr.dF 0 args<=Tr.aN args*1048576/\(Tr.dF 0 args < 2000->(Tr.aN args:Int)<=Tr.dF 0 args);obtain⟨k1,k2,k3⟩:=k;refine⟨k1,by omega,λ h=>?_⟩;have:=k3 h;omega
theorem uQ:∀(ts:uF),Tr.smalls ts->∀(n:Int),0<=n->Tr.aN ts<=1099511627776->n<=2305843009213693952 - (Tr.aN ts:Int)*1048576->n<=Tr.dF n ts/\Tr.dF n ts<=n+Tr.aN ts*1048576/\(Tr.dF n ts < 2000->n+Tr.aN ts<=Tr.dF n ts)
 | [],_=>by intro n h0 _ _;unfold Tr.dF Tr.aN;exact⟨Int.le_refl _,by omega,λ _=>by omega⟩
 | t::ts,h=>by
   intro n h0 hn hm;unfold Tr.smalls at h;have ht:=size_grow t h.1;have hs:=uQ ts h.2;obtain⟨op,v,name,width,args⟩:=t;have hd:Tr.aN (.mk op v name width args::ts)=Tr.aN args+1+Tr.aN ts:=rfl;rw[hd] at hn hm ⊢;have h1:=h.1;unfold Tr.small at h1;have ht:Tr.aN args<=1099511627776->0<=Tr.dF 0 args/\Tr.dF 0 args<=Tr.aN args*1048576/\(Tr.dF 0 args < 2000->(Tr.aN args:Int)<=Tr.dF 0 args):=ht;obtain⟨a1,a2,a3⟩:=ht TD;have e:Tr.dF n (.mk op v name width args::ts)=if n < 2000 then Tr.dF (BA n name.size v.s.size (Tr.dF 0 args)) ts else n:=by conv=>lhs;unfold Tr.dF
   rw[e];by_cases hlt:n < 2000
   ·rw[if_pos hlt];generalize Tr.dF 0 args=m at*;have hse:∃z:Int,BA n name.size v.s.size m=n+1+z+m/\0<=z/\z<=1000000:=by refine⟨(name.size:Int)/ 5000*2000+(v.s.size:Int)/ 5000*2000,?_,by omega,by omega⟩;unfold BA;rw[eT (x:=n+1) TD TD,eT (x:=(name.size:Int)/ 5000) TD TD,eT (x:=(name.size:Int)/ 5000*2000) TD TD,eT (x:=(v.s.size:Int)/ 5000) TD TD,eT (x:=(v.s.size:Int)/ 5000*2000) TD TD,eT (x:=n+1+(name.size:Int)/ 5000*2000) TD TD,eT (x:=n+1+(name.size:Int)/ 5000*2000+(v.s.size:Int)/ 5000*2000) TD TD,eT TD TD];omega
    obtain⟨z,hz,z0,z1⟩:=hse;rw[hz];obtain⟨b1,b2,b3⟩:=hs (n+1+z+m) TD TD TD;refine⟨by omega,by omega,λ hf=>?_⟩;have:=b3 hf;have:=a3 TD;omega
   ·rw[if_neg hlt];exact⟨Int.le_refl _,by omega,λ hf=>absurd hf hlt⟩
end
theorem ND(hs:Tr.smalls ts)(hn:Tr.aN ts<=1099511627776)(h:Tr.dF 0 ts<=300):Tr.aN ts<=300:=by have:=(uQ ts hs 0 (Int.le_refl _) hn TD).2.2 TD;omega
theorem km (a b:uF):Tr.aN (a++b)=Tr.aN a+Tr.aN b:=by rw[gO,gO,gO,map_append,sum_append]
theorem mC (q:Qy):Tr.aN q.all=Tr.aN (q.items.map (·.1))+(Tr.aN q.bF+Tr.aN q.aF+Tr.aN q.fK)+Tr.aN (q.ord.map (·.1)):=by unfold Qy.all;rw[km,km,km,km]
structure Few (q:Qy):Prop where
 g:q.aF.length<=40
 w:q.bF.length<=40
 h:q.fK.length<=40
 i:q.items.length<=40
 o:q.ord.length<=40
 nodes:Tr.aN q.all<=320
 lim:∀n∈q.lim,n<=9223372036854775807
structure CR (w:rQ) (CA:z_) (cols:List aV) (RA:z_) (rows:List aX):Prop where
 env:xI w
 cr:RC w w.heap.size CA cols
 cl:cols.length<=20
 rr:RR w w.heap.size RA rows
 rn:rows.length<=100
 each:∀r∈rows,r.l.length<=30/\∀v∈r.l,v.Ok
theorem CR.later{w:rQ}    (h:CR w CA cols RA rows)(hb:aj w w'):CR w' CA cols RA rows:=
 ⟨h.env.later hb,h.cr.later hb,h.cl,h.rr.later hb,h.rn,h.each⟩
theorem sW{w:rQ}   (cc:Nat)   (Ko:oX w q L)(ok:q.Ok)(f:Few q)(c:CR w CA cols RA rows):JV w q L CA cc cols RA rows:=by have hn:=f.nodes;rw[mC] at hn;have h1:=f.g;have h2:=f.w;have h3:=f.h;have h4:=f.i;have h5:=f.o;have h6:=c.cl;have h7:=c.rn;refine⟨Ko,ok,⟨⟨c.env,Ko.g,ok.g,by show q.aF.length<=1000000;omega,c.cr,by show cols.length<=1000000;omega⟩,ok.w,Ko.w,by omega,ok.g,Ko.g,by omega,ok.i,Ko.i,by omega,by omega,ok.h,Ko.h,by omega,ok.o,Ko.o,by omega,λ _=>by omega⟩,by omega,c.rr,λ r hr=>⟨by have:=(c.each r hr).1;omega,(c.each r hr).2⟩,by omega,by omega,by omega,by omega,by omega,by omega,λ _=>by omega,f.lim⟩
def arL (w:rQ)(hd:List aV)(la:y_)(e:Ending)(w':rQ):Prop:=∃HA hc OA oc out,e=.returned (.tuple #[.agg #[.slice HA hd.length hc,.slice OA (List.length out) oc,af la.length],af 0])/\RC w' w'.heap.size HA hd/\RR w' w'.heap.size OA out/\out.map (·.l)=la/\aj w w'
variable{hd:List aV}{la:y_}
theorem RZ{w:rQ}      (rc:Nat) (h:JV w q L CA cc cols RA rows)  (hr:jx q cols (rows.map (·.l))=.ok (hd,la)):
  ar 11 #[oC q L,.slice CA cols.length cc,.slice RA rows.length rc] w (arL w hd la):=by
 refine(JX q L CA cc cols RA rc rows w h).mono ?_;rintro e w1 ⟨hb,hk⟩;rw[hr] at hk;obtain⟨HA,hc,ov,out,rfl,h1,h2,h3,h4⟩:=hk;obtain⟨OA,oc,rfl,h5⟩:=NA h2 λ r hr=>(h3 r hr).rv
 obtain⟨A',c',h6,h7⟩:=AZ h1;injection h6 with e1 e2 e3;subst e1;exact⟨HA,hc,OA,oc,out,rfl,h7,h5,h4,hb⟩
variable{er:Int}
theorem afe{w:rQ}      (rc:Nat) (h:JV w q L CA cc cols RA rows) (hr:jx q cols (rows.map (·.l))=.error er):
  ar 11 #[oC q L,.slice CA cols.length cc,.slice RA rows.length rc] w λ e w'=>er≠0/\e=.returned (.tuple #[.agg #[ay,ay,af 0],af er])/\aj w w':=by refine(JX q L CA cc cols RA rc rows w h).mono ?_;rintro e w1 ⟨hb,hk⟩;rw[hr] at hk;exact⟨hk.1,hk.2,hb⟩
theorem akA:(fG R.Ym).Ok:=by refine⟨?_,?_,?_,?_,?_,by decide,by decide,by decide,by decide,by decide⟩<;> simp[R.Ym,fG,ij,pX,Tr.cH,Tr.ok,Val.Ok,Gh,R.rN,R.kV,R.kT,R.AE,R.ui,R.tq,R.jQ]
theorem aff:Few (fG R.Ym):=by refine⟨by decide,by decide,by decide,by decide,by decide,by decide,?_⟩;intro n hn;simp[R.Ym,fG] at hn
theorem akB:(fG R.Yn).Ok:=by refine⟨?_,?_,?_,?_,?_,by decide,by decide,by decide,by decide,by decide⟩<;> simp[R.Yn,fG,ij,pX,Tr.cH,Tr.ok,Val.Ok,Gh,R.rN,R.kV,R.kT,R.AE,R.ui,R.tq,R.jQ]
theorem afg:Few (fG R.Yn):=by refine⟨by decide,by decide,by decide,by decide,by decide,by decide,?_⟩;intro n hn;simp[R.Yn,fG] at hn;omega
theorem akC:(fG R.R7).Ok:=by refine⟨?_,?_,?_,?_,?_,by decide,by decide,by decide,by decide,by decide⟩<;> simp[R.R7,fG,ij,pX,Tr.cH,Tr.ok,Val.Ok,Gh,R.rN,R.kV,R.kT,R.AE,R.ui,R.tq,R.jQ]
theorem afh:Few (fG R.R7):=by refine⟨by decide,by decide,by decide,by decide,by decide,by decide,?_⟩;intro n hn;simp[R.R7,fG] at hn
theorem akD:(fG R.Yo).Ok:=by refine⟨?_,?_,?_,?_,?_,by decide,by decide,by decide,by decide,by decide⟩<;> simp[R.Yo,fG,ij,pX,Tr.cH,Tr.ok,Val.Ok,Gh,R.rN,R.kV,R.kT,R.AE,R.ui,R.tq,R.jQ]
theorem afi:Few (fG R.Yo):=by refine⟨by decide,by decide,by decide,by decide,by decide,by decide,?_⟩;intro n hn;simp[R.Yo,fG] at hn
theorem aaa{w:rQ}  (hE:xI w)(h1:RC w w.heap.size CA mA)(h2:RR w w.heap.size RA rs)(h3:rs.map (·.l)=wR):CR w CA mA RA rs:=by
 have hl:rs.length=3:=by have:=congrArg List.length h3;simpa [wR] using this
 refine⟨hE,h1,by decide,h2,by omega,λ r hr=>?_⟩;have hm:r.l∈wR:=by rw[<- h3];exact List.mem_map.2 ⟨r,hr,rfl⟩
 simp only[wR,mem_cons,not_mem_nil,or_false] at hm;rcases hm with h | h | h <;> rw[h] <;> refine⟨by decide,λ v hv=>?_⟩<;> simp only[mem_cons,not_mem_nil,or_false] at hv <;> rcases hv with rfl | rfl <;> exact⟨by decide,by decide⟩
variable{out:List aX}
theorem uR(h:out.map (·.l)=la)(h1:la.length<=1000)(h2:∀r∈la,r.length<=1000):out.length<=1000/\∀r∈out,r.l.length<=1000:=by subst h;exact⟨by simpa using h1,λ r hr=>h2 _ (List.mem_map.2 ⟨r,hr,rfl⟩)⟩
theorem akE{w:rQ} {g:Nat} {a:Int}(h:aB w g 44 #[ag 2,af a,au]):RV w w.heap.size (some ⟨g,0,none⟩) [num a]:=by
 refine .inr ⟨_,0,rfl,h.lt,λ i x hx=>?_⟩
 match i,hx with
 | 0,hx=>exact ZgY
 | n+1,hx=>cases hx
variable{z:Int}
theorem aab(OA:z_)(oc:Nat)(out:List aX)(g a b:Nat) {y u:Int}(w:rQ)(ho:RR w w.heap.size OA out)(hm:out.map (·.l)=[[num x,num y],[num z,num u]])(hs:out.length<=1000/\∀r∈out,r.l.length<=1000)(k0:aB w g 38 #[aL a 2 2,aL b 2 2])(k1:aB w a 44 #[ag 2,af x,au,ag 2,af y,au])(k2:aB w b 44 #[ag 2,af z,au,ag 2,af u,au]):
  ar 26 #[.slice OA out.length oc,aL g 2 2] w λ e w'=>e=.returned (.bool true)/\aj w w':=by
 refine NC OA oc out (some ⟨g,0,none⟩) 2 [⟨some ⟨a,0,none⟩,[num x,num y],2⟩,⟨some ⟨b,0,none⟩,[num z,num u],2⟩] w ho ?_ hm hs.1 hs.2;refine .inr ⟨_,0,rfl,k0.lt,λ i r hx=>?_⟩
 match i,hx with
 | 0,hx=>injection hx with hx;subst hx;exact⟨k0.cell 0,Du k1⟩
 | 1,hx=>injection hx with hx;subst hx;exact⟨k0.cell 1,Du k2⟩
 | n+2,hx=>cases hx
theorem NF(OA:z_)(oc:Nat)(out:List aX)(g a:Nat) (w:rQ)(ho:RR w w.heap.size OA out)(hm:out.map (·.l)=[[num x]])(hs:out.length<=1000/\∀r∈out,r.l.length<=1000)(k0:aB w g 38 #[aL a 1 1])(k1:aB w a 44 #[ag 2,af x,au]):
  ar 26 #[.slice OA out.length oc,aL g 1 1] w λ e w'=>e=.returned (.bool true)/\aj w w':=by
 refine NC OA oc out (some ⟨g,0,none⟩) 1 [⟨some ⟨a,0,none⟩,[num x],1⟩] w ho ?_ hm hs.1 hs.2;refine .inr ⟨_,0,rfl,k0.lt,λ i r hx=>?_⟩
 match i,hx with
 | 0,hx=>injection hx with hx;subst hx;exact⟨k0.cell 0,akE k1⟩
 | n+1,hx=>cases hx
def wkV (qa qb qd:Nat)(OA0:z_)(n0 oc0:Nat)(OA1:z_)(n1 oc1:Nat)(OA3:z_)(n3 oc3:Nat):Nat->rQ->Value->Prop
 | 0,_,v=>v=af 0
 | 1,_,v=>v=.bool true
 | 2,_,v=>v=.bool true
 | 3,_,v=>v=bc qa 1
 | 4,_,v=>v=.slice OA0 n0 oc0
 | 5,_,v=>v=.agg #[ag 2,af 0,au]
 | 6,_,v=>v=.agg #[ag 2,af 12,au]
 | 7,w,v=>∃g:Nat,v=aL g 2 2/\aB w g 44 #[ag 2,af 0,au,ag 2,af 12,au]
 | 8,_,v=>v=.agg #[ag 2,af 5,au]
 | 9,_,v=>v=.agg #[ag 2,af 1,au]
 | 10,w,v=>∃g:Nat,v=aL g 2 2/\aB w g 44 #[ag 2,af 5,au,ag 2,af 1,au]
 | 11,w,v=>∃g a b:Nat,v=aL g 2 2/\aB w g 38 #[aL a 2 2,aL b 2 2]/\aB w a 44 #[ag 2,af 0,au,ag 2,af 12,au]/\aB w b 44 #[ag 2,af 5,au,ag 2,af 1,au]
 | 12,_,v=>v=.bool true
 | 13,_,v=>v=.bool true
 | 14,_,v=>v=.bool true
 | 15,_,v=>v=af 0
 | 16,_,v=>v=.bool true
 | 17,_,v=>v=.bool true
 | 18,_,v=>v=.bool true
 | 19,_,v=>v=bc qb 2
 | 20,_,v=>v=af 1
 | 21,_,v=>v=.bool true
 | 22,_,v=>v=.bool true
 | 23,_,v=>v=.bool true
 | 24,_,v=>v=bc qb 1
 | 25,_,v=>v=.slice OA1 n1 oc1
 | 26,_,v=>v=.agg #[ag 2,af 7,au]
 | 27,w,v=>∃g:Nat,v=aL g 1 1/\aB w g 44 #[ag 2,af 7,au]
 | 28,w,v=>∃g a:Nat,v=aL g 1 1/\aB w g 38 #[aL a 1 1]/\aB w a 44 #[ag 2,af 7,au]
 | 29,_,v=>v=.bool true
 | 30,_,v=>v=.bool true
 | 31,_,v=>v=.bool true
 | 32,_,v=>v=af 42
 | 33,_,v=>v=.bool true
 | 34,_,v=>v=.bool true
 | 35,_,v=>v=.bool true
 | 36,_,v=>v=af 0
 | 37,_,v=>v=.bool true
 | 38,_,v=>v=.bool true
 | 39,_,v=>v=.bool true
 | 40,_,v=>v=bc qd 1
 | 41,_,v=>v=.slice OA3 n3 oc3
 | 42,_,v=>v=.agg #[ag 2,af 0,au]
 | 43,w,v=>∃g:Nat,v=aL g 1 1/\aB w g 44 #[ag 2,af 0,au]
 | 44,w,v=>∃g a:Nat,v=aL g 1 1/\aB w g 38 #[aL a 1 1]/\aB w a 44 #[ag 2,af 0,au]
 | 45,_,v=>v=.bool true
 | 46,_,v=>v=.bool true
 | _,_,_=>False
theorem Xw (qa qb qd:Nat)(OA0:z_)(n0 oc0:Nat)(OA1:z_)(n1 oc1:Nat)(OA3:z_)(n3 oc3:Nat):∀i w w' v,wkV qa qb qd OA0 n0 oc0 OA1 n1 oc1 OA3 n3 oc3 i w v->ai w w'->wkV qa qb qd OA0 n0 oc0 OA1 n1 oc1 OA3 n3 oc3 i w' v:=by
 intro i w w' v h hl
 match i with
 | 0 | 1 | 2 | 3 | 4 | 5 | 6 | 8 | 9 | 12 | 13 | 14 | 15 | 16 | 17 | 18 | 19 | 20 | 21 | 22 | 23 | 24 | 25 | 26 | 29 | 30 | 31 | 32 | 33 | 34 | 35 | 36 | 37 | 38 | 39 | 40 | 41 | 42 | 45 | 46=>exact h
 | 7=>exact ZeI
 | 10=>exact ZeI
 | 11=>obtain⟨g,a,b,h1,f0,f1,f2⟩:=h;exact⟨g,a,b,h1,f0.later hl,f1.later hl,f2.later hl⟩
 | 27=>exact ZeI
 | 28=>exact ZgR
 | 43=>exact ZeI
 | 44=>exact ZgR
 | n+47=>exact h
theorem zdH.KaL(h:p:=by have h0:_=_:=hr.1;have c0:=(K1.ae.later hL).cell 1;exact ZaO):p:=h
theorem zdI.KaL(h:p:=by exact Zeh):p:=h
theorem zdJ.KaL(h:p:=by have e1:=hc.func 27;have e2:=hc.const (af 12);refine bp (f:=27) (args:= #[af 12]) (w':=w3) Taz ?_;refine(fV 12 w3).mono ?_;exact Zbd):p:=h
theorem zdK.KaL(h:p:=by have h0:_=_:=hr.1;have h1:_=_:=hr.2.1;exact aq (v:=aL w3.heap.size 2 2) (w':=w3.alloc (.cells #[ag 2,af 0,au,ag 2,af 12,au] 44)) Tax ⟨ah w3 _,⟨_,rfl,aB.new w3 _ _⟩⟩):p:=h
theorem zdL.KaL(h:p:=by have e1:=hc.func 27;have e2:=hc.const (af 5);refine bp (f:=27) (args:= #[af 5]) (w':=w3) Taz ?_;refine(fV 5 w3).mono ?_;exact Zbd):p:=h
theorem zdM.KaL(h:p:=by have e1:=hc.func 27;have e2:=hc.const (af 1);refine bp (f:=27) (args:= #[af 1]) (w':=w3) Taz ?_;refine(fV 1 w3).mono ?_;exact Zbd):p:=h
theorem zdN.KaL(h:p:=by have h0:_=_:=hr.1;have h1:_=_:=hr.2.1;exact aq (v:=aL w3.heap.size 2 2) (w':=w3.alloc (.cells #[ag 2,af 5,au,ag 2,af 1,au] 44)) Tax ⟨ah w3 _,⟨_,rfl,aB.new w3 _ _⟩⟩):p:=h
theorem zdO.KaL(h:p:=by obtain⟨g0,h0,gG⟩:∃g:Nat,ρ (.tmp 50)=aL g 2 2/\aB w3 g 44 #[ag 2,af 0,au,ag 2,af 12,au]:=hr.1;obtain⟨g1,h1,uE⟩:∃g:Nat,ρ (.tmp 53)=aL g 2 2/\aB w3 g 44 #[ag 2,af 5,au,ag 2,af 1,au]:=hr.2.1;exact aq (v:=aL w3.heap.size 2 2) (w':=w3.alloc (.cells #[aL g0 2 2,aL g1 2 2] 38)) Tax ⟨ah w3 _,⟨w3.heap.size,g0,g1,rfl,aB.new w3 _ _,gG.later (ah _ _),uE.later (ah _ _)⟩⟩):p:=h
theorem zdP.KaL(h:p:=by have h0:_=_:=hr.1;obtain⟨g1,a1,b1,h1,uE,Jr,axK⟩:∃g a b:Nat,ρ (.tmp 54)=aL g 2 2/\aB w3 g 38 #[aL a 2 2,aL b 2 2]/\aB w3 a 44 #[ag 2,af 0,au,ag 2,af 12,au]/\aB w3 b 44 #[ag 2,af 5,au,ag 2,af 1,au]:=hr.2.1;have e1:=hc.func 26;refine bp (f:=26) (args:= #[.slice OA0 aad.length oc0,aL g1 2 2]) (w':=w3) Taq ?_;refine(aab OA0 oc0 aad g1 a1 b1 w3 (HK.ae.later hL) HM0.ae HS0.ae uE Jr axK).mono ?_;exact Zbd):p:=h
theorem zfo.Kbm(h:p:=by have h0:_=_:=hr.1;have c0:=(K3.ae.later hL).cell 1;exact ZaO):p:=h
theorem zfp.Kbm(h:p:=by have e1:=hc.func 27;have e2:=hc.const (af 7);refine bp (f:=27) (args:= #[af 7]) (w':=w3) Taz ?_;refine(fV 7 w3).mono ?_;exact Zbd):p:=h
theorem zfq.Kbm(h:p:=by have h0:_=_:=hr.1;exact aq (v:=aL w3.heap.size 1 1) (w':=w3.alloc (.cells #[ag 2,af 7,au] 44)) Tam ⟨ah w3 _,⟨_,rfl,aB.new w3 _ _⟩⟩):p:=h
theorem zfr.Kbm(h:p:=by obtain⟨g0,h0,gG⟩:∃g:Nat,ρ (.tmp 70)=aL g 1 1/\aB w3 g 44 #[ag 2,af 7,au]:=hr.1;exact Zea):p:=h
theorem zfs.Kbm(h:p:=by have h0:_=_:=hr.1;obtain⟨g1,a1,h1,uE,Jr⟩:∃g a:Nat,ρ (.tmp 71)=aL g 1 1/\aB w3 g 38 #[aL a 1 1]/\aB w3 a 44 #[ag 2,af 7,au]:=hr.2.1;have e1:=hc.func 26;refine bp (f:=26) (args:= #[.slice OA1 aae.length oc1,aL g1 1 1]) (w':=w3) Taq ?_;refine(NF OA1 oc1 aae g1 a1 w3 (K2.ae.later hL) HM1.ae HS1.ae uE Jr).mono ?_;exact Zbd):p:=h
theorem zft.Kbn(h:p:=by have h0:_=_:=hr.1;have c0:=(R3.ae.later hL).cell 1;exact ZaO):p:=h
theorem zfu.Kbn(h:p:=by exact Zeh):p:=h
theorem zfv.Kbn(h:p:=by have h0:_=_:=hr.1;exact aq (v:=aL w3.heap.size 1 1) (w':=w3.alloc (.cells #[ag 2,af 0,au] 44)) Tam ⟨ah w3 _,⟨_,rfl,aB.new w3 _ _⟩⟩):p:=h
theorem zfw.Kbn(h:p:=by obtain⟨g0,h0,gG⟩:∃g:Nat,ρ (.tmp 86)=aL g 1 1/\aB w3 g 44 #[ag 2,af 0,au]:=hr.1;exact Zea):p:=h
theorem zfx.Kbn(h:p:=by have h0:_=_:=hr.1;obtain⟨g1,a1,h1,uE,Jr⟩:∃g a:Nat,ρ (.tmp 87)=aL g 1 1/\aB w3 g 38 #[aL a 1 1]/\aB w3 a 44 #[ag 2,af 0,au]:=hr.2.1;have e1:=hc.func 26;refine bp (f:=26) (args:= #[.slice OA3 aaf.length oc3,aL g1 1 1]) (w':=w3) Taq ?_;refine(NF OA3 oc3 aaf g1 a1 w3 (UF.ae.later hL) HM3.ae HS3.ae uE Jr).mono ?_;exact Zbd):p:=h
theorem zh7.Kcq(h:p:=by
 have HRQ:=aa (sW cc hq akC afh HC.ae);clear hq b1;go_wp2_with fail;refine(afe rc HRQ.ae (by rw[Kx.ae];exact adU)).mono ?_;rintro e4 w4 ⟨_,rfl,hB⟩;replace HC:=aa (HC.ae.later hB);replace HK:=aa (HK.ae.later hB);replace K1:=aa (K1.ae.later hB);replace K2:=aa (K2.ae.later hB);replace K3:=aa (K3.ae.later hB);replace HB:=aa (ai.then HB.ae hB);clear hB HRQ;go_wp2_with fail;have b3:=ah w4 (.cells #[ay,ay,af 0] 33);have R2:=aa (aB.new w4 33 #[ay,ay,af 0]);replace HB:=aa (ai.then HB.ae b3);replace HC:=aa (HC.ae.later b3);replace HK:=aa (HK.ae.later b3);replace K1:=aa (K1.ae.later b3);replace K2:=aa (K2.ae.later b3);replace K3:=aa (K3.ae.later b3);clear b3;generalize w4.alloc _=wz3 at*;generalize w4.heap.size=qc at*;refine(sU t3B R.Yo V0 aqu _).mono ?_;rintro e4 wa ⟨L,rfl,hq,b1⟩;replace HC:=aa (HC.ae.later b1);replace HK:=aa (HK.ae.later b1);replace K1:=aa (K1.ae.later b1);replace K2:=aa (K2.ae.later b1);replace K3:=aa (K3.ae.later b1);replace R2:=aa (R2.ae.later b1);replace HB:=aa (ai.then HB.ae b1);have HRQ:=aa (sW cc hq akD afi HC.ae);clear hq b1;go_wp2_with fail;refine(RZ rc HRQ.ae (by rw[Kx.ae];exact adW)).mono ?_;rintro e4 w5 ⟨Qi,hc3,OA3,oc3,aaf,rfl,_,ho,he,hB⟩;replace HC:=aa (HC.ae.later hB);replace HK:=aa (HK.ae.later hB);replace K1:=aa (K1.ae.later hB);replace K2:=aa (K2.ae.later hB);replace K3:=aa (K3.ae.later hB);replace R2:=aa (R2.ae.later hB);replace HB:=aa (ai.then HB.ae hB);have UF:=aa ho;have HM3:=aa he;have HS3:=aa (uR he V0 V0);clear ho he hB HRQ
 go_upto_region 6 with fail;have b3:=ah w5 (.cells #[.slice Qi Rl.length hc3,.slice OA3 aaf.length oc3,af 1] 33);have R3:=aa (aB.new w5 33 #[.slice Qi Rl.length hc3,.slice OA3 aaf.length oc3,af 1]);replace HB:=aa (ai.then HB.ae b3);replace HC:=aa (HC.ae.later b3);replace HK:=aa (HK.ae.later b3);replace K1:=aa (K1.ae.later b3);replace K2:=aa (K2.ae.later b3);replace K3:=aa (K3.ae.later b3);replace R2:=aa (R2.ae.later b3);replace UF:=aa (UF.ae.later b3);clear b3;generalize w5.alloc _=W9 at*;generalize w5.heap.size=qd at*;refine bz 47 (wkV qa qb qd OA0 aad.length oc0 OA1 aae.length oc1 OA3 aaf.length oc3) (Xw _ _ _ _ _ _ _ _ _ _ _ _) WC WC WC ?_ ?_
 ·simp only[take_succ_cons,take_zero];refine⟨Zaa,Zaa,Zaa,?_,?_,?_,?_,?_,?_,?_,?_,?_,?_,ZdQ,Zaa,ZgA,ZgA,ZdQ,Zaa,ZgB,?_,ZgB,ZdQ,Zaa,?_,?_,?_,?_,?_,?_,ZdQ,Zaa,ZgC,ZgC,ZdQ,Zaa,ZgD,ZgD,ZdQ,Zaa,?_,?_,?_,?_,?_,?_,ZdQ,trivial⟩
  ·intro ρ w3 hc hL hr;intro hg;have hg:ρ (.tmp 45)=.bool true:=hg;exact Zaj
  ·open zdH in exact ZbL
  ·open zdI in exact ZbL
  ·open zdJ in exact ZbL
  ·open zdK in exact ZbL
  ·open zdL in exact ZbL
  ·open zdM in exact ZbL
  ·open zdN in exact ZbL
  ·open zdO in exact ZbL
  ·open zdP in exact ZbL
  ·intro ρ w3 hc hL hr;intro hg;have hg:ρ (.tmp 61)=.bool true:=hg;refine⟨λ _=>?_,λ hn=>absurd hg hn⟩;have h0:_=_:=hr.1;have c0:=(K3.ae.later hL).cell 2;exact ZaO
  ·intro ρ w3 hc hL hr;intro hg;have hg:ρ (.tmp 66)=.bool true:=hg;exact Zaj
  ·open zfo in exact Zdz
  ·open zfp in exact Zdz
  ·open zfq in exact Zdz
  ·open zfr in exact Zdz
  ·open zfs in exact Zdz
  ·intro ρ w3 hc hL hr;intro hg;have hg:ρ (.tmp 82)=.bool true:=hg;exact Zaj
  ·open zft in exact ZdA
  ·open zfu in exact ZdA
  ·open zfv in exact ZdA
  ·open zfw in exact ZdA
  ·open zfx in exact ZdA
 intro W3 hL;simp only[Uab];rintro a0 - a1 - a2 - a3 - a4 - a5 - a6 - a7 - a8 - a9 - FI - L9 - a12 - a13 - a14 - a15 - a16 - a17 - a18 - a19 - a20 - a21 - a22 - a23 - a24 - a25 - a26 - a27 - a28 - a29 - a30 - a31 - a32 - a33 - a34 - a35 - a36 - a37 - a38 - a39 - a40 - a41 - a42 - a43 - a44 - a45 - _ rfl;simp only[bA,Act.put,Uac];have hb3:=ai.then HB.ae hL;clear hL;go_wp2_with fail;go_ret;exact⟨rfl,hb3⟩):p:=h
theorem ib (w:rQ)(hE:xI w):ar 10 #[] w λ e4 w'=>e4=.returned (.bool true)/\aj w w':=by
 have HE:=aa hE;clear hE;go_enter Tryz.func10,Tryz.ntmps10;go_wp2_with fail;refine(WN w).mono ?_;rintro e4 w1 ⟨CA,cc,RA,rc,rs,rfl,h1,h2,h3,b1⟩;have HC:=aa (aaa (HE.ae.later b1) h1 h2 h3);have Kx:=aa h3;have HB:=aa b1;clear h1 h2 h3 b1;go_wp2_with fail;refine(sU t0B R.Ym V0 aqr _).mono ?_;rintro e4 wa ⟨L,rfl,hq,b1⟩;replace HC:=aa (HC.ae.later b1);replace HB:=aa (ai.then HB.ae b1);have HRQ:=aa (sW cc hq akA aff HC.ae);clear hq b1;go_wp2_with fail;refine(RZ rc HRQ.ae (by rw[Kx.ae];exact adQ)).mono ?_;rintro e4 w2 ⟨HA0,hc0,OA0,oc0,aad,rfl,_,ho,he,hB⟩;replace HC:=aa (HC.ae.later hB);replace HB:=aa (ai.then HB.ae hB);have HK:=aa ho;have HM0:=aa he;have HS0:=aa (uR he V0 V0);clear ho he hB HRQ;go_wp2_with fail;have b3:=ah w2 (.cells #[.slice HA0 Rj.length hc0,.slice OA0 aad.length oc0,af 2] 33);have K1:=aa (aB.new w2 33 #[.slice HA0 Rj.length hc0,.slice OA0 aad.length oc0,af 2]);replace HB:=aa (ai.then HB.ae b3);replace HC:=aa (HC.ae.later b3);replace HK:=aa (HK.ae.later b3);clear b3;generalize w2.alloc _=wz1 at*;generalize w2.heap.size=qa at*;refine(sU t1B R.Yn V0 aqs _).mono ?_;rintro e4 wa ⟨L,rfl,hq,b1⟩;replace HC:=aa (HC.ae.later b1);replace HK:=aa (HK.ae.later b1);replace K1:=aa (K1.ae.later b1);replace HB:=aa (ai.then HB.ae b1);have HRQ:=aa (sW cc hq akB afg HC.ae);clear hq b1;go_wp2_with fail;refine(RZ rc HRQ.ae (by rw[Kx.ae];exact adS)).mono ?_;rintro e4 w3 ⟨U3,hc1,OA1,oc1,aae,rfl,_,ho,he,hB⟩;replace HC:=aa (HC.ae.later hB);replace HK:=aa (HK.ae.later hB)
 replace K1:=aa (K1.ae.later hB);replace HB:=aa (ai.then HB.ae hB);have K2:=aa ho;have HM1:=aa he;have HS1:=aa (uR he V0 V0);clear ho he hB HRQ;go_wp2_with fail;have b3:=ah w3 (.cells #[.slice U3 Rk.length hc1,.slice OA1 aae.length oc1,af 1] 33);have K3:=aa (aB.new w3 33 #[.slice U3 Rk.length hc1,.slice OA1 aae.length oc1,af 1]);replace HB:=aa (ai.then HB.ae b3);replace HC:=aa (HC.ae.later b3);replace HK:=aa (HK.ae.later b3);replace K1:=aa (K1.ae.later b3);replace K2:=aa (K2.ae.later b3);clear b3;generalize w3.alloc _=wz2 at*;generalize w3.heap.size=qb at*;refine(sU t2B R.R7 V0 aqt _).mono ?_;rintro e4 wa ⟨L,rfl,hq,b1⟩;replace HC:=aa (HC.ae.later b1);open zh7 in exact Zhq
def jz (r:tE (List aV×y_))(B:Nat)(w:rQ)(v:Value):Prop:=match r with
 | .error er=>er≠0/\v=.tuple #[.agg #[ay,ay,af 0],af er]
 | .ok (hd,la)=>∃HA hc OA oc out,v=.tuple #[.agg #[.slice HA hd.length hc,.slice OA (List.length out) oc,af la.length],af 0]/\aH aR 113 2 w B (.slice HA hd.length hc) hd/\aH cq 38 1 w B (.slice OA out.length oc) out/\(∀r∈out,jf w r)/\out.map (·.l)=la
variable{r:tE (List aV×y_)}{B:Nat}
theorem jz.later{w:rQ} (h:jz r B w v)(hb:aj w w'):jz r B w' v:=by
 unfold jz at*;split at h
 ·exact h
 ·obtain⟨HA,hc,OA,oc,out,h1,h2,h3,h4,h5⟩:=h;exact⟨HA,hc,OA,oc,out,h1,h2.later hb,h3.later hb,λ r hr=>(h4 r hr).later hb,h5⟩
variable{cs:x_}
theorem jz.akF{g:Nat} {w:rQ}  {t:TypeId} (h:jz r B w v)(hk:aB w g t cs)(Kx:t≠113)(Lw:t≠38)(KK:t≠44)(hg:w.grownBy w' (some g)):jz r B w' v:=by
 unfold jz at*;split at h
 ·exact h
 ·obtain⟨HA,hc,OA,oc,out,h1,h2,h3,h4,h5⟩:=h;refine⟨HA,hc,OA,oc,out,h1,h2.grown hg (h2.other hk Kx),h3.grown hg (h3.other hk Lw),λ r hr=>(h4 r hr).map λ k9=>k9.keep hg.size λ b cur k1=>hg.block b k1.lt λ e=>?_,h5⟩;injection e with e;subst e;have:=k1.symm.trans hk;injection this with this;injection this with _ this _;exact absurd this.symm KK
theorem jz.grown{g:Nat} {w:rQ}  (h:jz r B w v)(hk:aB w g 33 cs)(hg:w.grownBy w' (some g)):jz r B w' v:=h.akF hk V0 V0 V0 hg
variable{ev:Value}
theorem jz.ok2{w:rQ}  (h:jz (.ok (hd,la)) B w (.tuple #[.agg cs,ev])):∃HA hc OA oc out,cs= #[.slice HA hd.length hc,.slice OA (List.length out) oc,af out.length]/\ev=af 0/\RC w w.heap.size HA hd/\RR w w.heap.size OA out/\out.map (·.l)=la/\∀r∈out,r.l.length<=r.c:=by
 obtain⟨HA,hc,OA,oc,out,h1,h2,h3,h4,h5⟩:=h;injection h1 with h1;have e1:=congrArg (λ a:x_=>a[0]?) h1;have e2:=congrArg (λ a:x_=>a[1]?) h1;simp at e1 e2;obtain⟨A,c,e3,h6⟩:=AZ h2;injection e3 with e3 _ _;obtain⟨A',c',e4,h7⟩:=NA h3 λ r hr=>(h4 r hr).rv
 injection e4 with e4 _ _;subst e3 e4;refine⟨HA,hc,OA,oc,out,?_,e2,h6,h7,h5,λ r hr=>(h4 r hr).cap⟩;rw[e1,<- h5,length_map]
theorem jz.ok_{w:rQ}  (h:jz (.ok (hd,la)) B w (.tuple #[.agg cs,ev])):∃HA hc OA oc out,cs= #[.slice HA hd.length hc,.slice OA (List.length out) oc,af out.length]/\ev=af 0/\RC w w.heap.size HA hd/\RR w w.heap.size OA out/\out.map (·.l)=la:=by obtain⟨HA,hc,OA,oc,out,h1,h2,h3,h4,h5,_⟩:=h.ok2;exact⟨HA,hc,OA,oc,out,h1,h2,h3,h4,h5⟩
theorem jz.arM{w:rQ}  (h:jz (.error er) B w (.tuple #[.agg cs,ev])):er≠0/\cs= #[ay,ay,af 0]/\ev=af er:=by obtain⟨h0,h1⟩:=h;injection h1 with h1;have e1:=congrArg (λ a:x_=>a[0]?) h1;have e2:=congrArg (λ a:x_=>a[1]?) h1;simp at e1 e2;exact⟨h0,e1,e2⟩
variable{B':Nat}
theorem jz.down{w:rQ} (h:jz r B w v)(hB:B'<=B):jz r B' w v:=by
 unfold jz at*;split at h
 ·exact h
 ·obtain⟨HA,hc,OA,oc,out,h1,h2,h3,h4,h5⟩:=h;exact⟨HA,hc,OA,oc,out,h1,h2.down hB,h3.down hB,h4,h5⟩
theorem jz.tri{w:rQ} (h:jz r B w v):∃(A1:z_) (n1 c1:Nat) (A2:z_) (n2 c2:Nat) (k:Int) (e:Value),v=.tuple #[.agg #[.slice A1 n1 c1,.slice A2 n2 c2,af k],e]:=by
 unfold jz at h;split at h
 ·exact⟨_,_,_,_,_,_,_,_,h.2⟩
 ·obtain⟨HA,hc,OA,oc,out,h1,_⟩:=h;exact⟨_,_,_,_,_,_,_,_,h1⟩
theorem NI{w:rQ}      (rc:Nat) (h:JV w q L CA cc cols RA rows):
  ar 11 #[oC q L,.slice CA cols.length cc,.slice RA rows.length rc] w λ e w'=>∃v,e=.returned v/\jz (jx q cols (rows.map (·.l))) w.heap.size w' v/\aj w w':=by
 refine(JX q L CA cc cols RA rc rows w h).mono ?_;rintro e w1 ⟨hb,hk⟩
 cases hr:jx q cols (rows.map (·.l))with
 | error er=>rw[hr] at hk;exact⟨_,hk.2,⟨hk.1,rfl⟩,hb⟩
 | ok x=>
   obtain⟨hd,la⟩:=x;rw[hr] at hk;obtain⟨HA,hc,ov,out,rfl,h1,h2,h3,h4⟩:=hk;obtain⟨OA,oc,rfl,_⟩:=NA h2 λ r hr=>(h3 r hr).rv
   exact⟨_,rfl,⟨HA,hc,OA,oc,out,rfl,h1,h2,h3,h4⟩,hb⟩
def z33:x_:= #[ay,ay,af 0]
structure ql (W:rQ) (rows:y_) (r:tE (List aV×y_)) (s3 s4 s5 s6 s7 s8 s9:Option Value) (w:rQ):Prop where
 low:aj W w
 own:s4=none->∀x,s3=some x->∃A c rs,x=.slice A (List.length rs) c/\RR w w.heap.size A rs/\rs.map (·.l)=rows
 run:∀x,s4=some x->jz r W.heap.size w x
 e4:s4.isSome=true->s3.isSome=true
 e5:∀x,s5=some x->s4=some x
 e6:∀x,s6=some x->∃y,s4=some (.tuple #[x,y])
 e7:∀x,s7=some x->∃y,s4=some (.tuple #[y,x])
 e9:s9.isSome=true->s8.isSome=true/\s4.isSome=true
 al:∀x,s8=some x->∃g,x=aw g/\W.heap.size<=g/\(s9=none->aB w g 33 z33)/\(s9.isSome=true->∃cs y,s4=some (.tuple #[.agg cs,y])/\aB w g 33 cs)
section
variable {W w w':rQ} {rows:y_} {r:tE (List aV×y_)} {s3 s4 s5 s6 s7 s8 s9:Option Value}
theorem ql.start (W:rQ)(rows:y_)(r:tE (List aV×y_)):ql W rows r none none none none none none none W:=
 ⟨Below.refl _ _,λ _ x h=> Tac,λ x h=> Tac,λ h=> Tac,λ x h=> Tac,λ x h=> Tac,λ x h=> Tac,λ h=> Tac,λ x h=> Tac⟩
theorem ql.later (h:ql W rows r s3 s4 s5 s6 s7 s8 s9 w)(hb:aj w w'):ql W rows r s3 s4 s5 s6 s7 s8 s9 w':=
 ⟨Below.trans h.low (hb.mono h.low.size),λ h4 x hx=>by obtain⟨A,c,rs,k1,k2,k3⟩:=h.own h4 x hx;exact⟨A,c,rs,k1,k2.later hb,k3⟩,λ x hx=>(h.run x hx).later hb,h.e4,h.e5,h.e6,h.e7,h.e9,λ x hx=>by
   obtain⟨g,k1,k2,k3,k4⟩:=h.al x hx
   exact⟨g,k1,k2,λ h9=>(k3 h9).later hb,λ h9=>by obtain⟨cs,y,j1,j2⟩:=k4 h9;exact⟨cs,y,j1,j2.later hb⟩⟩⟩
theorem ql.arN (h:ql W rows r none s4 s5 s6 s7 s8 s9 w) {v:Value}(hb:aj w w')(ho:∃A c rs,v=.slice A (List.length rs) c/\RR w' w'.heap.size A rs/\rs.map (·.l)=rows):ql W rows r (some v) s4 s5 s6 s7 s8 s9 w':=by have k:=h.later hb;exact⟨k.low,λ _ x hx=>by injection hx with hx;rw[<- hx];exact ho,k.run,λ _=>rfl,k.e5,k.e6,k.e7,k.e9,k.al⟩
theorem ql.no9 (h:ql W rows r s3 none s5 s6 s7 s8 s9 w):s5=none/\s6=none/\s7=none/\s9=none:=by
 refine⟨?_,?_,?_,?_⟩
 ·cases h5:s5 with
  | none=>rfl
  | some x=>have:=h.e5 x h5;cases this
 ·cases h5:s6 with
  | none=>rfl
  | some x=>obtain⟨y,hy⟩:=h.e6 x h5;cases hy
 ·cases h5:s7 with
  | none=>rfl
  | some x=>obtain⟨y,hy⟩:=h.e7 x h5;cases hy
 ·cases h5:s9 with
  | none=>rfl
  | some x=>have:=(h.e9 (by rw[h5];rfl)).2;cases this
theorem ql.arO (h:ql W rows r s3 none s5 s6 s7 s8 s9 w) {v:Value}(hb:aj w w')(h3:s3.isSome=true)(hr:jz r W.heap.size w' v):ql W rows r s3 (some v) s5 s6 s7 s8 s9 w':=by obtain⟨rfl,rfl,rfl,rfl⟩:=h.no9;have k:=h.later hb;refine⟨k.low,λ e=> Tba,λ x hx=>(by injection hx with hx;rw[<- hx];exact hr),λ _=>h3,λ x hx=>(by cases hx),λ x hx=>(by cases hx),λ x hx=>(by cases hx),λ e=> Tba,λ x hx=>?_⟩;obtain⟨g,k1,k2,k3,_⟩:=k.al x hx;exact⟨g,k1,k2,k3,λ e=> Tba⟩
theorem ql.arP (h:ql W rows r s3 s4 none s6 s7 s8 s9 w) {v:Value}(h4:s4=some v):ql W rows r s3 s4 (some v) s6 s7 s8 s9 w:=
 ⟨h.low,h.own,h.run,h.e4,λ x hx=>by injection hx with hx;rw[<- hx];exact h4,h.e6,h.e7,h.e9,h.al⟩
theorem ql.arQ (h:ql W rows r s3 s4 s5 none s7 s8 s9 w) {v y:Value}(h4:s4=some (.tuple #[v,y])):ql W rows r s3 s4 s5 (some v) s7 s8 s9 w:=
 ⟨h.low,h.own,h.run,h.e4,h.e5,λ x hx=>by injection hx with hx;rw[<- hx];exact⟨y,h4⟩,h.e7,h.e9,h.al⟩
theorem ql.arR (h:ql W rows r s3 s4 s5 s6 none s8 s9 w) {v y:Value}(h4:s4=some (.tuple #[y,v])):ql W rows r s3 s4 s5 s6 (some v) s8 s9 w:=
 ⟨h.low,h.own,h.run,h.e4,h.e5,h.e6,λ x hx=>by injection hx with hx;rw[<- hx];exact⟨y,h4⟩,h.e9,h.al⟩
theorem ql.uw (h:ql W rows r s3 s4 s5 s6 s7 none s9 w):ql W rows r s3 s4 s5 s6 s7 (some (aw w.heap.size)) s9 (w.alloc (.cells z33 33)):=by
 have h9:s9=none:=by
  cases h5:s9 with
  | none=>rfl
  | some x=>have:=(h.e9 (by rw[h5];rfl)).1;cases this
 subst h9;have k:=h.later (ah w (.cells z33 33));exact⟨k.low,k.own,k.run,k.e4,k.e5,k.e6,k.e7,λ e=> Tba,λ x hx=>by injection hx with hx;exact⟨w.heap.size,hx.symm,h.low.size,λ _=>aB.new w _ _,λ e=> Tba⟩⟩
theorem ql.arS (h:ql W rows r s3 s4 s5 s6 s7 s8 none w) {g:Nat} {x y c e:Value}(h8:s8=some (aw g))(h4:s4=some (.tuple #[.agg #[x,y,c],e]))(u:Value):
  ql W rows r s3 s4 s5 s6 s7 s8 (some u) (((w.setCell ⟨g,0,none⟩ x).setCell ⟨g,1,none⟩ y).setCell ⟨g,2,none⟩ c):=by obtain⟨g',k1,k2,k3,_⟩:=h.al _ h8;injection k1 with k1;injection k1 with k1;injection k1 with k1 _ _;subst k1;have hk:=k3 rfl;have hg:w.grownBy (((w.setCell ⟨g,0,none⟩ x).setCell ⟨g,1,none⟩ y).setCell ⟨g,2,none⟩ c) (some g):=eD (eD (eD (wP (Below.refl _ _)) 0 x) 1 y) 2 c;have hn:((w.setCell ⟨g,0,none⟩ x).setCell ⟨g,1,none⟩ y).setCell ⟨g,2,none⟩ c=((w.setCell ⟨g,0,none⟩ x).setCell ⟨g,1,none⟩ y).setCell ⟨g,2,none⟩ c:=rfl;refine⟨((h.low.setCell (p:=⟨g,0,none⟩) k2 x).setCell (p:=⟨g,1,none⟩) k2 y).setCell (p:=⟨g,2,none⟩) k2 c,λ e4=>(by rw[h4] at e4;cases e4),λ z hz=>(h.run z hz).grown hk hg,h.e4,h.e5,h.e6,h.e7,λ _=>⟨by rw[h8];rfl,by rw[h4];rfl⟩,λ z hz=>?_⟩;rw[h8] at hz;injection hz with hz;exact⟨g,hz.symm,k2,λ e=> Tba,λ _=>⟨#[x,y,c],e,h4,((hk.aT 0 x).aT 1 y).aT 2 c⟩⟩
theorem ql.cell (h:ql W rows r s3 s4 s5 s6 s7 s8 none w) {v:Value}(h8:s8=some v):∃g,v=aw g/\aB w g 33 z33:=by obtain⟨g,k1,k2,k3,_⟩:=h.al _ h8;exact⟨g,k1,k3 rfl⟩
theorem ql.fin {v4 v5 v6 v7 v8 v9:Value}(h:ql W rows r s3 (some v4) (some v5) (some v6) (some v7) (some v8) (some v9) w):∃g cs ev,v4=.tuple #[.agg cs,ev]/\v5=v4/\v6=.agg cs/\v7=ev/\v8=aw g/\W.heap.size<=g/\aB w g 33 cs/\jz r W.heap.size w (.tuple #[.agg cs,ev])/\aj W w:=by obtain⟨g,k1,k2,_,k4⟩:=h.al _ rfl;obtain⟨cs,y,j1,j2⟩:=k4 rfl;injection j1 with j1;have e5:=h.e5 _ rfl;injection e5 with e5;obtain⟨y6,e6⟩:=h.e6 _ rfl;injection e6 with e6;obtain⟨y7,e7⟩:=h.e7 _ rfl;injection e7 with e7;have h6:=j1.symm.trans e6;have h7:=j1.symm.trans e7;injection h6 with h6;injection h7 with h7;have h6:=congrArg (λ a:x_=>a[0]?) h6;have h7:=congrArg (λ a:x_=>a[1]?) h7;simp at h6 h7;exact⟨g,cs,y,j1,e5.symm,h6.symm,h7.symm,k1,k2,j2,by rw[<- j1];exact h.run _ rfl,h.low⟩
end
def kO (W:rQ)(rows:y_)(r:tE (List aV×y_))(σ:Nat->Option Value)(w:rQ):Prop:=ql W rows r (σ 3) (σ 4) (σ 5) (σ 6) (σ 7) (σ 8) (σ 9) w
def rgU (q:Qy)(L:QL)(CA:z_)(cc:Nat)(cols:List aV)(RA:z_)(rc:Nat)(rows:List aX):Nat->Value:=λ i=>if i=0 then oC q L else if i=1 then .slice CA cols.length cc else if i=2 then .slice RA rows.length rc else undef
variable{P:Program}{ρ:Operand->Value}
theorem Hl{o:Oper}  {w:rQ} {T:Value->rQ->Prop}(h:(execOp ρ o).run P w=.ok .skip w')(ht:T undef w'):xq P o ρ w T:=by unfold xq;rw[h];exact ht
theorem aag{w:rQ}    (rc:Nat)(h:CR w CA cols RA rows):
  ar 12 #[.slice RA rows.length rc] w λ e w'=>∃v,e=.returned v/\(∃A c rs,v=.slice A (List.length rs) c/\RR w' w'.heap.size A rs/\rs.map (·.l)=rows.map (·.l))/\aj w w':=by refine(ade rows RA rc w (by have:=h.rn;omega) (λ r hr=>by have:=(h.each r hr).1;omega) h.rr).mono ?_;rintro e w1 ⟨v,cl,rfl,h1,h2,h3,h4⟩;obtain⟨A,c,rfl,h5⟩:=Tz h1 h2;exact⟨_,rfl,⟨A,c,cl,rfl,h5,h3⟩,h4⟩
variable{RB:z_}
theorem CR.same{w:rQ}    (h:CR w CA cols RA rows)(hr:RR w w.heap.size RB rs)(he:rs.map (·.l)=rows.map (·.l)):CR w CA cols RB rs:=by
 refine⟨h.env,h.cr,h.cl,hr,?_,λ r hm=>?_⟩
 ·have:=congrArg List.length he;simp only[length_map] at this;rw[this];exact h.rn
 ·have hx:r.l∈rows.map (·.l):=by rw[<- he];exact List.mem_map.2 ⟨r,hm,rfl⟩
  obtain⟨r0,hr0,e0⟩:=List.mem_map.1 hx;rw[<- e0];exact h.each r0 hr0
theorem zav.Kab(h:p:=by rw[<- ou] at Kx x2 x7 Sa Sb ⊢;clear ou;have t1:decide ((200:Int)<(L.i.n:Int))=true:=decide_eq_true TD;clear h0;exact Zby):p:=h
theorem zbh.Kah(h:p:=by have x2:=k1.cell 2;have x7:=k1.cell 7;have Sa:=k1.cell 19;have Sb:=k1.cell 20;simp only[Uaa] at x2 x7 Sa Sb;open zav in exact Zag):p:=h
theorem Xx (q:Qy)(L:QL)(w:rQ)(hf:q.bT.size<=4611686018427387904)(hn:L.i.n<=4611686018427387904/\L.o.n<=4611686018427387904/\L.l.n<=4611686018427387904)(h0:200 < L.i.n):ar 21 #[.agg (Od q L)] w (qP w):=by
 open zbh in exact Zav
theorem zaw.Kab(h:p:=by rw[<- ou] at Kx x2 x7 Ys Sa Sb ⊢;clear ou;have t1:decide ((200:Int)<(L.i.n:Int))=false:=decide_eq_false TD;have t2:decide ((200:Int)<(L.o.n:Int))=true:=decide_eq_true TD;clear h0 h1;exact Zby):p:=h
theorem zbi.Kah(h:p:=by have x2:=k1.cell 2;have x7:=k1.cell 7;have Ys:=k1.cell 13;have Sa:=k1.cell 19;have Sb:=k1.cell 20;simp only[Uaa] at x2 x7 Ys Sa Sb;open zaw in exact Zag):p:=h
theorem Xy (q:Qy)(L:QL)(w:rQ)(hf:q.bT.size<=4611686018427387904)(hn:L.i.n<=4611686018427387904/\L.o.n<=4611686018427387904/\L.l.n<=4611686018427387904)(h0:¬200 < L.i.n)(h1:200 < L.o.n):ar 21 #[.agg (Od q L)] w (qP w):=by
 open zbi in exact Zav
theorem zgp.KbJ(h:p:=by have t3:decide ((200:Int)<(L.l.n:Int))=true:=decide_eq_true TD;clear h0 h1 h2;exact Zby):p:=h
theorem zax.Kab(h:p:=by rw[<- ou] at Kx x2 x7 Ys c14 Sa Sb ⊢;clear ou;open zgp in exact Zen):p:=h
theorem zbj.Kah(h:p:=by have x2:=k1.cell 2;have x7:=k1.cell 7;have Ys:=k1.cell 13;have c14:=k1.cell 14;have Sa:=k1.cell 19;have Sb:=k1.cell 20;simp only[Uaa] at x2 x7 Ys c14 Sa Sb;open zax in exact Zag):p:=h
theorem Xz (q:Qy)(L:QL)(w:rQ)(hf:q.bT.size<=4611686018427387904)(hn:L.i.n<=4611686018427387904/\L.o.n<=4611686018427387904/\L.l.n<=4611686018427387904)(h0:¬200 < L.i.n)(h1:¬200 < L.o.n)(h2:200 < L.l.n):ar 21 #[.agg (Od q L)] w (qP w):=by
 open zbj in exact Zav
theorem zgq.KbJ(h:p:=by have t3:decide ((200:Int)<(L.l.n:Int))=false:=decide_eq_false TD;have t4:decide ((5000:Int)<(q.bT.size:Int))=true:=decide_eq_true TD;clear h0 h1 h2 h3;exact Zby):p:=h
theorem zay.Kab(h:p:=by rw[<- ou] at Kx z1 x2 x3 x5 x7 x8 x9 Ys x14 x16 Sa Sb x24 x27 ⊢;clear ou;open zgq in exact Zen):p:=h
theorem zfy.Kbo(h:p:=by simp only[Uaa] at z1 x2 x3 x5 x7 x8 x9 Ys x14 x16 Sa Sb x24 x27;open zay in exact Zag):p:=h
theorem zbk.Kah(h:p:=by open zfy in exact ZdB):p:=h
theorem XB (q:Qy)(L:QL)(w:rQ)(hf:q.bT.size<=4611686018427387904)(hn:L.i.n<=4611686018427387904/\L.o.n<=4611686018427387904/\L.l.n<=4611686018427387904)(h0:¬200 < L.i.n)(h1:¬200 < L.o.n)(h2:¬200 < L.l.n)(h3:5000 < q.bT.size):ar 21 #[.agg (Od q L)] w (qP w):=by
 open zbk in exact Zav
variable{ys:u_}
theorem afk{w:rQ}   (h:aH bD 46 7 w base v ys):∃A c,v=.slice A ys.length c/\RE w w.heap.size A ys:=by
 obtain⟨A,c,hv,hc⟩:=dT (f:=bD) (size:=7) (λ _=>rfl) h;refine⟨A,c,hv,?_⟩;rcases hc with hc |⟨g,hA,hg,hc⟩
 ·exact .inl hc
 ·refine .inr ⟨g,0,hA,hg,λ i x hx=>?_⟩;have c0:=hc i x 0 _ hx TD rfl;have c1:=hc i x 1 _ hx TD rfl;have c2:=hc i x 2 _ hx TD rfl;have c3:=hc i x 3 _ hx TD rfl;have c4:=hc i x 4 _ hx TD rfl;have c5:=hc i x 5 _ hx TD rfl;have c6:=hc i x 6 _ hx TD rfl;unfold cg;rw[Nat.zero_add];exact⟨by simpa using c0,c1,c2,c3,c4,c5,c6⟩
theorem Hm (q:Qy)(w:rQ)(v:Value)(ys:u_)(base:Nat)(ho:aH bD 46 7 w base v ys)(ht:Tr.aM w (Old w) q.all ys)(aZ:Tr.cH q.all)(hl:q.all.length<=1599289640356):ar 22 #[v] w λ e w'=>e=.returned (af (Tr.dF 0 q.all))/\aj w w':=by obtain⟨A,c,rfl,Gx⟩:=afk ho;rw[Tr.aM.length ht];exact Sy A c q.all ys w hl ht Gx (Tr.BC q.all ys w aZ ht)
theorem zhI.Kcf(h:p:=by exact⟨_,rfl,hb4⟩):p:=h
theorem zgr.KbJ(h:p:=by
 have t3:decide ((200:Int)<(L.l.n:Int))=false:=decide_eq_false TD;have t4:decide ((5000:Int)<(q.bT.size:Int))=false:=decide_eq_false TD;clear h0 h1 h2 h3;go_upto_region 3 with fail;clear t1 t2 t3 t4 z1 x3 x5 x8 x9 Ys x14 x16 Sa x24 x27;go_wp2_with fail;go_loopw [3] (λ iv wr=>iv=af 0/\wr=W1) (λ _ _=>0);case atStart=>exact⟨rfl,rfl⟩
 case round=>
  obtain⟨rfl,rfl⟩:=hrel;go_wp2_with fail;go_loopw [4] (λ iv wr2=>iv=af 0/\wr2=wr) (λ _ _=>0);case atStart=>exact⟨rfl,rfl⟩
  case round=>
   obtain⟨rfl,rfl⟩:=hrel;clear x2;go_wp2_with fail;clear Sb;generalize wr=wz at*;go_loopw [5] (λ iv wr2=>∃k:Nat,k<=L.i.n/\iv=af k/\wr2=wz) (λ iv _=>L.i.n - (intOf iv).toNat);case atStart=>exact⟨0,Nat.zero_le _,rfl,rfl⟩
   case round=>
    obtain⟨k,hk,rfl,rfl⟩:=hrel;by_cases hlt:k < L.i.n
    ·have hx:k < zi.length:=by rw[mr.ae];exact hlt
     obtain⟨b,off,hA,kM,cL⟩:∃b off,L.i.A=some ⟨b,off,none⟩/\b < w.heap.size/\w.cell? ⟨b,off+k*8+7,none⟩=some zi[k].2:=by
      rcases nI.ae with h |⟨b,off,h1,h2,h3⟩
      ·rw[h] at hx;simp at hx
      ·exact⟨b,off,h1,h2,(h3 k _ (getElem?_eq_getElem hx)).2⟩
     obtain⟨sv2,Df⟩:=L8.ae k zi[k] (getElem?_eq_getElem hx);rw[Df] at cL;have hc2:=(eX.ae.cell (p:=⟨b,off+k*8+7,none⟩) kM).trans cL;rw[hA] at x7;clear hA Df cL hx;by_cases h5:100 < sv2.size
     ·have t5:decide ((100:Int)<(sv2.size:Int))=true:=decide_eq_true TD;exact Zby
     ·have t5:decide ((100:Int)<(sv2.size:Int))=false:=decide_eq_false TD;go_wp2_with fail;go_roundw;case rel=>first | exact⟨k+1,hlt,by go_num,trivial⟩| exact⟨k+1,hlt,by go_num,rfl⟩
      case measure=>exact ZaU
    ·have hsz:(Tryz.prog.info? 64).map (·.size)=some (Od q L).size:=by show _=some 28;kernel_rfl
     go_wp2_with (first
      |(refine wpList_load_row rfl 64 (.tmp 1) rfl gs rfl 64 (Od q L) (0,0) _ Bc.ae Tryz.underlying64 rfl hsz ?_))
     refine(HEX.ae _ eX.ae).mono ?_;rintro e w3 ⟨v3,ys,rfl,o3,tt,b5⟩;have O3:=aa o3;have TT:=aa (Tr.aM.later tt b5);have tz:=aa (Below.trans eX.ae (b5.mono eX.ae.size));clear o3 tt b5 x7;open zhI in exact Zgh):p:=h
theorem zaz.Kab(h:p:=by rw[<- ou] at Kx z1 x2 x3 x5 x7 x8 x9 Ys x14 x16 Sa Sb x24 x27 ⊢;clear ou;have Bc:=aa (show aB W1 gs 64 (Od q L)from Kx.ae);clear Kx;open zgr in exact Zen):p:=h
theorem zfz.Kbo(h:p:=by simp only[Uaa] at z1 x2 x3 x5 x7 x8 x9 Ys x14 x16 Sa Sb x24 x27;open zaz in exact Zag):p:=h
theorem zbl.Kah(h:p:=by open zfz in exact ZdB):p:=h
theorem XC (q:Qy)(L:QL)(w:rQ)(hq:oX w q L)(hlen:q.items.length+q.bF.length+q.aF.length+q.fK.length+q.ord.length<=1100000)(aZ:Tr.cH q.all)(hf:q.bT.size<=4611686018427387904)(hn:L.i.n<=4611686018427387904/\L.o.n<=4611686018427387904/\L.l.n<=4611686018427387904)(h0:¬200 < L.i.n)(h1:¬200 < L.o.n)(h2:¬200 < L.l.n)(h3:¬5000 < q.bT.size):
  ar 21 #[.agg (Od q L)] w (qP w):=by
 have HEX:=aa (λ W (hW:aj w W)=>uz (k:=0) q L W (hq.later hW) hlen);obtain⟨hni,zi,hri,hzb,_⟩:=hq.i;have nI:=aa hri;have hzl:zi.length=L.i.n:=by have:=congrArg List.length hzb;simp at this;rw[hni];simpa using this
 have mr:=aa hzl;have L8:=aa (show∀(i:Nat) (x:Ex×Value),zi[i]?=some x->∃s:t_,x.2=Value.string s from λ i x KK=>by
  have h1:=congrArg (λ l=>l[i]?) hzb
  simp only[getElem?_map,KK,Option.map_some] at h1
  cases hy:q.items[i]? with
  | none=>rw[hy] at h1;cases h1
  | some y=>
    rw[hy] at h1
    injection h1 with h1
    exact⟨_,h1⟩)
 have je:=aa aZ;have Cf:=aa (show q.all.length<=1599289640356 by unfold Qy.all;simp only[length_append,length_map];omega);clear hq hlen aZ hzb hri hni;open zbl in exact Zav
theorem NJ (q:Qy)(L:QL)(w:rQ)(hq:oX w q L)(hlen:q.items.length+q.bF.length+q.aF.length+q.fK.length+q.ord.length<=1100000)(aZ:Tr.cH q.all)(hf:q.bT.size<=4611686018427387904)(hn:L.i.n<=4611686018427387904/\L.o.n<=4611686018427387904/\L.l.n<=4611686018427387904):
  ar 21 #[.agg (Od q L)] w (qP w):=by
 by_cases h0:200 < L.i.n
 ·exact Xx q L w hf hn h0
 by_cases h1:200 < L.o.n
 ·exact Xy q L w hf hn h0 h1
 by_cases h2:200 < L.l.n
 ·exact Xz q L w hf hn h0 h1 h2
 by_cases h3:5000 < q.bT.size
 ·exact XB q L w hf hn h0 h1 h2 h3
 exact XC q L w hq hlen aZ hf hn h0 h1 h2 h3
structure GOK (q:Qy) (cols:List aV) (rows:List aX):Prop where
 cl:cols.length<=20
 rn:rows.length<=100
 g:q.aF.length<=20
 w:q.bF.length<=20
 h:q.fK.length<=20
 i:q.items.length<=20
 o:q.ord.length<=20
 each:∀r∈rows,r.l.length<=30
 size:Tr.dF 0 q.all<=300
def JY (q:Qy)(cols:List aV)(rows:List aX)(w:rQ)(e:Ending)(w':rQ):Prop:=∃b:Bool,e=.returned (.bool b)/\aj w w'/\(b=false->GOK q cols rows)
theorem zhH.Kcf(h:p:=by refine⟨_,rfl,hb4,λ h=>?_⟩;obtain⟨g1,g2,g3,g4,g5,g6,g7⟩:=XT.ae;exact⟨g1,g2,by rw[<- Yh.ae];exact g3,by rw[<- HNW.ae];exact g4,by rw[<- HNH.ae];exact g5,by rw[<- HNI.ae];exact g6,by rw[<- HNO.ae];exact g7,HEA.ae,by have:=of_decide_eq_false h;omega⟩):p:=h
theorem zgn.KbI(h:p:=by
 simp only[Uaa] at y0 y1 c2 y3 y4 y5 y6 x7;clear hgr hL;have Yc:=aa (HR.ae.later eX.ae);cases b;case true=>exact Zby
 by_cases h0:20 < cols.length
 ·have t0:decide ((20:Int)<(cols.length:Int))=true:=decide_eq_true TD;exact Zby
 by_cases h1:100 < rows.length
 ·have t0:decide ((20:Int)<(cols.length:Int))=false:=decide_eq_false TD;have t1:decide ((100:Int)<(rows.length:Int))=true:=decide_eq_true TD;exact Zby
 by_cases h2:20 < L.g.n
 ·have t0:decide ((20:Int)<(cols.length:Int))=false:=decide_eq_false TD;have t1:decide ((100:Int)<(rows.length:Int))=false:=decide_eq_false TD;have t2:decide ((20:Int)<(L.g.n:Int))=true:=decide_eq_true TD;exact Zby
 by_cases h3:20 < L.w.n
 ·have t0:decide ((20:Int)<(cols.length:Int))=false:=decide_eq_false TD;have t1:decide ((100:Int)<(rows.length:Int))=false:=decide_eq_false TD;have t2:decide ((20:Int)<(L.g.n:Int))=false:=decide_eq_false TD;have t3:decide ((20:Int)<(L.w.n:Int))=true:=decide_eq_true TD;exact Zby
 by_cases h4:20 < L.h.n
 ·have t0:decide ((20:Int)<(cols.length:Int))=false:=decide_eq_false TD;have t1:decide ((100:Int)<(rows.length:Int))=false:=decide_eq_false TD;have t2:decide ((20:Int)<(L.g.n:Int))=false:=decide_eq_false TD;have t3:decide ((20:Int)<(L.w.n:Int))=false:=decide_eq_false TD;have t4:decide ((20:Int)<(L.h.n:Int))=true:=decide_eq_true TD;exact Zby
 by_cases h5:20 < L.i.n
 ·have t0:decide ((20:Int)<(cols.length:Int))=false:=decide_eq_false TD;have t1:decide ((100:Int)<(rows.length:Int))=false:=decide_eq_false TD;have t2:decide ((20:Int)<(L.g.n:Int))=false:=decide_eq_false TD;have t3:decide ((20:Int)<(L.w.n:Int))=false:=decide_eq_false TD;have t4:decide ((20:Int)<(L.h.n:Int))=false:=decide_eq_false TD;have t5:decide ((20:Int)<(L.i.n:Int))=true:=decide_eq_true TD;exact Zby
 by_cases h6:20 < L.o.n
 ·have t0:decide ((20:Int)<(cols.length:Int))=false:=decide_eq_false TD;have t1:decide ((100:Int)<(rows.length:Int))=false:=decide_eq_false TD;have t2:decide ((20:Int)<(L.g.n:Int))=false:=decide_eq_false TD;have t3:decide ((20:Int)<(L.w.n:Int))=false:=decide_eq_false TD;have t4:decide ((20:Int)<(L.h.n:Int))=false:=decide_eq_false TD;have t5:decide ((20:Int)<(L.i.n:Int))=false:=decide_eq_false TD;have t6:decide ((20:Int)<(L.o.n:Int))=true:=decide_eq_true TD;exact Zby
 have t0:decide ((20:Int)<(cols.length:Int))=false:=decide_eq_false TD;have t1:decide ((100:Int)<(rows.length:Int))=false:=decide_eq_false TD;have t2:decide ((20:Int)<(L.g.n:Int))=false:=decide_eq_false TD;have t3:decide ((20:Int)<(L.w.n:Int))=false:=decide_eq_false TD;have t4:decide ((20:Int)<(L.h.n:Int))=false:=decide_eq_false TD;have t5:decide ((20:Int)<(L.i.n:Int))=false:=decide_eq_false TD;have t6:decide ((20:Int)<(L.o.n:Int))=false:=decide_eq_false TD;have XT:=aa (show cols.length<=20/\rows.length<=100/\L.g.n<=20/\L.w.n<=20/\L.h.n<=20/\L.i.n<=20/\L.o.n<=20 from⟨by omega,by omega,by omega,by omega,by omega,by omega,by omega⟩);go_upto_region 3 with fail;clear t0 t1 t2 t3 t4 t5 t6;go_wp2_with fail;go_loopw [7,8] (λ iv _ wr=>∃KK:Nat,KK<=rows.length/\iv=af KK/\W2=wr/\∀j,j < KK->∀r,rows[j]?=some r->r.l.length<=30) (λ iv _ _=>rows.length - (intOf iv).toNat);case atStart=>exact⟨0,Nat.zero_le _,rfl,rfl,λ j hj=>absurd hj TD⟩
 case round=>
  obtain⟨KK,Kx,rfl,rfl,hp⟩:=hrel;have HP:=aa hp;clear hp;have hk9:KK<=100:=by have:=XT.ae.2.1;omega
  by_cases hlt:KK < rows.length
  ·obtain⟨b,off,rfl,kM,cL,uW⟩:=Yc.ae.at_ hlt;have hrw:=QQ.ae _ (getElem_mem hlt);have Bq:=aa uW;have HIK:=aa (getElem?_eq_getElem hlt);clear uW;obtain⟨r,Gx⟩:∃r,r=rows[KK]:=⟨_,rfl⟩;rw[<- Gx] at Bq cL HIK hrw;clear Gx;by_cases h5:30 < r.l.length
   ·have t5:decide ((30:Int)<(r.l.length:Int))=true:=decide_eq_true TD;exact Zby
   have t5:decide ((30:Int)<(r.l.length:Int))=false:=decide_eq_false TD;go_wp2_with fail;go_loopw [8] (λ jv wr2=>∃k:Nat,k<=r.l.length/\jv=af k/\W2=wr2) (λ jv _=>r.l.length - (intOf jv).toNat);case atStart=>exact⟨0,Nat.zero_le _,rfl,rfl⟩
   case round=>
    obtain⟨k,hk,rfl,rfl⟩:=hrel;by_cases tH:k < r.l.length
    ·obtain⟨b5,o5,hA,l5,c5⟩:=Bq.ae.at_ tH;unfold dE at c5;obtain⟨_,_,Df⟩:=c5;rw[hA] at cL;clear hA;obtain⟨sv,arU⟩:∃sv,sv=r.l[k].s:=⟨_,rfl⟩;rw[<- arU] at Df;clear arU;by_cases h6:300 < sv.size
     ·have t6:decide ((300:Int)<(sv.size:Int))=true:=decide_eq_true TD;exact Zby
     ·have t6:decide ((300:Int)<(sv.size:Int))=false:=decide_eq_false TD;go_wp2_with fail;go_roundw;case rel=>exact⟨k+1,tH,by go_num,trivial⟩
      case measure=>exact ZaU
    ·go_wp2_with fail;go_roundw
     case rel=>
      refine⟨KK+1,hlt,by go_num,?_⟩
      have ml:∀j,j < KK+1->∀r2,rows[j]?=some r2->r2.l.length<=30:=by
       intro j hj r2 hr2;rcases Nat.lt_or_ge j KK with h | h
       ·exact HP.ae j h r2 hr2
       ·have:j=KK:=by omega
        subst this;rw[HIK.ae] at hr2;injection hr2 with hr2;subst hr2;omega
      first
      | exact ml
      | exact⟨rfl,ml⟩
      | exact⟨trivial,ml⟩
     case measure=>exact ZaU
  ·have gw:KK=rows.length:=by omega
   have HEA:=aa (show∀r∈rows,r.l.length<=30 from λ r hr=>by
    obtain⟨i,hi,he⟩:=getElem_of_mem hr
    exact HP.ae i TD r Tav)
   clear gw;go_wp2_with fail;have hex:=HEX.ae _ eX.ae;unfold Od at hex;refine hex.mono ?_;rintro e w3 ⟨v3,ys,rfl,o3,tt,b5⟩;have O3:=aa o3;have TT:=aa (Tr.aM.later tt b5);have tz:=aa (Below.trans eX.ae (b5.mono eX.ae.size));clear o3 tt b5 y0 y1 c2 y3 y4 y5 y6 x7 hex;open zhH in exact Zgh):p:=h
theorem XD (q:Qy)(L:QL)(CA:z_)(cc:Nat)(cols:List aV)(RA:z_)(rc:Nat)(rows:List aX)(w:rQ)(hq:oX w q L)(hlen:q.items.length+q.bF.length+q.aF.length+q.fK.length+q.ord.length<=1100000)(aZ:Tr.cH q.all)(hf:q.bT.size<=4611686018427387904)(hn:L.i.n<=4611686018427387904/\L.o.n<=4611686018427387904/\L.l.n<=4611686018427387904)(hr:RR w w.heap.size RA rows)(Rb:rows.length<=4611686018427387904)(cL:cols.length<=4611686018427387904)(lX:∀r∈rows,r.l.length<=4611686018427387904):
  ar 9 #[oC q L,.slice CA cols.length cc,.slice RA rows.length rc] w (JY q cols rows w):=by
 have HEX:=aa (λ W (hW:aj w W)=>uz (k:=0) q L W (hq.later hW) hlen);have ym:=aa (λ W (hW:aj w W)=>NJ q L W (hq.later hW) hlen aZ hf hn);have je:=aa aZ;have Cf:=aa (show q.all.length<=1599289640356 by unfold Qy.all;simp only[length_append,length_map];omega);have Yh:=aa hq.g.n;have HNW:=aa hq.w.n;have HNH:=aa hq.h.n;have HNI:=aa (show L.i.n=q.items.length by have:=hq.i.n;simpa using this);have HNO:=aa (show L.o.n=q.ord.length by have:=hq.o.n;simpa using this);have HR:=aa hr;have QQ:=aa lX;have b1:=ah w (.cells (fN q L) 27);have cN:=aB.new w 27 (fN q L);have Rh:=aa b1;have P7:=aa cN;unfold oC;have y0:=cN.cell 0;have y1:=cN.cell 1;have c2:=cN.cell 2;have y3:=cN.cell 3;have y4:=cN.cell 4;have y5:=cN.cell 5;have y6:=cN.cell 6;have x7:=cN.cell 7;unfold fN at y0 y1 c2 y3 y4 y5 y6 x7;simp only[Uaa] at y0 y1 c2 y3 y4 y5 y6 x7;have yes:∀w2,aj w w2->JY q cols rows w (.returned (.bool true)) w2:=λ w2 h=>⟨true,rfl,h,λ h=>by cases h⟩
 have YES:=aa yes;obtain⟨uT,UJ,hn3⟩:=hn;unfold fN at Rh P7;clear hq hlen aZ b1 cN hr lX yes;go_enter Tryz.func9,Tryz.ntmps9;go_upto_region 1 with fail;generalize w.alloc _=W1 at*;obtain⟨g,hg⟩:∃g,g=w.heap.size:=⟨_,rfl⟩;rw[<- hg] at P7 y0 y1 c2 y3 y4 y5 y6 x7 ⊢;have HGQ:=aa hg;clear hg;go_wp2_with fail;have hgr:=ym.ae _ Rh.ae;unfold Od at hgr;refine hgr.mono ?_;rintro e W2 ⟨b,rfl,hL⟩;have eX:=aa (Below.trans Rh.ae (hL.mono Rh.ae.size));have HC:=aa (P7.ae.later hL);have y0:=(HC.ae.cell 0);open zgn in exact Zel
theorem XE:Tryz.prog.cellsOf 38=1:=by exact ZgH
theorem XF:Tryz.prog.bytesOf 38=24:=by exact ZgH
section
variable {H:Type} {enc:TypeId×Value->H} {w:rQ} {base:Nat} {spare:Nat->Bool} {held:Bool}
theorem DX (d:DataW H):1<=Rows.uptoBulk d:=by
 cases d with
 | lit l=>cases l <;> simp[Rows.uptoBulk]
 | nil=>exact Zgm
 | ptr d=>exact Zgm
 | slice elems spare=>exact Zgm
 | agg parts=>exact Zgm
 | iface t d=>exact Zgm
 | map entries=>exact Zgm
 | held h=>exact Zgm
theorem zeL.Ka5(h:p:=by
 obtain⟨l,Ii,hp⟩:=pick len (P:=λ i a=>(∀d,(elems.map (·.1))[i]?=some d->P a d)/\∀j,j < K->w.cell? ⟨b,off+i*K+j,none⟩=(f a)[j]?) λ i hi=>by obtain⟨a,ha,hca⟩:=nC i hi;refine⟨a,ha,λ j hj=>?_⟩;have:=hca j hj;simp only[eB] at this;exact this
 subst Ii;refine⟨some ⟨b,off,none⟩,l,cap,elems.map (·.1),rfl,by rw[length_map,hlen],kj,λ i a d ha hd=>(hp i a ha).1 d hd,hb2,.inr ⟨b,off,rfl,hbl,λ i x j u hx hu=>?_⟩⟩;exact Zec):p:=h
theorem zhd.Kb3(h:p:=by
 have kj:Rows.uptoBulkAll (elems.map (·.1))+1<=Rows.uptoBulk (DataW.slice (elems.map (·.1)) (rest.map (·.1))):=by simp only[Rows.uptoBulk];omega
 rcases Nat.eq_zero_or_pos len with h0 | h0
 ·subst h0;exact⟨some ad,[],cap,[],rfl,rfl,DX _,by simp,by simp,.inl rfl⟩
 have nC:∀i,i < len->∃a:α,(∀d,(elems.map (·.1))[i]?=some d->P a d)/\∀j,j < K->w.cell? ((ad.add (i*K)).add j)=(f a)[j]?:=by intro i hi;have h1:=he i hi;rw[getElem?_eq_getElem TD,hc] at h1;obtain⟨cs,h2,h3⟩:=Option.bind_eq_some_iff.1 h1;obtain⟨a,rfl,ha⟩:=hel n TD cs _ h3 (OW _ (List.mem_map.2 ⟨_,getElem_mem _,rfl⟩));refine⟨a,λ d hd=>?_,(Za h2).2⟩;rw[getElem?_map,getElem?_eq_getElem TD] at hd;injection hd with hd;rw[<- hd];exact ha
 open zeL in exact ZcD):p:=h
theorem DY {α:Type}(f:α->wL)(P:α->DataW H->Prop)(K:Nat) {T e:TypeId}(hT:Tryz.prog.underlying T=some (.slice e))(hc:Tryz.prog.cellsOf e=K)(hK:0 < K)(hf:∀x,(f x).length=K) {fuel:Nat} {cs:wL} {x:DataW H×List MemPlace}
  (hel:∀m,m < fuel->∀cs x,DataW.trod enc Tryz.prog w base spare held m e cs=some x->Light e x.1->∃a,cs=f a/\P a x.1) (h:DataW.trod enc Tryz.prog w base spare held fuel T cs=some x) (hw:Light T x.1):
  ∃(A:z_) (l:List α) (c:Nat) (es:List (DataW H)),cs=[.slice A l.length c]/\es.length=l.length/\Rows.uptoBulkAll es+1<=Rows.uptoBulk x.1/\(∀(i:Nat) (a:α) (d:DataW H),l[i]?=some a->es[i]?=some d->P a d)/\l.length*Tryz.prog.bytesOf e<=reachBytes/\(l=[]\/∃b off,A=some ⟨b,off,none⟩/\b < w.heap.size/\∀i x j u,l[i]?=some x->(f x)[j]?=some u->w.cell? ⟨b,off+i*K+j,none⟩=some u):=by
 rcases DataW.trod_slice hT h with ⟨hcs,_⟩|⟨ad,len,cap,elems,rest,n,hn,hcs,hx,_,hl,hm,hlen,he,_,_⟩
 ·exact⟨none,[],0,[],hcs,rfl,DX _,by simp,by simp,.inl rfl⟩
 ·open zhd in exact ZfE
theorem DZ (s:t_):Rows.uptoBulk (DataW.lit (H:=H) (.string s.data.toList))=s.size+1:=by exact Zgm
theorem aah {fuel:Nat} {cs:wL} {x:DataW H×List MemPlace}(h:DataW.trod enc Tryz.prog w base spare held fuel 44 cs=some x):∃a:Val,cs=[ag a.k,af a.n,.string a.s]/\(a.Ok/\0<=a.k/\a.k<=255)/\a.s.size<=Rows.uptoBulk x.1:=by
 obtain⟨y0,y1,y2,n,hx,hl,t0,t1,t2⟩:=Deep.trod_struct3 Tryz.underlying44 h;rw[mP] at hl
 match cs,hl with
 | [c0,c1,c2],_=>simp only[ly,vD,xB,drop_succ_cons,drop_zero,take_succ_cons,take_zero] at t0 t1 t2;obtain⟨n0,q0,_,f0⟩:=DataW.trod_int Tryz.underlying5 t0;obtain⟨n1,q1,_,f1⟩:=DataW.trod_int Tryz.underlying2 t1;obtain⟨s,q2,z2,f2⟩:=DataW.trod_string Tryz.underlying9 t2;simp at q0 q1 q2;subst q0 q1 q2;refine⟨⟨n0,n1,s⟩,rfl,⟨OT f1,Sx f0⟩,?_⟩;subst hx;have e:=congrArg (λ y=>Rows.uptoBulk y.1) z2;simp only[DZ] at e;simp only[Rows.uptoBulk,Rows.uptoBulkAll];show s.size<=_;omega
structure Ug (w:rQ) (p:Ex×Tr) (d:DataW H):Prop where
 at_:p.2.at_ w (Old w) p.1
 ok:p.2.ok
 nodes:2*p.2.nodes<=Rows.uptoBulk d
 small:Rows.uptoBulk d<=1048576->p.2.small
structure akG (w:rQ) (l:List (Ex×Tr)) (n:Nat):Prop where
 at_:Tr.aM w (Old w) (l.map (·.2)) (l.map (·.1))
 ok:Tr.cH (l.map (·.2))
 nodes:2*Tr.aN (l.map (·.2))<=n
 small:n<=1048576->Tr.smalls (l.map (·.2))
theorem uS:∀(l:List (Ex×Tr)) (es:List (DataW H)),es.length=l.length->(∀(i:Nat) (a:Ex×Tr) (d:DataW H),l[i]?=some a->es[i]?=some d->Ug w a d)->akG w l (Rows.uptoBulkAll es)
 | [],es,_,_=>by
   refine⟨?_,?_,?_,λ _=>?_⟩
   ·simp[Tr.aM]
   ·simp[Tr.cH]
   ·simp[Tr.aN]
   ·simp[Tr.smalls]
 | p::l,[],h,_=>by simp at h
 | p::l,d::es,h,hp=>by
   have h0:=hp 0 p d rfl rfl;have hr:=uS l es Tai λ i a d h1 h2=>hp (i+1) a d Ta5 (by simpa using h2)
   simp only[Rows.uptoBulkAll];refine⟨?_,?_,?_,λ hn=>?_⟩
   ·simp only[map_cons];unfold Tr.aM;exact⟨_,_,rfl,h0.at_,hr.at_⟩
   ·simp only[map_cons];unfold Tr.cH;exact⟨h0.ok,hr.ok⟩
   ·simp only[map_cons];unfold Tr.aN;have:=h0.nodes;have:=hr.nodes;omega
   ·simp only[map_cons];unfold Tr.smalls;exact⟨h0.small TD,hr.small TD⟩
theorem xg {A:z_} {l:List (Ex×Tr)}(cL:l=[]\/∃b off,A=some ⟨b,off,none⟩/\b < w.heap.size/\∀i x j u,l[i]?=some x->(vE x.1)[j]?=some u->w.cell? ⟨b,off+i*7+j,none⟩=some u):YO w (Old w) A (l.map (·.1)):=by
 rcases cL with cL |⟨b,off,rfl,hb,cL⟩
 ·exact .inl (by simp[cL])
 ·refine .inr ⟨b,off,rfl,hb,λ i y hy=>?_⟩;obtain⟨p,hp,rfl⟩:∃p,l[i]?=some p/\p.1=y:=by simpa [getElem?_map] using hy
  have k:=λ j u hu=>cL i p j u hp hu
  exact⟨k 0 _ rfl,k 1 _ rfl,k 2 _ rfl,k 3 _ rfl,k 4 _ rfl,k 5 _ rfl,k 6 _ rfl⟩
theorem XG:∀(fuel:Nat) (cs:wL) (x:DataW H×List MemPlace),DataW.trod enc Tryz.prog w base spare held fuel 46 cs=some x->Light 46 x.1->∃p:Ex×Tr,cs=vE p.1/\Ug w p x.1:=by
 intro fuel
 induction fuel using Nat.strongRecOn with
 | _ fuel ih=>
   intro cs x h hw;obtain⟨xs,n,hn,hx,hl,hlen,hf⟩:=DataW.trod_struct Tryz.underlying46 h;rw[ue] at hl;subst hx
   match xs,hlen with
   | [y0,y1,y2,y3,y4],_=>
   match cs,hl with
   | [c0,c1,c2,c3,c4,c5,c6],_=>
     have t0:DataW.trod enc Tryz.prog w base spare held n 5 (([c0,c1,c2,c3,c4,c5,c6].drop 0).take (Tryz.prog.cellsOf 5))=some y0:=(hf 0 _ rfl);have t1:DataW.trod enc Tryz.prog w base spare held n 44 (([c0,c1,c2,c3,c4,c5,c6].drop 1).take (Tryz.prog.cellsOf 44))=some y1:=(hf 1 _ rfl);have t2:DataW.trod enc Tryz.prog w base spare held n 9 (([c0,c1,c2,c3,c4,c5,c6].drop 4).take (Tryz.prog.cellsOf 9))=some y2:=(hf 2 _ rfl);have t3:DataW.trod enc Tryz.prog w base spare held n 2 (([c0,c1,c2,c3,c4,c5,c6].drop 5).take (Tryz.prog.cellsOf 2))=some y3:=(hf 3 _ rfl);have t4:DataW.trod enc Tryz.prog w base spare held n 23 (([c0,c1,c2,c3,c4,c5,c6].drop 6).take (Tryz.prog.cellsOf 23))=some y4:=(hf 4 _ rfl);rw[vD] at t0;rw[mP] at t1;rw[ly] at t2;rw[xB] at t3;rw[KT] at t4;simp only[drop_succ_cons,drop_zero,take_succ_cons,take_zero] at t0 t1 t2 t3 t4;obtain⟨n0,q0,_,f0⟩:=DataW.trod_int Tryz.underlying5 t0;obtain⟨a,qa,⟨ha,AK,hk2⟩,has⟩:=aah t1;obtain⟨s,q2,z2,f2⟩:=DataW.trod_string Tryz.underlying9 t2;obtain⟨n3,q3,_,f3⟩:=DataW.trod_int Tryz.underlying2 t3;have hl4:Light 23 y4.1:=OV (j:=4) (d:=y4.1) Tryz.underlying46 hw rfl rfl;obtain⟨A,l,c,es,q4,hel,kj,hP,hby,cL⟩:=DY (λ p:Ex×Tr=>vE p.1) (λ p d=>Ug w p d) 7 Tryz.underlying23 ue TD (λ _=>rfl) (λ m hm cs x h1 h2=>ih m TD cs x h1 h2) t4 hl4;have hT:=uS l es hel hP;simp at q0 qa q2 q3 q4;obtain⟨rfl,rfl,rfl⟩:=qa;subst q0 q2 q3 q4;rw[OU] at hby;have Ii:l.length<=1599289640356:=by unfold reachBytes at hby;omega
     have e2:Rows.uptoBulk y2.1=s.size+1:=by rw[z2];exact DZ s
     have eb:Rows.uptoBulk (DataW.agg (List.map (λ x=>x.1) [y0,y1,y2,y3,y4]))=Rows.uptoBulk y0.1+(Rows.uptoBulk y1.1+(Rows.uptoBulk y2.1+(Rows.uptoBulk y3.1+(Rows.uptoBulk y4.1+0))))+1:=by simp only[map_cons,map_nil,Rows.uptoBulk,Rows.uptoBulkAll]
     have hb0:=DX y0.1;refine⟨(⟨n0,a,s,n3,A,l.length,c⟩,.mk n0 a s n3 (l.map (·.2))),rfl,?_,?_,?_,?_⟩
     ·dsimp only;unfold Tr.at_;exact⟨rfl,rfl,rfl,rfl,by simp,l.map (·.1),xg cL,hT.at_⟩
     ·dsimp only;unfold Tr.ok;exact⟨ha,by simpa using Ii,Sx f0,OT f3,⟨AK,hk2⟩,hT.ok⟩
     ·show 2*Tr.nodes _<=Rows.uptoBulk (DataW.agg (List.map (λ x=>x.1) [y0,y1,y2,y3,y4]));rw[eb];unfold Tr.nodes;have:=hT.nodes;omega
     ·intro hsm;have hsm:Rows.uptoBulk (DataW.agg (List.map (λ x=>x.1) [y0,y1,y2,y3,y4]))<=1048576:=hsm;rw[eb] at hsm;unfold Tr.small;exact⟨by omega,by omega,hT.small TD⟩
end
section
variable {H:Type} {enc:TypeId×Value->H} {w:rQ} {base:Nat} {spare:Nat->Bool} {held:Bool}
theorem fQ:∀ts:uF,ts.length<=Tr.aN ts
 | []=>Nat.zero_le _
 | t::ts=>by have:=fQ ts;unfold Tr.aN;cases t;unfold Tr.nodes;rw[length_cons];omega
theorem XH {fuel:Nat} {cs:wL} {x:DataW H×List MemPlace}(h:DataW.trod enc Tryz.prog w base spare held fuel 29 cs=some x)(hw:Light 29 x.1):
  ∃A rs c,cs=[.slice A rs.length c]/\RR w w.heap.size A rs/\rs.length<=140737488355328/\∀r∈rs,r.l.length<=140737488355328/\∀a∈r.l,a.Ok/\0<=a.k/\a.k<=255:=by
 obtain⟨A,rs,c,hcs,hP,hb,hR⟩:=uf (λ r:aX=> [.slice r.A r.l.length r.c]) (λ r=>RV w w.heap.size r.A r.l/\r.l.length<=140737488355328/\∀a∈r.l,a.Ok/\0<=a.k/\a.k<=255) 1 Tryz.underlying29 XE TD (λ _=>rfl)
  (λ m _ cs y hy hl=>by obtain⟨A,l,c,h1,h2⟩:=UT hy hl;exact⟨⟨A,l,c⟩,h1,h2⟩) h hw
 rw[XF] at hb;refine⟨A,rs,c,hcs,?_,by unfold reachBytes at hb;omega,λ r hr=>(hP r hr).2⟩;rcases hR with h0 |⟨b,off,h1,h2,h3⟩
 ·exact .inl h0
 ·refine .inr ⟨b,off,h1,h2,λ i r hr=>⟨?_,(hP r (mem_of_getElem? hr)).1⟩⟩;have:=h3 i r 0 _ hr rfl;exact ZeR
end
section
variable {H:Type} {enc:TypeId×Value->H} {W:rQ} {base:Nat} {v:Value} {d:DataW H} {p:List MemPlace}
theorem XI (ok:Value.okWide Tryz.prog W .any base 29 v)(k:DataW.Trod enc Tryz.prog W 0 (λ _=>true) true 29 v d p)(hw:Light 29 d):
  ∃A rs c,v=.slice A rs.length c/\RR W W.heap.size A rs/\rs.length<=140737488355328/\∀r∈rs,r.l.length<=140737488355328/\∀a∈r.l,a.Ok/\0<=a.k/\a.k<=255:=by obtain⟨a,len,cap,rfl⟩:=okWide_slice Tryz.underlying29 ok;obtain⟨fuel,hf⟩:=k;obtain⟨A,l,c,q,h⟩:=XH hf hw;exact Zgw
theorem Ea (ok:Value.okWide Tryz.prog W .any base 23 v)(k:DataW.Trod enc Tryz.prog W 0 (λ _=>true) true 23 v d p)(hw:Light 23 d):
  ∃ts A n c,v=.slice A n c/\fT W ts A n/\Tr.cH ts/\2*Tr.aN ts<=Rows.uptoBulk d/\(Rows.uptoBulk d<=1048576->Tr.smalls ts):=by obtain⟨a,len,cap,rfl⟩:=okWide_slice Tryz.underlying23 ok;obtain⟨fuel,hf⟩:=k;obtain⟨A3,l3,k3,e3,q3,z3,b3,p3,u3,r3⟩:=DY (λ p:Ex×Tr=>vE p.1) (λ p d=>Ug W p d) 7 Tryz.underlying23 ue TD (λ _=>rfl) (λ m hm cs x h1 h2=>XG m cs x h1 h2) hf hw;have T3:=uS l3 e3 z3 p3;have b3q:Rows.uptoBulkAll e3<=Rows.uptoBulk d:=Nat.le_of_succ_le b3;simp[Value.cells] at q3;obtain⟨rfl,rfl,rfl⟩:=q3;exact⟨l3.map (·.2),_,_,_,rfl,⟨by simp,_,xg r3,T3.at_⟩,T3.ok,Nat.le_trans T3.nodes b3q,λ h=>T3.small TD⟩
end
variable{α:Type}{m:List α}
theorem NK{l:List (tE α)} (h:zW l=.ok m):m.length<=l.length/\∀x∈m,Except.ok x∈l:=by
 unfold zW at h;split at h
 ·cases h
 ·injection h with h;subst h;refine⟨length_filterMap_le _ _,λ x hx=>?_⟩;obtain⟨e,he,hx⟩:=List.mem_filterMap.1 hx
  cases e with
  | error e=>cases hx
  | ok y=>injection hx with hx;subst hx;exact he
theorem NL(c:α->α->Int)(k:α):∀l:List α,(iO c k l).length<=l.length+1
 | []=>by simp[iO]
 | x::l=>by
   have:=NL c k l;unfold iO;split
   ·rw[length_cons,length_cons];omega
   ·split <;> simp
theorem Hn(c:α->α->Int):∀(l s:List α),(l.foldl (λ ks k=>iO c k ks) s).length<=l.length+s.length
 | [],s=>by simp
 | x::l,s=>by have h1:=Hn c l (iO c x s);have h2:=NL c x s;rw[foldl_cons,length_cons];omega
theorem aai(c:α->α->Int)(l:List α):(yR c l).length<=l.length:=by have:=Hn c l [];unfold yR;exact ZeR
theorem Eb{g:Bool}  :∀ {l:List (Tr×t_)} {s:dp} {ys:uF} {hd:List aV} {s':dp},cC g aF cols l s=.ok (ys,hd,s')->hd.length=l.length
 | [],s,ys,hd,s',h=>by unfold cC at h;injection h with h;injection h with _ h1;injection h1 with h1 _;rw[<- h1];rfl
 |(t,nm)::l,s,ys,hd,s',h=>by
  unfold cC at h;split at h
  ·cases h
  split at h
  ·cases h
  rename_i hi;injection h with h;injection h with _ h1;injection h1 with h1 _;rw[<- h1,length_cons,Eb hi,length_cons]
theorem Sc{ng:Nat} {aD:uF} (h:jk ng aD l=.ok gs):gs.length<=l.length+1:=by
 unfold jk at h;by_cases he:bU ((if ng=0 then [[]] else iF ((l.map λ r=>(r.take ng,gh aD (r.drop ng))).map (·.1))).map λ k=>bQ (cD (aD.map Tr.op) (l.map λ r=>(r.take ng,gh aD (r.drop ng))) k))≠0
 ·rw[if_pos he] at h;cases h
 ·rw[if_neg he] at h;injection h with h;rw[<- h,length_map];split
  ·simp
  ·have:=aai bR ((l.map λ r=>(r.take ng,gh aD (r.drop ng))).map (·.1));rw[length_map,length_map] at this;unfold iF;exact Nat.le_succ_of_le this
variable{left:y_}
theorem XJ{p:ix}  {rows:y_}(h:vR q p cols rows=.ok left):left.length<=rows.length+1/\(p.aI=false->∀r∈left,r∈rows):=by
 unfold vR at h;have hk:(cT cols q.bF rows).1.length<=rows.length:=length_filter_le _ _;have Z1:∀r∈(cT cols q.bF rows).1,r∈rows:=λ r hr=>(List.mem_filter.1 hr).1
 split at h
 ·cases h
 split at h
 ·injection h with h;subst h;exact⟨by omega,λ _=>Z1⟩
 rename_i hg;split at h
 ·cases h
 rename_i l hl;have Ii:=(NK hl).1;rw[length_map] at Ii;split at h
 ·cases h
 rename_i gs ou;split at h
 ·cases h
 injection h with h;subst h;refine⟨?_,λ e=>absurd e hg⟩;have h1:(cT p.st.aF p.having gs).1.length<=gs.length:=length_filter_le _ _;have h2:=Sc ou;omega
theorem aaj{rows:y_}(h:jx q cols rows=.ok (hd,la))(hi:q.items.length<=40)(hc:cols.length<=40)(hr:∀r∈rows,r.length<=40):hd.length<=40/\la.length<=rows.length+1/\∀r∈la,r.length<=40:=by
 unfold jx at h;split at h
 ·cases h
 rename_i p hp;obtain⟨pg,pi,gc,vd,s1,s2,_,_,hit,_,_,phd⟩:=pL hp;have rW:=yE hit;split at h
 ·cases h
 split at h
 ·cases h
 rename_i left arV;obtain⟨k1,k2⟩:=XJ arV;split at h
 ·cases h
 rename_i ls hls;obtain⟨m1,m2⟩:=NK hls;rw[length_map] at m1
 have hrow:∀x∈ls,x.row.length<=40:=λ x hx=>by
  obtain⟨r,hr2,he⟩:=List.mem_map.1 (m2 x hx);unfold br at he;split at he
  ·cases he
  rename_i l hl;injection he with he;subst he;unfold vS;dsimp only;split
  ·rename_i hnil;have hq:q.items=[]:=by rw[hnil] at rW;exact List.length_eq_zero_iff.1 (by rw[<- rW];rfl)
   exact hr r (k2 (pg.trans (pi hq)) r hr2)
  ·rw[length_take];omega
 injection h with h;injection h with h1 h2;subst h1 h2;refine⟨?_,?_,?_⟩
 ·rw[phd];split
  ·exact hc
  ·have:=Eb hit;omega
 ·rw[length_map];have hs:∀ds,(mf ds ls).length=ls.length:=λ ds=>(lZ _ ls).length_eq
  split
  ·rw[hs];omega
  ·rw[length_take,hs];omega
 ·intro r hr2;obtain⟨x,hx,rfl⟩:=List.mem_map.1 hr2;refine hrow x ?_;have hs:∀ds (y:fg),y∈mf ds ls->y∈ls:=λ ds y hy=>(lZ _ ls).mem_iff.1 hy
  split at hx
  ·exact hs _ _ hx
  ·exact hs _ _ (mem_of_mem_take hx)
structure tU (w:rQ) (q:Qy) (L:QL) (CA:z_) (cols:List aV) (RA:z_) (rows:List aX):Prop where
 qy:oX w q L
 ok:q.Ok
 smalls:Tr.smalls q.all
 nodes:Tr.aN q.all<=1100000
 bT:q.bT.size<=1048576
 ln:L.l.n<=1048576
 lim:∀n∈q.lim,n<=9223372036854775807
 env:xI w
 cr:RC w w.heap.size CA cols
 cl:cols.length<=140737488355328
 rr:RR w w.heap.size RA rows
 rn:rows.length<=140737488355328
 each:∀r∈rows,r.l.length<=140737488355328/\∀v∈r.l,v.Ok
section
variable {w w':rQ} {q:Qy} {L:QL} {CA:z_} {cols:List aV} {RA:z_} {rows:List aX}
theorem tU.later (h:tU w q L CA cols RA rows)(hb:aj w w'):tU w' q L CA cols RA rows:=
 ⟨h.qy.later hb,h.ok,h.smalls,h.nodes,h.bT,h.ln,h.lim,h.env.later hb,h.cr.later hb,h.cl,h.rr.later hb,h.rn,h.each⟩
theorem Qy.Ok.all (h:q.Ok):Tr.cH q.all:=by unfold Qy.all;exact my.2 ⟨my.2 ⟨h.i,my.2 ⟨my.2 ⟨h.w,h.g⟩,h.h⟩⟩,h.o⟩
theorem tU.great (cc rc:Nat)(h:tU w q L CA cols RA rows):ar 9 #[oC q L,.slice CA cols.length cc,.slice RA rows.length rc] w (JY q cols rows w):=by
 have hn:=h.nodes;rw[mC] at hn;have l1:=fQ (q.items.map (·.1));have l2:=fQ q.bF;have l3:=fQ q.aF;have l4:=fQ q.fK;have l5:=fQ (q.ord.map (·.1));rw[length_map] at l1 l5;have hf:=h.bT;have hl:=h.ln;have i1:L.i.n=q.items.length:=by have:=h.qy.i.n;simpa using this
 have i2:L.o.n=q.ord.length:=by have:=h.qy.o.n;simpa using this
 have hc:=h.cl;have hr:=h.rn;exact XD q L CA cc cols RA rc rows w h.qy TD h.ok.all TD ⟨by omega,by omega,by omega⟩ h.rr TD TD λ r hr=>by have:=(h.each r hr).1;omega
theorem tU.cr_ (h:tU w q L CA cols RA rows)(g:GOK q cols rows):CR w CA cols RA rows:=
 ⟨h.env,h.cr,g.cl,h.rr,g.rn,λ r hr=>⟨g.each r hr,(h.each r hr).2⟩⟩
theorem tU.few (h:tU w q L CA cols RA rows)(g:GOK q cols rows):Few q:=by have hn:=ND h.smalls (by have:=h.nodes;omega) g.size;have:=g.g;have:=g.w;have:=g.h;have:=g.i;have:=g.o;exact⟨by omega,by omega,by omega,by omega,by omega,by omega,h.lim⟩
end
def rU:Tr:=.mk 21 aC ByteArray.empty 0 []
def tG (sum:t_):Tr:=.mk 23 aC ByteArray.empty 0 [.mk 2 aC sum 0 []]
def gq (eJ:uF)(sum:t_)(bF:uF):Qy:=⟨(rU,ByteArray.empty)::(tG sum,ByteArray.empty)::eJ.map λ t=>(t,ByteArray.empty),ByteArray.empty,false,bF,eJ,[],[],[]⟩
theorem aak(cols:List aV) (h:isAgg t.op=true):(t.type cols).2≠0:=by
 obtain⟨op,v,name,width,args⟩:=t;have h:isAgg op=true:=h;unfold isAgg at h;simp only[Bool.and_eq_true,decide_eq_true_eq] at h;unfold Tr.type pS;by_cases hf:gJ (Tr.types cols args)=0
 ·rw[if_neg (by simp[hf])]
  have h1:bH ⟨op,v,name,width,none,args.length,0⟩≠0:=by
   unfold bH;dsimp only;rw[if_neg TD];have h2:jK op=false:=by unfold jK;rw[decide_eq_false_iff_not];omega
   rw[h2,if_neg Taa];split <;> decide
  rw[if_pos h1];exact h1
 ·rw[if_pos hf];exact hf
theorem xh:∀ {l:uF} {k:Nat} {gc:List aV},gM cols l k=.ok gc->gc.length=l.length/\(∀j (h:j < gc.length),gc[j].name=di ((k+j:Nat):Int))/\∀t∈l,(t.type cols).2=0
 | [],k,gc,h=>by unfold gM at h;injection h with h;subst h;exact⟨rfl,λ j h=>by simp at h,λ t h=>by cases h⟩
 | t::ts,k,gc,h=>by
   unfold gM at h;by_cases ht:(t.type cols).2=0
   ·rw[if_neg (by simp[ht])] at h;cases hg:gM cols ts (k+1)with
    | error e=>rw[hg] at h;cases h
    | ok l=>
      rw[hg] at h;injection h with h;subst h;obtain⟨h1,h2,h3⟩:=xh hg;refine⟨by simp[h1],λ j hj=>?_,λ u hu=>?_⟩
      ·cases j with
       | zero=>rfl
       | succ j=>rw[getElem_cons_succ,h2 j Ta4];congr 2;omega
      ·rcases List.mem_cons.1 hu with rfl | hu
       ·exact ht
       ·exact h3 u hu
   ·rw[if_pos ht] at h;cases h
theorem Uh(hg:∀t∈aF,(t.type cols).2=0) (ht:isAgg t.op=true)    (h:mb true aF cols t s=.ok (y,k,s')):
  y=ma s.aF.length/\s'.aD=s.aD++ [t]/\∃c,s'.aF=s.aF++ [⟨di s.aF.length,c⟩]:=by
 have hnone:aF.findIdx? (λ g=>g.same t)=none:=by
  rw[findIdx?_eq_none_iff];intro g hgm
  cases hs:g.same t with
  | false=>rfl
  | true=>have e:=Tr.JF g t hs;subst e;exact absurd (hg _ hgm) (aak cols ht)
 obtain⟨op,v,name,width,args⟩:=t;have hop:isAgg op=true:=ht;unfold mb at h;rw[if_neg V0] at h;unfold Tr.turn at h;rw[hnone] at h;dsimp only at h;rw[if_pos hop] at h;by_cases h0:(fZ cols op args).2=0
 ·rw[if_neg (by simp[h0])] at h;dsimp only at h;split at h
  ·cases h
  ·injection h with h;injection h with e1 h;injection h with e2 e3;subst e1 e3;exact⟨rfl,rfl,_,rfl⟩
 ·rw[if_pos h0] at h;cases h
theorem Ho(h:t∈aF):∃j,aF.findIdx? (λ g=>g.same t)=some j/\j < aF.length/\aF[j]?=some t:=by
 cases hf:aF.findIdx? (λ g=>g.same t)with
 | none=>rw[findIdx?_eq_none_iff] at hf;have:=hf t h;rw[Tr.GJ] at this;cases this
 | some j=>rw[findIdx?_eq_some_iff_getElem] at hf;obtain⟨hj,hs,_⟩:=hf;exact⟨j,rfl,hj,by rw[getElem?_eq_getElem hj,Tr.JF _ _ hs]⟩
def idxOf (aF:uF)(t:Tr):Nat:=(aF.findIdx? (λ g=>g.same t)).getD 0
theorem NM(h:t∈aF):idxOf aF t < aF.length/\aF[idxOf aF t]?=some t:=by obtain⟨j,h1,h2,h3⟩:=Ho h;unfold idxOf;rw[h1];exact⟨h2,h3⟩
theorem afl(ht:t∈aF)    (h:mb true aF cols t s=.ok (y,k,s')):y=ma (idxOf aF t)/\s'=s:=by
 obtain⟨j,h1,h2,h3⟩:=Ho ht;have hi:idxOf aF t=j:=by unfold idxOf;rw[h1];rfl
 unfold mb at h;rw[if_neg V0] at h;obtain⟨op,v,name,width,args⟩:=t;unfold Tr.turn at h;rw[h1] at h;dsimp only at h;split at h
 ·cases h
 ·injection h with h;injection h with e1 h;injection h with e2 e3;subst e1 e3;exact⟨by rw[hi],rfl⟩
theorem Hp:∀ {l:uF} {s:dp} {ys:uF} {hd:List aV} {s':dp},(∀t∈l,t∈aF)->cC true aF cols (l.map λ t=>(t,ByteArray.empty)) s=.ok (ys,hd,s')->ys=l.map (λ t=>ma (idxOf aF t))/\s'=s
 | [],s,ys,hd,s',_,h=>by unfold cC at h;injection h with h;injection h with e1 h;injection h with e2 e3;exact⟨e1.symm,e3.symm⟩
 | t::l,s,ys,hd,s',hl,h=>by
   rw[map_cons] at h;unfold cC at h;split at h
   ·cases h
   rename_i y k s1 hy;split at h
   ·cases h
   rename_i ys1 jL s2 XR;injection h with h;injection h with e1 h;injection h with e2 e3;subst e1 e3;obtain⟨rfl,rfl⟩:=afl (hl t (mem_cons_self ..)) hy;obtain⟨rfl,rfl⟩:=Hp (λ u hu=>hl u (mem_cons_of_mem _ hu)) XR;exact⟨rfl,rfl⟩
structure ahd (eJ:uF) (sum:t_) (p:ix):Prop where
 aI:p.aI=true
 having:p.having=[]
 order:p.order=[]
 aD:p.st.aD=[rU,tG sum]
 len:p.st.aF.length=eJ.length+2
 name:∀j (h:j < p.st.aF.length),p.st.aF[j].name=di (j:Int)
 items:p.items=ma eJ.length::ma (eJ.length+1)::eJ.map λ t=>ma (idxOf eJ t)
variable{eJ:uF}{sum:t_}{bF:uF}
theorem Ui{p:ix}(h:dV (gq eJ sum bF) cols=.ok p):ahd eJ sum p:=by
 obtain⟨hg,_,gc,hd,s1,s2,_,hgc,hi,hh,ho,_⟩:=pL h;have hgt:(gq eJ sum bF).aI=true:=by unfold Qy.aI gq;simp[Tr.BM,Tr.has,rU,isAgg]
 rw[hgt] at hg hi hh ho;have e1:p.having=[]/\s1=s2:=by have hh:dm true eJ cols [] s1=.ok (p.having,s2):=hh;unfold dm at hh;injection hh with hh;injection hh with a b;exact⟨a.symm,b⟩
 have e2:p.order=[]/\s2=p.st:=by have ho:dX true eJ cols [] s2=.ok (p.order,p.st):=ho;unfold dX at ho;injection ho with ho;injection ho with a b;exact⟨a.symm,b⟩
 obtain⟨g1,g2,g3⟩:=xh (show gM cols eJ 0=.ok gc from hgc);have hi:cC true eJ cols ((rU,ByteArray.empty)::(tG sum,ByteArray.empty)::eJ.map λ t=>(t,ByteArray.empty)) ⟨[],gc⟩=.ok (p.items,hd,s1):=hi;unfold cC at hi;split at hi
 ·cases hi
 rename_i y1 k1 t1 XR;split at hi
 ·cases hi
 rename_i ys1 jL u1 hz1;injection hi with hi;injection hi with a1 hi;injection hi with a2 a3;unfold cC at hz1;split at hz1
 ·cases hz1
 rename_i y2 k2 t2 fI;split at hz1
 ·cases hz1
 rename_i Wf Qw u2 hz2;injection hz1 with hz1;injection hz1 with b1 hz1;injection hz1 with b2 b3;obtain⟨c1,c2,k1',c3⟩:=Uh g3 (t:=rU) V0 XR;obtain⟨d1,d2,k2',d3⟩:=Uh g3 (t:=tG sum) (show isAgg 23=true by decide) fI;obtain⟨f1,f2⟩:=Hp (λ t ht=>ht) hz2;have hst:p.st=t2:=by rw[<- e2.2,<- e1.2,<- a3,<- b3,f2]
 have akH:p.st.aF=gc++ [⟨di gc.length,k1'⟩]++ [⟨di ((gc.length+1:Nat):Int),k2'⟩]:=by rw[hst,d3,c3];simp
 refine⟨hg,e1.1,e2.1,?_,?_,?_,?_⟩
 ·rw[hst,d2,c2];rfl
 ·rw[akH];simp[g1]
 ·intro j hj;have hj2:=hj;rw[akH] at hj2;simp only[length_append,length_singleton] at hj2;have:p.st.aF[j]?=(gc++ [⟨di gc.length,k1'⟩]++ [⟨di ((gc.length+1:Nat):Int),k2'⟩])[j]?:=by rw[akH]
  rw[getElem?_eq_getElem hj] at this;rcases Nat.lt_or_ge j gc.length with h1 | h1
  ·rw[getElem?_append_left Tab,getElem?_append_left h1,getElem?_eq_getElem h1] at this;injection this with this;rw[this,g2 j h1,Nat.zero_add]
  ·rcases Nat.lt_or_ge j (gc.length+1)with h2 | h2
   ·have hjj:j=gc.length:=by omega
    subst hjj;rw[getElem?_append_left Taa,getElem?_append_right (Nat.le_refl _)] at this;simp at this;rw[this]
   ·have hjj:j=gc.length+1:=by omega
    subst hjj;rw[getElem?_append_right Taa] at this;simp at this;rw[this];congr 1
 ·rw[<- a1,<- b1,c1,d1,f1,c3];simp[g1]
end Go.Proofs.YtndgjggokjickaaGreatDoor
