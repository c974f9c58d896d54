/- Parts of the proof. -/
import Derived.Lib.AppendZerosOnto
import Derived.Lib.Overlaps
import Derived.RangeFuncNested
import Derived.RangeFuncBound
import Derived.Shelf.RegionOpen
import Derived.OwnWalkIn
import Derived.LoopNIn
import Derived.LoopIn
import Derived.Test.YtndgjggokjickaaGreatDoorXP3
namespace Go.Proofs.YtndgjggokjickaaGreatDoor
open _root_.Go.Proofs.Tryz
variable{p:Sort _}
set_option maxHeartbeats 90000000
set_option maxRecDepth 100000
open Go.ChangeShapes Go.WideShapes Go.ChangeAt Go.RowKit List
set_option linter.unusedVariables false
set_option linter.unusedSimpArgs false
theorem DJ:(prog.info? 135).map (λ i=>(i.zero,i.size,i.bytes))=some (some (.pointer none),1,8):=by exact Zhr
theorem NR(u:t_):(sizeOf (prog.elem 134)).run prog u=.ok 1 u:=by exact Zhr
theorem jb(A1:xP)(n c1 k:Nat)(hk:k<=n)(u:t_):(Instr.slice 134 (.slice A1 n c1) (some (af k)) none none).run prog u=.ok (.slice (if c1=k then A1 else A1.map (·.add (k*1))) (n-k) (c1-k)) u:=by rw[run_slice_l u 134 A1 n c1 underlying134 .i64 k WC WC,NR];simp[sliced]
theorem DL(A1:xP)(n c1 k:Nat)(hk:k<=c1)(u:t_):(Instr.slice 134 (.slice A1 n c1) none (some (af k)) none).run prog u=.ok (.slice A1 k c1) u:=by rw[run_slice_h u 134 A1 n c1 underlying134 .i64 k WC WC,NR];exact Zih
theorem NS(w:t_)(ty:TypeId)(g q:Nat)(cur:x_)(a:Addr)(cs:xr)(dl dc sl sc:Nat)(hg:aB w g 135 cur)(qE:q+cs.length<=cur.size)(hn:cs.length=Nat.min sl dl)
  (hs:∀(j:Nat) v,cs[j]?=some v->w.cell? (a.add j)=some v) (h1:∀v∈cs,v.oneCell'=true):
  (Builtin.copy_ #[134,134] ty #[.slice (some ⟨g,q,none⟩) dl dc,.slice (some a) sl sc]).run prog w=.ok (goInt cs.length) (w.setRow g (cur.toList.take q++(cs++cur.toList.drop (q+cs.length))).toArray):=by
 have hst:=run_storeCells_at prog g q 135 cs 0 cur w hg (by simpa using qE) h1;have hld:=run_loadCells_list (P:=prog) w a cs hs;have hsz:∀u:t_,(sizeOf 135).run prog u=.ok 1 u:=λ u=>by kernel_rfl
 simp only[Nat.add_zero]at hst;simp[Builtin.copy_,run_underlying underlying134,Builtin.lenOf,Builtin.firstCells,hsz,<-hn,hld,hst]
variable{rest:List Oper}{ac:Act}{w:t_}{Q:y_}
theorem jH{ops:Array Oper}{o:Oper}(hgd:o.guard=none)(d s:Operand)
  (ho:o.op=.call {callee:=.builtin .copy,args:= #[d,s],argTypes:= #[134,134]}) (g q:Nat) (cur:x_) (a:Addr) (cs:xr) (dl dc sl sc:Nat) (hd:ac.eval d=.slice (some ⟨g,q,none⟩) dl dc) (hs:ac.eval s=.slice (some a) sl sc)
  (hg:aB w g 135 cur) (qE:q+cs.length<=cur.size) (hn:cs.length=Nat.min sl dl) (avG:∀(j:Nat) v,cs[j]?=some v->w.cell? (a.add j)=some v) (h1:∀v∈cs,v.oneCell'=true)
  (h:∀w' u,aB w' g 135 (cur.toList.take q++(cs++cur.toList.drop (q+cs.length))).toArray->w.grownBy w' (some g)->wpList prog ops Q rest (ac.put o.dst u) w'):wpList prog ops Q (o::rest) ac w:=by
 refine wpList_plain hgd λ K hK=>?_;have hrun:=NS w o.type g q cur a cs dl dc sl sc hg qE hn avG h1;unfold Oper.wp;simp[execOp,ho,resolve,invoke,builtin,hd,hs,hrun,Result.andThen];exact hK _ _ (h _ _ (setRow_heap w g cur _ 135 (0,0) hg) ⟨rfl,rfl,rfl,by simp[World.setRow],λ k hk hne=>setRow_other w g k _ (λ e=>hne Ta5)⟩)
theorem fO(A:xP)(n c:Nat):(Value.slice A n c).ownBlock=A.map (·.block):=by cases A<;>rfl
def fp(q:Nat):Value:=aw q
theorem sN(l:List Nat):l.flatMap dh=l.map fp:=by
 induction l with
 |nil=>rfl
 |cons x l ih=>rw[flatMap_cons,ih];rfl
theorem BZ(l:List Nat):∀v∈l.map fp,v.oneCell'=true:=by intro v hv;obtain⟨x,_,rfl⟩:=List.mem_map.1 hv;simp[fp,Value.oneCell']
def Ca(lv:Value)(base:Nat)(l:List Nat)(w:t_)(e:Ending)(w':t_):Prop:=∃v',e=.returned v'/\aH dh 135 1 w' base v' l/\w.grownBy w' lv.ownBlock
theorem RD(gs:List Nat)(x:Nat)(lv:Value)(base vb:Nat)(w:t_)(hl:gs.length<=1000000)(hO:aH dh 135 1 w base lv gs)(hv:aB w vb 135 #[aw x])(hbase:base<=w.heap.size):
  ar 66 #[lv,af gs.length,aL vb 1 1] w (Ca lv base (gs++[x]) w):=by
 obtain⟨LA,lc,rfl,hle,_⟩:=xJ hO;have HV:=aa hv;obtain⟨n,pY⟩:∃n,n=gs.length:=⟨_,rfl⟩;have HN:=aa pY;have hl2:n<=1000000:=WC;rw[<-pY]at hle hO⊢;have HO:=aa hO;have fW:=λ u=>jb LA n lc n aE u;clear hO hv pY hl;go_enter func66,ntmps66;go_wp2_with (first
  |(at_builtin
    refine aV (l:=gs) rfl (.tmp 23) (.tmp 24) 134 rfl _ 8 underlying134 DJ rfl WC x rfl Ta0 rfl HO.ae vb rfl HV.ae Tbr Tbr hbase ?_;intro v4 w4 Xs g4;obtain⟨A4,Sd,hv4,_⟩:=Xs.reads;rw[length_append,length_singleton]at hv4;subst hv4;have O4:=aa Xs;have G4:=aa (show w.grownBy w4 (Value.slice LA n lc).ownBlock from g4);clear Xs g4))
 all_goals
  go_ret;refine⟨_,rfl,O4.ae,?_⟩;have h4:=G4.ae;rw[fO]at h4⊢;exact h4
def ajh(g n cap k:Nat):Nat->t_->Value->Prop
 |0,_,v=>v=aL g (n+1) cap
 |1,_,v=>v=af k
 |2,_,v=>v=af 1
 |3,_,v=>v=af (k+1)
 |4,_,v=>v=.slice (some ⟨g,k+1,none⟩) (n+1-(k+1)) (cap-(k+1))
 |5,_,v=>v=aL g (n+1) cap
 |6,_,v=>v=af k
 |7,_,v=>v=.slice (some ⟨g,k,none⟩) (n+1-k) (cap-k)
 |_,_,_=>False
theorem RF(g n cap k:Nat):∀i w w' v,ajh g n cap k i w v->aj w w'->ajh g n cap k i w' v:=by exact Zg9
def zht.Kb3(h:p:=by
 have wk:=aa (HG.ae.later hL);have HV3:=aa (HV.ae.later hL);have HL:=aa hL;clear hL HG HV;have hg:((gs.drop k).map fp).length=n-k:=by rw[length_map,length_drop,<-HN.ae]
 have hcell:∀(j:Nat) v,((gs.drop k).map fp)[j]?=some v->W3.cell? ((⟨g,k,none⟩:Addr).add j)=some v:=λ j v hj=>by
  rw[NJ,wk.ae.cell];rw[<-Array.getElem?_toList];have e:(cur.toList.take n)[k+j]?=some v:=by rw[ox.ae];rw[getElem?_map,getElem?_drop,<-getElem?_map]at hj;exact hj
  rw[getElem?_take]at e;split at e;exact e;cases e
 have Pt:=aa hcell;have Qa:=aa hg;clear hcell hg;refine jH rfl (.tmp 73) (.tmp 76) rfl g (k+1) cur ⟨g,k,none⟩ ((gs.drop k).map fp) _ _ _ _ rfl rfl wk.ae (by rw[Qa.ae,Nj.ae];omega) (by rw[Qa.ae];simp only[Nat.min_def];split<;>omega) Pt.ae (BZ _) ?_;intro Kx u4 hg4 Xj;have LI:=aa hg4;have HV4:=aa (HV3.ae.grown Xj (λ e=>by injection e with e;exact HFN.ae e.symm));have ajj:=aa (show w.grownBy Kx (some g)from ba (aQ HL.ae) Xj);clear hg4 Xj wk HV3 HL Pt;obtain⟨c4,hc4⟩:∃c4:x_,c4=(cur.toList.take (k+1)++((gs.drop k).map fp++cur.toList.drop (k+1+((gs.drop k).map fp).length))).toArray:=⟨_,rfl⟩;rw[<-hc4]at LI;have HC4:=aa hc4;clear hc4;have hs4:c4.size=cap:=by rw[HC4.ae];have h1:=Qa.ae;have h2:=Nj.ae;simp only[size_toArray,length_append,length_take,length_drop,Array.length_toList]at h1⊢;rw[length_map,length_drop]at h1⊢;omega
 have HS4:=aa hs4;have TK:∀(j:Nat) v,[fp x][j]?=some v->Kx.cell? ((⟨vb,0,none⟩:Addr).add j)=some v:=λ j v hj=>by rw[NJ,Nat.zero_add,HV4.ae.cell];simpa [fp] using hj
 have HCX:=aa TK;clear hs4 TK;go_wp2_with (first
  |(refine jH rfl (.tmp 80) (.tmp 81) rfl g k c4 ⟨vb,0,none⟩ [fp x] _ _ _ _ rfl rfl LI.ae (by rw[HS4.ae,length_singleton];omega) TaU HCX.ae (BZ [x]) ?_
    intro W5 u5 Kv api;have Xh:=aa Kv;have avH:=aa (ba ajj.ae api);clear Kv api))
 go_ret;refine⟨_,rfl,⟨?_,.inr ⟨g,cap,_,?_,hbg,Xh.ae,?_,iT.ae,?_,?_⟩⟩,avH.ae⟩;have:=HN.ae;simp[sN,dh];have:=HN.ae;congr 1;simp;omega;have:=HN.ae;simp;omega;have:=HS4.ae;simp;omega;have h3:=ox.ae;have h4:=HC4.ae;have h5:=HN.ae;have h6:=Nj.ae;obtain⟨R,hR⟩:∃R,R=cur.toList.drop (k+1+((gs.drop k).map fp).length):=⟨_,rfl⟩;rw[<-hR]at h4;have cj:cur.toList.length=cap:=by rw[Array.length_toList];exact h6
 have e0:cur.toList.take k=(gs.take k).map fp:=by have:=congrArg (List.take k) h3;rw[take_take,Nat.min_eq_left WC,<-map_take]at this;exact this
 have KK:(cur.toList.take (k+1)).length=k+1:=Taz;have e1:c4.toList.take k=(gs.take k).map fp:=by rw[h4,toList_toArray,take_append_of_le_length WC,take_take,Nat.min_eq_left WC,e0]
 have e2:c4.toList.drop (k+1)=(gs.drop k).map fp++R:=by rw[h4,toList_toArray,drop_append_of_le_length WC,drop_of_length_le WC,nil_append]
 rw[sN,toList_toArray,e1,length_singleton,e2,Nat.mul_one];have e3:(gs.take k).map fp++([fp x]++((gs.drop k).map fp++R))=(gs.take k++x::gs.drop k).map fp++R:=Tad;exact Zhz):=h
theorem NT(gs:List Nat)(x k:Nat)(g cap base vb:Nat)(cur:x_)(w:t_)(hl:gs.length<=1000000)(hk:k<gs.length)(hbg:base<=g)(bc:aB w g 135 cur)(hroom:gs.length+1<=cap)(Ui:cap<=maxLen)(qT:cur.size=cap)(Bi:cur.toList.take gs.length=gs.map fp)(hv:aB w vb 135 #[aw x])(hfn:g≠vb):
  ar 66 #[aL g gs.length cap,af k,aL vb 1 1] w (Ca (aL g gs.length cap) base (gs.take k++x::gs.drop k) w):=by
 obtain⟨n,pY⟩:∃n,n=gs.length:=⟨_,rfl⟩;have HN:=aa pY;rw[<-pY]at hl hk hroom Bi⊢;have hmx:cap<=9223372036854775807:=by unfold maxLen at Ui;omega
 have MX:∀lb cb,(callFunc 101 #[aL vb 1 1,.slice (some ⟨g,k+1,none⟩) lb cb]).run prog w=.ok (.value (.bool false)) w:=λ lb cb=>by
  rw[run_callFunc_extern func101 Taa Taa Taa (e:=Extern.SlicesOverlaps.overlaps #[134,134] #[4]) Taa,
   Lib.run_overlaps_apart w 134 4 135 underlying134 1 (λ u=>by kernel_rfl) ⟨vb,0,none⟩ ⟨g,k+1,none⟩ 1 1 lb cb (Ne.symm hfn) 135 135 1 cap (by unfold World.shape?;dsimp only;rw[show w.heap[vb]?=some (.cells #[aw x] 135 (0,0))from hv];rfl) (by unfold World.shape?;dsimp only;rw[show w.heap[g]?=some (.cells cur 135 (0,0))from bc,<-qT]) WC (hv.frozen 0) (hv.frozen 1)]
  rfl
 have Xi:=λ u=>jb (some ⟨g,0,none⟩) n cap k WC u;have aph:=λ u=>DL (some ⟨g,0,none⟩) n cap (n+1) hroom u;have FU:=λ u=>jb (some ⟨g,0,none⟩) (n+1) cap (k+1) WC u;have RG:=λ u=>jb (some ⟨g,0,none⟩) (n+1) cap k WC u;rw[if_neg WC]at Xi FU RG;simp only[Option.map_some,dX,Nat.mul_one,Nat.zero_add]at Xi FU RG;push_cast at aph FU;have mixed:prog.follows .mixedOrders=true:=Taa;have t1:((k:Int)==(n:Int))=false:=Tac;have t2:decide ((cap:Int)<(n:Int)+1)=false:=decide_eq_false WC;have HG:=aa bc;have HV:=aa hv;have ox:=aa Bi;have iT:=aa Ui;have Nj:=aa qT;have HFN:=aa hfn;have HOV:=MX;clear bc hv Bi Ui qT hfn pY MX;go_enter func66,ntmps66;go_wp2_with (simp only[HOV]);refine bD 8 (ajh g n cap k) (RF _ _ _ _) Taa Taa Taa ?_ ?_;exact Zbr
 open zht in exact Zfz
theorem Xk(d:Bool):Good (F5 d):=by cases d;exact km;exact km.flip
theorem DM:∀ds,Good (xm ds)
 |[]=>⟨λ _ _=>rfl,λ _ _ _ _ _=>Int.le_refl _⟩
 |d::ds=>((Xk d).by_ λ l:w_=>l.headD aM).lex ((DM ds).by_ List.tail)
theorem mU(ds:List Bool):Good (xo ds):=((DM ds).by_ eu.keys).lex (fS.by_ eu.row)
variable{ds:List Bool}
theorem RH{a b:eu}(h:xo ds a b=0):a.row=b.row:=by unfold xo pB at h;split at h;exact eO _ _ h;rename_i h2;exact absurd h h2
def ku(s:dE):Prop:=∀a∈s.aD,isAgg a.op=true
mutual
theorem Tr.Hz(aG:vI)(cols:List aZ):∀(t:Tr) (s:dE) (y:Tr) (s':dE),t.turn aG cols s=.ok (y,s')->ku s->ku s'
 |.mk op v name width args,s,y,s',h,hs=>by
   unfold Tr.turn at h;split at h;injection h with h;injection h with h1 h2;rw[<-h2];exact hs;split at h
   ·rename_i hop;split at h
    ·cases h
    injection h with h;injection h with h1 h2;rw[<-h2];intro a ha;rcases List.mem_append.1 ha with ha|ha;exact hs a ha;rw[mem_singleton]at ha;rw[ha];exact hop
   split at h;cases h;rename_i ys s1 h1;split at h;cases h;split at h;cases h;injection h with h;injection h with h3 h4;rw[<-h4];exact Tr.DN aG cols args s ys s1 h1 hs
theorem Tr.DN(aG:vI)(cols:List aZ):∀(ts:vI) (s:dE) (ys:vI) (s':dE),Tr.turns aG cols ts s=.ok (ys,s')->ku s->ku s'
 |[],s,ys,s',h,hs=>by unfold Tr.turns at h;injection h with h;injection h with h1 h2;rw[<-h2];exact hs
 |t::ts,s,ys,s',h,hs=>by unfold Tr.turns at h;split at h;cases h;rename_i y s1 h1;split at h;cases h;rename_i YX s2 h2;injection h with h;injection h with h3 h4;rw[<-h4];exact Tr.DN aG cols ts s1 YX s2 h2 (Tr.Hz aG cols t s y s1 h1 hs)
end
variable{t:Tr}{s s':dE}
theorem DO{g:Bool}{aG:vI}{cols:List aZ}{y:Tr}{k:Int}(h:pZ g aG cols t s=.ok (y,k,s'))(hs:ku s):ku s':=by unfold pZ at h;split at h;exact Zgw;split at h;cases h;rename_i y1 s1 h1;split at h;cases h;injection h with h;injection h with h2 h;injection h with h3 h4;rw[<-h4];exact Tr.Hz aG cols t s y1 s1 h1 hs
theorem DR{g:Bool}{aG:vI}{cols:List aZ}:∀{l:List (Tr×u_)}{s:dE}{ys:vI}{hd:List aZ}{s':dE},dr g aG cols l s=.ok (ys,hd,s')->ku s->ku s'
 |[],s,ys,hd,s',h,hs=>by unfold dr at h;injection h with h;injection h with h1 h;injection h with h2 h3;rw[<-h3];exact hs
 |(t,nm)::l,s,ys,hd,s',h,hs=>by unfold dr at h;split at h;cases h;rename_i y k s1 h1;split at h;cases h;rename_i YX Pn s2 h2;injection h with h;injection h with h3 h;injection h with h4 h5;rw[<-h5];exact DR h2 (DO h1 hs)
theorem Av{g:Bool}{aG:vI}{cols:List aZ}:∀{l:vI}{s:dE}{ys:vI}{s':dE},dt g aG cols l s=.ok (ys,s')->ku s->ku s'
 |[],s,ys,s',h,hs=>by unfold dt at h;injection h with h;injection h with h1 h2;rw[<-h2];exact hs
 |t::l,s,ys,s',h,hs=>by unfold dt at h;split at h;cases h;rename_i y k s1 h1;split at h;cases h;split at h;cases h;rename_i YX s2 h2;injection h with h;injection h with h3 h4;rw[<-h4];exact Av h2 (DO h1 hs)
theorem DT{g:Bool}{aG:vI}{cols:List aZ}:∀{l:List (Tr×Bool)}{s:dE}{ys:vI}{s':dE},eF g aG cols l s=.ok (ys,s')->ku s->ku s'
 |[],s,ys,s',h,hs=>by unfold eF at h;injection h with h;injection h with h1 h2;rw[<-h2];exact hs
 |(t,d)::l,s,ys,s',h,hs=>by unfold eF at h;split at h;cases h;rename_i y k s1 h1;split at h;cases h;rename_i YX s2 h2;injection h with h;injection h with h3 h4;rw[<-h4];exact DT h2 (DO h1 hs)
variable{q:Qy}
def zgc.KbA(h:p:=by exact DT h3 (Av h2 (DR h1 (λ a ha=>by cases ha)))):=h
theorem Xl{cols:List aZ}{p:iY}(h:et q cols=.ok p):ku p.st:=by open zgc in exact Zey
variable{hd:List aZ}
theorem Xm(h:q.ord=[]){cols:List aZ}{rows:z_}{l:z_}(hr:iZ q cols rows=.ok (hd,l)):l.Pairwise (λ a b=>bT a b<=0):=by
 unfold iZ at hr;split at hr;cases hr;split at hr;cases hr;split at hr;cases hr;split at hr;cases hr;rename_i ls _;injection hr with hr;injection hr with h1 h2;rw[<-h2,h];have hs:(iF [] ls).Pairwise (λ a b=>xo [] a b<=0):=pT (mU []) ls;have hm:((iF [] ls).map eu.row).Pairwise (λ a b=>bT a b<=0):=by rw[pairwise_map];exact hs.imp λ {a b} h=>by have:xo [] a b=bT a.row b.row:=rfl;rw[<-this];exact h
 show((match q.lim with|[]=>iF [] ls|n::_=>(iF [] ls).take n.toNat).map eu.row).Pairwise _;split;exact hm;rw[map_take];exact hm.sublist (take_sublist _ _)
theorem least_le:∀(l:List Int) (b:Int),(b≠0->l.foldl jO b≠0/\l.foldl jO b<=b)/\∀e∈l,e≠0->l.foldl jO b≠0/\l.foldl jO b<=e
 |[],b=>⟨λ h=>⟨h,Int.le_refl _⟩,λ e he=>by cases he⟩
 |x::l,b=>by
   obtain⟨h2,h3⟩:=least_le l (jO b x);have k1:b≠0->jO b x≠0/\jO b x<=b:=by unfold jO;split<;>omega
   have k2:x≠0->jO b x≠0/\jO b x<=x:=by unfold jO;split<;>omega
   refine⟨λ hb0=>?_,λ e he he0=>?_⟩;obtain⟨a1,a2⟩:=k1 hb0;obtain⟨c1,c2⟩:=h2 a1;exact⟨c1,Int.le_trans c2 a2⟩;rcases List.mem_cons.1 he with rfl|he;obtain⟨a1,a2⟩:=k2 he0;obtain⟨c1,c2⟩:=h2 a1;exact⟨c1,Int.le_trans c2 a2⟩;exact h3 e he he0
theorem Xn{l:List Int}{e:Int}(h:e∈l)(h0:e≠0):bX l≠0/\bX l<=e:=(least_le l 0).2 e h h0
theorem RJ{l:List Int}(h:bX l=0):∀e∈l,e=0:=λ e he=>Decidable.byContradiction λ h0=>(Xn he h0).1 h
theorem Aw{l:List Int}(h:∀e∈l,e=0):bX l=0:=by
 have:∀(l:List Int),(∀e∈l,e=0)->l.foldl jO 0=0:=by
  intro l
  induction l with
  |nil=>intro _;rfl
  |cons x l ih=>intro h;rw[foldl_cons,h x (mem_cons_self ..)];exact ih λ e he=>h e (mem_cons_of_mem _ he)
 exact this l h
theorem Q1(cols:List aZ)(rows:z_):cP cols [] rows=(rows,0):=by
 have h1:rows.filter (λ r=>(eM cols [] r).2==0&&(eM cols [] r).1)=rows:=List.filter_eq_self.2 λ _ _=>rfl;have h2:bX (rows.map λ r=>(eM cols [] r).2)=0:=Aw λ e he=>by obtain⟨r,_,rfl⟩:=List.mem_map.1 he;rfl
 exact Prod.ext h1 h2
variable{α:Type}{c:α->α->Int}
theorem DU{k:α}:∀{l:List α}{j:Nat}{x:α},(∀i y,i<j->l[i]?=some y->c y k<0)->l[j]?=some x->c x k=0->iU c k l=l
 |[],j,x,_,h,_=>by simp at h
 |y::l,0,x,_,h,h0=>by simp at h;subst h;unfold iU;rw[if_neg WC,if_pos h0]
 |y::l,j+1,x,hl,h,h0=>by unfold iU;rw[if_pos (hl 0 y WC rfl),DU (j:=j) (λ i z hi hz=>hl (i+1) z WC Ta6) Taj h0]
theorem NU{k:α}:∀{l:List α}{j:Nat},j<=l.length->(∀i y,i<j->l[i]?=some y->c y k<0)->(∀y,l[j]?=some y->0<c y k)->iU c k l=l.take j++k::l.drop j
 |[],j,hj,_,_=>by simp at hj;subst hj;rfl
 |y::l,0,_,_,h=>by have h0:=h y rfl;unfold iU;rw[if_neg WC,if_neg WC];rfl
 |y::l,j+1,hj,hl,h=>by unfold iU;rw[if_pos (hl 0 y WC rfl),NU (j:=j) (by simpa using hj) (λ i z hi hz=>hl (i+1) z WC Ta6) (λ z hz=>h z Ta6)];rfl
theorem DV(l:z_)(k:w_):fZ (l++[k])=iU bT k (fZ l):=by unfold fZ zZ;rw[foldl_append];rfl
def di(ng:Nat)(l:z_):z_:=if ng=0 then [[]] else fZ l
theorem Q5(ng:Nat)(l:z_):(di ng l).Pairwise (λ a b=>bT a b<0):=by unfold di;split;simp;exact(oX fS eO l).1
theorem zE(ng:Nat)(l:z_):(di ng l).length<=l.length+1:=by
 unfold di;split;simp;have:∀(l:z_),(fZ l).length<=l.length:=by
  intro l;have hk:∀(k:w_) (m:z_),(iU bT k m).length<=m.length+1:=by
   intro k m
   induction m with
   |nil=>simp[iU]
   |cons x m ih=>
     unfold iU;split;simp;omega;split<;>simp
  suffices h:∀(l s:z_),(l.foldl (λ ks k=>iU bT k ks) s).length<=l.length+s.length by have:=h l [];simpa [fZ,zZ] using this
  intro l
  induction l with
  |nil=>intro s;simp
  |cons x l ih=>intro s;rw[foldl_cons];have h1:=ih (iU bT x s);have h2:=hk x s;simp only[length_cons];omega
 have:=this l;omega
def dV(ops:List Int)(ps:List (w_×List (Val×Val)))(k:w_):List St:=(List.range ops.length).map λ i=>lS (ops.getD i 0) (ow i ps k)
theorem jI(ops:List Int)(ps:List (w_×List (Val×Val)))(k:w_):cg ops ps k=(dV ops ps k).map gT:=by unfold cg dV;rw[map_map];rfl
theorem nZ(ops:List Int)(ps:List (w_×List (Val×Val)))(k:w_):(dV ops ps k).length=ops.length:=by simp[dV]
variable{k k':w_}{pr:List (Val×Val)}
theorem RM{i:Nat}{ps:List (w_×List (Val×Val))}(h:bT k k'≠0):ow i (ps++[(k,pr)]) k'=ow i ps k':=by unfold ow;rw[filter_append,map_append,filter_cons_of_neg Taj];simp
theorem Xo{i:Nat}{ps:List (w_×List (Val×Val))}(h:bT k k'=0):ow i (ps++[(k,pr)]) k'=ow i ps k'++[pr.getD i (aM,aM)]:=by unfold ow;rw[filter_append,map_append,filter_cons_of_pos Taj];simp
theorem Q6{i:Nat}{ps:List (w_×List (Val×Val))}(h:∀p∈ps,bT p.1 k≠0):ow i ps k=[]:=by unfold ow;rw[List.filter_eq_nil_iff.2 λ p hp=>by simpa using h p hp];rfl
theorem RO(op:Int)(l:List (Val×Val))(x:Val×Val):lS op (l++[x])=(lS op l).feed x.1 x.2:=by unfold lS St.zX;rw[foldl_append];rfl
variable{ops:List Int}
theorem Kw{ps:List (w_×List (Val×Val))}(h:bT k k'≠0):dV ops (ps++[(k,pr)]) k'=dV ops ps k':=by unfold dV;exact map_congr_left λ i _=>by rw[RM h]
theorem NV{ps:List (w_×List (Val×Val))}(h:bT k k'=0)(hl:pr.length=ops.length):dV ops (ps++[(k,pr)]) k'=List.zipWith (λ s p=>St.feed s p.1 p.2) (dV ops ps k') pr:=by
 apply ext_getElem;simp[dV,hl];intro i h1 h2;have hi:i<ops.length:=by simpa [dV] using h1
 simp only[dV,getElem_zipWith,getElem_map,getElem_range];rw[Xo h,RO,getD_eq_getElem?_getD (l:=pr),getElem?_eq_getElem (by omega:i<pr.length)];rfl
theorem DX{ps:List (w_×List (Val×Val))}(h:∀p∈ps,bT p.1 k≠0):dV ops ps k=ops.map fC:=by
 apply ext_getElem;simp[dV];intro i h1 h2;have hi:i<ops.length:=by simpa using h2
 simp only[dV,getElem_map,getElem_range];rw[Q6 h,getD_eq_getElem?_getD,getElem?_eq_getElem hi];rfl
theorem Xp(jN:∀op∈ops,isAgg op=true){ps:List (w_×List (Val×Val))}:∀s∈dV ops ps k,∃op l,op∈ops/\l.length<=ps.length/\s=lS op l:=by intro s hs;unfold dV at hs;obtain⟨i,hi,rfl⟩:=List.mem_map.1 hs;have hi:i<ops.length:=List.mem_range.1 hi;refine⟨_,ow i ps k,?_,?_,rfl⟩;rw[getD_eq_getElem?_getD,getElem?_eq_getElem hi];exact getElem_mem hi;unfold ow;rw[length_map];exact length_filter_le _ _
def zfg.Kbb(h:p:=by
 unfold jZ at gO;have oC:=aa gO;clear gO Jo;unfold cC at hex;go_wp2_with fail;have bY:=ah wr (.cells (ay bad) 46);refine(oC.ae _ (aj.then hb bY)).mono ?_;rintro e W3 ⟨rfl,b1⟩;unfold bP;have ez:=aj.then hb (aj.then bY b1);have t1:(er != 0)=true:=by have:=PW.ae;simpa using this
 have t2:decide (er=0)=false:=by have:=PW.ae;simpa using this
 clear bY b1 oC hex hb;go_wp2_with fail;exact bodyPost_ret (v:=.tuple #[az,af er]) Tbx rfl ⟨rfl,aj.then ez (ah W3 _)⟩):=h
theorem RP(A:xP)(n c:Nat)(cV rV:Value)(args:List (Ex×Val))(bad:Ex)(bv:Val)(er:Int)(post:v_)(w:t_)(hn:args.length+1+post.length=n)(hl:n<=1599289640356)(hA:RE w w.heap.size A (args.map (·.1)++bad::post))(hE:∀a∈args,jZ w cV rV a.1 a.2 0)(kN:jZ w cV rV bad bv er)(her:er≠0):
  ar 34 #[.slice A n c,cV,rV] w λ e w'=>e=.returned (.tuple #[az,af er])/\ai w w':=by
 have HN:=aa hn;have Jo:=aa kN;have PW:=aa her;clear hn kN her;have HA:=aa hA;have HE:=aa hE;clear hA hE;go_enter func34,ntmps34;go_wp2_with fail;go_loopw [8,15] (λ kv Kx wr=>∃i:Nat,i<=args.length/\Kx=af i/\aH aX 44 3 wr w.heap.size kv ((args.take i).map (·.2))/\ai w wr) (λ _ Kx _=>args.length-(intOf Kx).toNat);case atStart=>exact Zc2
 case round=>
  obtain⟨i,hk,rfl,hp,hb⟩:=hrel;have HP:=aa hp;clear hp;rcases gR i args.length with hlt|wI
  ·have AV:i<n:=by have:=HN.ae;omega
   obtain⟨b,off,rfl,ly,hex⟩:=(HA.ae.below hb).at_ (show i <(args.map (·.1)++bad::post).length by simp;omega);have jR:(args.map (·.1)++bad::post)[i]' Tac=args[i].1:=by rw[getElem_append_left Tao];simp
   exact Zat
  open zfg in exact Zdg
theorem RQ(A:xP)(n c:Nat)(cV rV:Value)(args:List (Ex×Val))(w:t_)(hn:args.length=n)(hl:n<=1599289640356)(hA:RE w w.heap.size A (args.map (·.1)))(hE:∀a∈args,jZ w cV rV a.1 a.2 0):
  ar 34 #[.slice A n c,cV,rV] w λ e w'=>∃v,e=.returned (.tuple #[v,af 0])/\aH aX 44 3 w' w.heap.size v (args.map (·.2))/\ai w w':=by
 have HN:=aa hn;clear hn;have HA:=aa hA;have HE:=aa hE;clear hA hE;go_enter func34,ntmps34;go_wp2_with fail;go_loopw [8,15] (λ kv Kx wr=>∃i:Nat,i<=args.length/\Kx=af i/\aH aX 44 3 wr w.heap.size kv ((args.take i).map (·.2))/\ai w wr) (λ _ Kx _=>args.length-(intOf Kx).toNat);case atStart=>exact Zc2
 case round=>
  obtain⟨i,hk,rfl,hp,hb⟩:=hrel;have HP:=aa hp;clear hp;rcases gR i args.length with hlt|wI
  ·have AV:i<n:=by have:=HN.ae;omega
   obtain⟨b,off,rfl,ly,hex⟩:=(HA.ae.below hb).at_ (show i <(args.map (·.1)).length by simpa using hlt);have jR:(args.map (·.1))[i]' Tao=args[i].1:=Tad;exact Zat
  have mC:args.take i=args:=take_of_length_le wI;have AV:¬i<n:=by have:=HN.ae;omega
  rw[mC]at HP;go_wp2_with fail;exact bodyPost_ret (v:=.tuple #[u8,af 0]) Tbx rfl ⟨_,rfl,HP.ae,hb⟩
variable{e:TypeId}{w':t_}{v:Value}{l:List α}{cs:x_}
theorem aB.lg{f:α->xr}{size base:Nat}{q:Nat}{t:TypeId}(hq:aB w q t cs)(h:aH f e size w base v l)(ht:t≠e)(hg:w.grownBy w' v.ownBlock):aB w' q t cs:=hq.grown hg λ e=>h.other hq ht e.symm
theorem Ky:∀{l:List (Val×Int)},(∀a∈l,a.2=0)->cf l=0
 |[],_=>rfl
 |a::l,h=>by unfold cf;rw[if_neg (by simp[h a (mem_cons_self ..)])];exact Ky λ b hb=>h b (mem_cons_of_mem _ hb)
theorem Q7:∀{pre:List (Val×Int)}{bad:Val×Int}{post:List (Val×Int)},(∀a∈pre,a.2=0)->bad.2≠0->cf (pre++bad::post)=bad.2
 |[],bad,post,_,hb=>by rw[nil_append];unfold cf;rw[if_pos hb]
 |a::pre,bad,post,h,hb=>by rw[cons_append];unfold cf;rw[if_neg (by simp[h a (mem_cons_self ..)])];exact Q7 (λ b hb=>h b (mem_cons_of_mem _ hb)) hb
def sO(cols:List aZ)(row:w_)(ts:vI)(w:t_)(e:Ending)(w':t_):Prop:=
 match bA cols row ts with
 |.error er=>er≠0/\e=.returned (.tuple #[az,af er])/\ai w w'
 |.ok l=>∃v,e=.returned (.tuple #[v,af 0])/\aH aX 44 3 w' w.heap.size v l/\ai w w'
theorem Ia(cols:List aZ)(CA:xP)(cc:Nat)(row:w_)(RA:xP)(rc:Nat)(ts:vI)(ys:v_)(A:xP)(c:Nat)(w:t_)(cj:cols.length<=140737488355328)(lQ:row.length<=140737488355328)(hro:∀v∈row,v.Ok)
  (bc:Tr.cO ts) (hat:Tr.aO w (Old w) ts ys) (hl:ys.length<=1599289640356) (hA:RE w w.heap.size A ys) (hC:RC w w.heap.size CA cols) (hV:RV w w.heap.size RA row):
  ar 34 #[.slice A ys.length c,.slice CA cols.length cc,.slice RA row.length rc] w (sO cols row ts w):=by
 obtain⟨l,fI,hl2,uW⟩:=Tr.CC cols CA cc row RA rc cj lQ hro ts ys w bc hat hC hV;rcases rY l with h|⟨pre,bad,post,rfl,h1,h2⟩
 ·have hw:bA cols row ts=.ok (l.map λ a=>a.2.1):=by unfold bA;rw[<-hl2,Ky (λ a ha=>by obtain⟨b,hb,rfl⟩:=List.mem_map.1 ha;exact h b hb),if_neg Tab,map_map];rfl
  have e1:(l.map λ a=>(a.1,a.2.1)).map (·.1)=ys:=by rw[map_map,<-fI];rfl
  refine(RQ A ys.length c (.slice CA cols.length cc) (.slice RA row.length rc) (l.map λ a=>(a.1,a.2.1)) w (by rw[<-e1];simp) hl (by rw[e1];exact hA) ?_).mono ?_;intro a ha;obtain⟨b,hb,rfl⟩:=List.mem_map.1 ha;have:=uW b hb;rw[h b hb]at this;exact this;rintro e w' ⟨v,h1,h2,h3⟩;unfold sO;rw[hw];refine⟨v,h1,?_,h3⟩;rw[map_map]at h2;exact h2
 have hw:bA cols row ts=.error bad.2.2:=by
  have:cf (Tr.fN cols row ts)=bad.2.2:=by rw[<-hl2,map_append,map_cons];exact Q7 (λ a ha=>by obtain⟨b,hb,rfl⟩:=List.mem_map.1 ha;exact h1 b hb) h2
  unfold bA;rw[this,if_pos h2]
 have e1:((pre.map λ a=>(a.1,a.2.1)).map (·.1))++bad.1::post.map (·.1)=ys:=by rw[map_map,<-fI,map_append,map_cons];rfl
 refine(RP A ys.length c (.slice CA cols.length cc) (.slice RA row.length rc) (pre.map λ a=>(a.1,a.2.1)) bad.1 bad.2.1 bad.2.2 (post.map (·.1)) w ?_ hl (by rw[e1];exact hA) ?_ ?_ h2).mono ?_;rw[<-fI];simp;omega;intro a ha;obtain⟨b,hb,rfl⟩:=List.mem_map.1 ha;have:=uW b (mem_append_left _ hb);rw[h1 b hb]at this;exact this;exact uW bad (mem_append_right _ (mem_cons_self ..));rintro e w' ⟨h1,h3⟩;unfold sO;rw[hw];exact⟨h2,h1,h3⟩
variable{S:Nat->Prop}
theorem dZ:∀{ts:vI}{ys:v_},Tr.aO w S ts ys->ts.length=ys.length
 |[],ys,h=>by unfold Tr.aO at h;rw[h];rfl
 |t::ts,ys,h=>by unfold Tr.aO at h;obtain⟨y,ys',rfl,_,h2⟩:=h;rw[length_cons,length_cons,dZ h2]
theorem xK:∀(ts:vI) (ys:v_),Tr.aO w (Old w) ts ys->∃l:List uM,l.length=ys.length/\(∀(i:Nat) y x,ys[i]?=some y->l[i]?=some x->y.A=x.A/\y.n=x.ys.length/\y.c=x.c/\RE w w.heap.size x.A x.ys)/\Tr.aO w (Old w) (ts.flatMap Tr.args) (l.flatMap uM.ys)/\ys.map Ex.n=ts.map λ t=>t.args.length
 |[],ys,h=>by unfold Tr.aO at h;subst h;exact⟨[],rfl,λ i y x h=>by simp at h,by simp[Tr.aO],rfl⟩
 |t::ts,ys,h=>by
   unfold Tr.aO at h;obtain⟨y,ys',rfl,h1,h2⟩:=h;obtain⟨l,l1,l2,l3,l4⟩:=xK ts ys' h2;obtain⟨op,v,name,width,args⟩:=t;unfold Tr.at_ at h1;obtain⟨_,_,_,_,hn,zs,hz1,hz2⟩:=h1;have hzl:zs.length=args.length:=(dZ hz2).symm;refine⟨⟨y.A,y.c,zs⟩::l,by simp[l1],?_,?_,?_⟩
   ·intro i y' x hy hx;cases i with
    |zero=>
      simp at hy hx;subst hy hx;refine⟨rfl,by rw[hn];exact hzl.symm,rfl,?_⟩;rcases hz1 with h|⟨b,off,e1,e2,e3⟩;exact .inl h;exact .inr ⟨b,off,e1,e2,e3⟩
    |succ i=>exact l2 i y' x (by simpa using hy) (by simpa using hx)
   rw[flatMap_cons,flatMap_cons];exact Tr.all_append hz2 l3;rw[map_cons,map_cons,l4,hn];rfl
theorem Kz:∀(ts:vI) (l:w_),(∀t∈ts,t.args.length<=2)->(ts.map λ t=>t.args.length).sum<=l.length->mS (ts.map λ t=>t.args.length) l=fU ts l
 |[],l,_,_=>rfl
 |t::ts,l,h,hl=>by
   rw[map_cons]at hl⊢;rw[sum_cons]at hl;unfold mS fU;rw[Kz ts (l.drop t.args.length) (λ u hu=>h u (mem_cons_of_mem _ hu)) (by rw[length_drop];omega)];congr 1;have h2:=h t (mem_cons_self ..);generalize t.args.length=n at*;unfold lT
   match n,h2 with
   |0,_=>simp
   |1,_=>
     match l,hl with
     |[],hl=>simp at hl
     |a::l,_=>simp
   |2,_=>
     match l,hl with
     |[],hl=>simp at hl
     |[a],hl=>simp at hl;omega
     |a::b::l,_=>simp
theorem DY{i:Nat}{a:α}(h:l[i]?=some a):l.set i a=l:=by
 apply ext_getElem?;intro j;rw[getElem?_set];split
 ·subst_vars;split
  ·exact h.symm
  rename_i hn;rw[getElem?_eq_none WC]
 rfl
variable{t':TypeId}{cs':x_}
theorem ajk{g:Nat}{t:TypeId}(h:aB w g t cs)(h':aB w g t' cs'):t=t':=by have e1:w.heap[g]?=some (.cells cs t (0,0)):=h;have e2:w.heap[g]?=some (.cells cs' t' (0,0)):=h';rw[e1]at e2;injection e2 with e2;injection e2
theorem DZ:∀l:List Nat,NQ l=l.sum
 |[]=>rfl
 |n::l=>by unfold NQ;rw[DZ l,sum_cons]
theorem Ea:∀(ts:vI) (l:w_),(fU ts l).length=ts.length
 |[],_=>rfl
 |t::ts,l=>by unfold fU;simp[Ea ts]
structure gV where
 g:Nat
 KA:xP
 kc:Nat
 key:w_
 sv:Value
 qs:List Nat
 ss:List St
structure cK (w:t_) (A:xP) (l:w_):Prop where
 rv:RV w w.heap.size A l
 ty:∀a,A=some a->∃cur,aB w a.block 44 cur
variable{A:xP}
theorem cK.keep{l:w_}(h:cK w A l)(hs:w.heap.size<=w'.heap.size)(hk:∀b cur,aB w b 44 cur->w'.heap[b]?=w.heap[b]?):cK w' A l:=by
 refine⟨?_,λ a ha=>?_⟩
 ·rcases h.rv with h0|⟨b,off,rfl,hb,hc⟩
  ·exact .inl h0
  obtain⟨cur,zF⟩:=h.ty _ rfl;refine .inr ⟨b,off,rfl,eS hb hs,λ i x hx=>(hc i x hx).keep λ o=>bI (hk b cur zF) o⟩
 obtain⟨cur,zF⟩:=h.ty a ha;exact⟨cur,(hk _ cur zF).trans zF⟩
variable{B:Nat}
theorem cK.off{l:w_}{qs:List Nat}{ss:List St}(h:cK w A l)(hs:dK w B qs ss):∀a,A=some a->a.block∉qs:=λ a ha=>by obtain⟨cur,zF⟩:=h.ty a ha;exact hs.uN zF Tab
theorem KB{base:Nat}{l:w_}(h:aH aX 44 3 w base v l):∃A c,v=.slice A l.length c/\l.length<=c/\cK w A l:=by
 obtain⟨A0,c0,e0,_,hle,_⟩:=h.reads;obtain⟨A,c,rfl,hr⟩:=Jj h;injection e0 with e1 e2 e3;refine⟨A,c,rfl,by rw[e3];exact hle,hr,λ a ha=>?_⟩;have qT:(Value.slice A l.length c).ownBlock=some a.block:=by rw[fO,ha];rfl
 obtain⟨_,_,cur,hc⟩:=h.lt qT;exact⟨cur,hc⟩
structure gV.At (w:t_) (B:Nat) (x:gV):Prop where
 blk:aB w x.g 141 #[.slice x.KA x.key.length x.kc,x.sv]
 low:B<=x.g
 own:aH dh 145 1 w B x.sv x.qs
 rK:dK w B x.qs x.ss
 key:cK w x.KA x.key
theorem gV.At.keep{x:gV}(h:x.At w B)(hs:w.heap.size<=w'.heap.size)(hk:∀b t cs,aB w b t cs->(t=141\/t=145\/t=44\/t=199/\b∈x.qs)->w'.heap[b]?=w.heap[b]?):x.At w' B:=by refine⟨(hk _ _ _ h.blk (.inl rfl)).trans h.blk,h.low,h.own.keep λ g hg=>?_,h.rK.keep hs λ q hq=>?_,h.key.keep hs λ b cur hb=>hk b _ cur hb (.inr (.inr (.inl rfl)))⟩;obtain⟨_,_,cur,hc⟩:=h.own.lt hg;exact hk g _ cur hc (.inr (.inl rfl));obtain⟨i,hi,he⟩:=getElem_of_mem hq;have h1:=h.rK.at_ i q (x.ss[i]'(by rw[<-h.rK.len];exact hi)) TaB (getElem?_eq_getElem _);exact hk q _ _ h1 (.inr (.inr (.inr ⟨rfl,hq⟩)))
structure lj (w:t_) (B:Nat) (xs:List gV):Prop where
 at_:∀x∈xs,x.At w B
 apart:(xs.map gV.qs).Pairwise λ a b=>∀q∈a,q∉b
theorem lj.nil:lj w B []:=⟨λ x h=>Tae,List.Pairwise.nil⟩
variable{xs:List gV}
theorem lj.later(h:lj w B xs)(hb:ai w w'):lj w' B xs:=
 ⟨λ x hx=>(h.at_ x hx).keep hb.size λ b t cs hc _=>hb.block b hc.lt,h.apart⟩
theorem lj.grown{g:Nat}{t:TypeId}(h:lj w B xs)(hg:w.grownBy w' (some g))(hc:aB w g t cs)(h1:t≠141)(h2:t≠145)(h3:t≠44)(h4:t≠199):lj w' B xs:=
 ⟨λ x hx=>(h.at_ x hx).keep hg.size λ b t' cs' hc' ho=>hg.block b hc'.lt λ e=>by injection e with e;rw[e]at hc';have e2:=ajk hc hc';rw[<-e2]at ho;rcases ho with ho|ho|ho|⟨ho,_⟩;exact h1 ho;exact h2 ho;exact h3 ho;exact h4 ho,h.apart⟩
theorem lj.own{f:α->xr}{size base:Nat}(h:lj w B xs)(ho:aH f e size w base v l)(hg:w.grownBy w' v.ownBlock)(h1:e≠141)(h2:e≠145)(h3:e≠44)(h4:e≠199):lj w' B xs:=by
 cases hv:v.ownBlock with
 |none=>rw[hv]at hg;exact h.later (qC hg)
 |some g=>rw[hv]at hg;obtain⟨_,_,cur,hc⟩:=ho.lt hv;exact h.grown hg hc h1 h2 h3 h4
theorem lj.feed{k:Nat}{x:gV}{ss:List St}(h:lj w B xs)(hx:xs[k]?=some x)(ht:qD w w' x.qs)(hs:dK w' B x.qs ss):lj w' B (xs.set k {x with ss:=ss}):=by
 have hk:k<xs.length:=by rcases gR k xs.length with h|h;exact h;rw[getElem?_eq_none h]at hx;cases hx
 have Q8:xs[k]=x:=by rw[getElem?_eq_getElem hk]at hx;injection hx
 have RS:=mem_of_getElem? hx;have hap:(xs.set k {x with ss:=ss}).map gV.qs=xs.map gV.qs:=by
  rw[map_set];have:(xs.map gV.qs)[k]?=some x.qs:=by rw[getElem?_map,hx];rfl
  exact DY this
 refine⟨λ y hy=>?_,by rw[hap];exact h.apart⟩;obtain⟨i,hi,he⟩:=getElem_of_mem hy;have Ib:i<xs.length:=Tay;rw[getElem_set]at he;by_cases hik:k=i
 ·rw[if_pos hik]at he;subst he;have hA:=h.at_ x RS;have hb:∀b t cs,aB w b t cs->t≠199->w'.heap[b]?=w.heap[b]?:=λ b t cs hc hn=>ht.block b hc.lt (hA.rK.uN hc hn)
  refine⟨(hb _ _ _ hA.blk Tab).trans hA.blk,hA.low,hA.own.keep λ g hg=>?_,hs,hA.key.keep ht.size λ b cur hc=>hb b _ cur hc Tab⟩;obtain⟨_,_,cur,hc⟩:=hA.own.lt hg;exact hb g _ cur hc Tab
 rw[if_neg hik]at he;subst he;have hA:=h.at_ xs[i] (getElem_mem Ib);refine hA.keep ht.size λ b t cs hc ho=>ht.block b hc.lt λ hm=>?_;rcases ho with ho|ho|ho|⟨ho,hm2⟩;exact Zhc;exact Zhc;exact Zhc;have hp:=h.apart;rw[pairwise_iff_getElem]at hp;rcases Nat.lt_or_gt_of_ne hik with h1|h1;have:=hp k i Ta7 (by simpa using Ib) h1;simp only[getElem_map,Q8]at this;exact this b hm hm2;have:=hp i k (by simpa using Ib) Ta7 h1;simp only[getElem_map,Q8]at this;exact this b hm2 hm
theorem lj.insert{k:Nat}{x:gV}(h:lj w B xs)(hx:x.At w B)(hn:∀y∈xs,∀q∈y.qs,q∉x.qs):lj w B (xs.take k++x::xs.drop k):=by
 have hp:(xs.take k++x::xs.drop k).Perm (x::xs):=by have:=perm_middle (a:=x) (l₁:=xs.take k) (l₂:=xs.drop k);rwa [take_append_drop]at this
 refine⟨λ y hy=>?_,?_⟩
 ·rcases List.mem_cons.1 (hp.mem_iff.1 hy)with rfl|h1
  ·exact hx
  exact h.at_ y h1
 refine((hp.map gV.qs).pairwise_iff (λ {a b} hab q hq lx=>hab q lx hq)).2 ?_;rw[map_cons,pairwise_cons];refine⟨λ b hb q hq=>?_,h.apart⟩;obtain⟨y,hy,rfl⟩:=List.mem_map.1 hb;exact λ hm=>hn y hy q hm hq
theorem FV(gx:Nat)(A:xP)(c:Nat)(args:List (Ex×Bool))(w:t_)(hl:args.length<=1599289640356)(hA:RE w w.heap.size A (args.map (·.1)))(hE:∀a∈args,∀W,ai w W->ar 151 #[.agg (ay a.1),aw gx] W λ e w'=>e=.returned (.bool a.2)/\ai W w'):
  ar 150 #[.slice A args.length c,.func (.func 151) #[] #[.pointer (some ⟨gx,0,none⟩)]] w λ e w'=>e=.returned (.int .i64 (gI (args.map (·.2))))/\ai w w':=by exact ZaS
theorem KC(gx:Nat)(y x:Ex)(b:Bool)(w:t_)(hg:aB w gx 46 (bH x).toArray)(h:nN w y x b):
  ar 151 #[.agg (ay y),aw gx] w λ e w'=>e=.returned (.bool b)/\ai w w':=by
 have hgx:=hg.lt;have bb:=ah w (.cells (ay y) 46);have hR:=aB.new w 46 (ay y);have HX:=hg.later bb;unfold bH at HX;have hs:=h _ bb;have Bf:=aa bb;have HS:=aa hs;have RT:=aa hgx;clear hs h bb hg hgx;go_enter func151,ntmps151;go_upto_region 1 with fail;have jP:=λ i=>HX.cell i;have cb:=λ i=>hR.cell i;have fx:=HX.frozen;generalize World.alloc w _=W at*;obtain⟨g2,XW⟩:∃g2,g2=w.heap.size:=⟨_,rfl⟩;rw[<-XW]at hR cb⊢;clear XW hR HX;have y0:=jP 0;have y1:=jP 1;have c2:=jP 2;have y3:=jP 3;have y4:=jP 4;have y5:=jP 5;have y6:=jP 6;have b0:=cb 0;have b1:=cb 1;have b2:=cb 2;have b3:=cb 3;have b4:=cb 4;have b5:=cb 5;have b6:=cb 6;clear jP cb fx;simp only[Uaa]at y0 y1 c2 y3 y4 y5 y6 b0 b1 b2 b3 b4 b5 b6;go_wp2_with fail;refine HS.ae.mono ?_;rintro e w1 ⟨rfl,b1⟩;have hb1:=aj.then Bf.ae b1;clear y0 y1 c2 y3 y4 y5 y6 b0 b1 b2 b3 b4 b5 b6;go_wp2_with fail;go_ret;exact⟨rfl,hb1⟩
theorem pj(f:α->Bool):∀l:List α,gI (l.map f)=match l.findIdx? f with|some k=>(k:Int)|none=> -1
 |[]=>rfl
 |x::l=>by
   rw[map_cons,findIdx?_cons];unfold gI;by_cases h:f x=true;rw[if_pos h,if_pos h];rfl;rw[if_neg h,if_neg h,pj f l];cases l.findIdx? f with
   |none=>rfl
   |some k=>show(if (k:Int)< 0 then(-1:Int)else(k:Int)+1)=((k+1:Nat):Int);rw[if_neg WC];rfl
theorem Eb:∀(ts:vI) (ys:v_) (x:Tr) (z:Ex) (w:t_),Tr.cO ts->x.ok->Tr.aO w (Old w) ts ys->x.at_ w (Old w) z->∃args:List (Ex×Bool),args.map (·.1)=ys/\args.map (·.2)=ts.map (λ g=>g.same x)/\∀a∈args,nN w a.1 z a.2
 |[],ys,x,z,w,_,_,hat,_=>by unfold Tr.aO at hat;subst hat;exact⟨[],rfl,rfl,by simp⟩
 |t::ts,ys,x,z,w,bc,hx,hat,hz=>by unfold Tr.aO at hat;unfold Tr.cO at bc;obtain⟨y,ys',rfl,h2,h3⟩:=hat;obtain⟨l,fI,hl2,uW⟩:=Eb ts ys' x z w bc.2 hx h3 hz;refine⟨(y,t.same x)::l,by simp[fI],by simp[hl2],λ a ha=>?_⟩;rcases List.mem_cons.1 ha with rfl|ha;exact Tr.Mm t x y z w bc.1 hx h2 hz;exact uW a ha
variable{z:Ex}
theorem nN.later{y:Ex}{b:Bool}(h:nN w y z b)(hb:ai w w'):nN w' y z b:=λ W hW=>h W (aj.then hb hW)
theorem ml(aG:vI)(A:xP)(n c gx:Nat)(x:Tr)(z:Ex)(w:t_)(hl:aG.length<=1599289640356)(hG:ib w aG A n)(bc:Tr.cO aG)(hx:x.ok)(hz:x.at_ w (Old w) z)(hg:aB w gx 46 (bH z).toArray):
  ar 150 #[.slice A n c,.func (.func 151) #[] #[.pointer (some ⟨gx,0,none⟩)]] w λ e w'=>e=.returned (.int .i64 (gI (aG.map λ g=>g.same x)))/\ai w w':=by
 obtain⟨rfl,Kx,h1,h2⟩:=hG;obtain⟨ys,a1,a2,a3⟩:=Eb aG Kx x z w bc hx h2 hz;have M7:ys.length=aG.length:=by have:=congrArg List.length a2;simpa using this
 have k:=FV gx A c ys w WC (by rw[a1];exact h1.old) (λ a ha W hW=>KC gx a.1 z a.2 W (hg.later hW) ((a3 a ha).later hW));rw[M7,a2]at k;exact k
theorem Tr.ind{P:Tr->Prop}(h:∀op v name width args,(∀a∈args,P a)->P (.mk op v name width args)):∀t,P t:=by
 intro t;exact Tr.rec (motive_1:=P) (motive_2:=λ ts=>∀a∈ts,P a) (λ op v name width args ih=>h op v name width args ih) (λ a ha=>by cases ha) (λ t ts h1 h2 a ha=>by rcases List.mem_cons.1 ha with rfl|ha;exact h1;exact h2 a ha) t
mutual
def Tr.nodes:Tr->Nat
 |.mk _ _ _ _ args=>Tr.aP args+1
def Tr.aP:vI->Nat
 |[]=>0
 |t::ts=>t.nodes+Tr.aP ts
end
theorem gK:∀ts:vI,Tr.aP ts=(ts.map Tr.nodes).sum
 |[]=>rfl
 |t::ts=>by unfold Tr.aP;rw[gK ts];rfl
theorem dP:∀{ts:vI},Tr.cO ts↔∀t∈ts,t.ok
 |[]=>by unfold Tr.cO;simp
 |t::ts=>by unfold Tr.cO;rw[dP];simp
variable{ts us:vI}
theorem mV:Tr.cO (ts++us)↔Tr.cO ts/\Tr.cO us:=by rw[dP,dP,dP];constructor;intro h;exact⟨λ t ht=>h t (List.mem_append.2 (.inl ht)),λ t ht=>h t (List.mem_append.2 (.inr ht))⟩;rintro⟨h1,h2⟩ t ht;rcases List.mem_append.1 ht with h|h;exact h1 t h;exact h2 t h
theorem Q9(k:Nat):(FJ k).ok:=by unfold FJ Tr.ok;refine⟨⟨by decide,by decide⟩,by simp,by decide,by decide,by decide,?_⟩;unfold Tr.cO;trivial
theorem pk(aG:vI)(cols:List aZ)(s:dE):Tr.turns aG cols [] s=.ok ([],s):=by unfold Tr.turns;rfl
theorem kx(aG:vI)(cols:List aZ)(t:Tr)(ts:vI)(s:dE):Tr.turns aG cols (t::ts) s=match Tr.turn aG cols t s with
  |.error e=>.error e
  |.ok (y,s')=>match Tr.turns aG cols ts s' with
    |.error e=>.error e
    |.ok (ys,MP)=>.ok (y::ys,MP):=by
 conv=>lhs;unfold Tr.turns
 rfl
theorem zG(aG:vI)(cols:List aZ):∀(l m:vI) (s:dE),Tr.turns aG cols (l++m) s=match Tr.turns aG cols l s with
  |.error e=>.error e
  |.ok (y,s')=>match Tr.turns aG cols m s' with
    |.error e=>.error e
    |.ok (ys,MP)=>.ok (y++ys,MP)
 |[],m,s=>by
   rw[nil_append,pk];dsimp only;cases Tr.turns aG cols m s with
   |error e=>rfl
   |ok x=>rfl
 |t::l,m,s=>by
   rw[cons_append,kx,kx];cases Tr.turn aG cols t s with
   |error e=>rfl
   |ok x=>
     obtain⟨y,s1⟩:=x;dsimp only;rw[zG aG cols l m s1];cases Tr.turns aG cols l s1 with
     |error e=>rfl
     |ok x=>
       obtain⟨ys,s2⟩:=x;dsimp only;cases Tr.turns aG cols m s2 with
       |error e=>rfl
       |ok x=>rfl
theorem Xq(aG:vI)(cols:List aZ)(t:Tr)(s:dE):Tr.turns aG cols [t] s=match Tr.turn aG cols t s with
  |.error e=>.error e
  |.ok (y,s')=>.ok ([y],s'):=by
 rw[kx];cases Tr.turn aG cols t s with
 |error e=>rfl
 |ok x=>obtain⟨y,s1⟩:=x;dsimp only;rw[pk]
variable{s1 s2:dE}
theorem RU{aG:vI}{cols:List aZ}{l:vI}{y:Tr}{ys:vI}(h:Tr.turns aG cols l s=.ok (ys,s1))(k:Tr.turn aG cols t s1=.ok (y,s2)):Tr.turns aG cols (l++[t]) s=.ok (ys++[y],s2):=by rw[zG,h];dsimp only;rw[Xq,k]
theorem RX{aG:vI}{cols:List aZ}{l m:vI}{ys:vI}{e:Int}(h:Tr.turns aG cols l s=.ok (ys,s1))(k:Tr.turn aG cols t s1=.error e):Tr.turns aG cols (l++t::m) s=.error e:=by rw[zG,h];dsimp only;rw[kx,k]
theorem ue{aG:vI}{cols:List aZ}:∀{l:vI}{s s1:dE}{ys:vI},Tr.turns aG cols l s=.ok (ys,s1)->ys.length=l.length
 |[],s,s1,ys,h=>by rw[pk]at h;injection h with h;injection h with h1 h2;rw[<-h1]
 |t::l,s,s1,ys,h=>by rw[kx]at h;split at h;cases h;split at h;cases h;rename_i h2;injection h with h;injection h with h3 h4;rw[<-h3,length_cons,ue h2];rfl
theorem uf(aG:vI)(cols:List aZ)(op:Int)(v:Val)(name:u_)(width:Int)(args:vI)(s:dE):Tr.turn aG cols (.mk op v name width args) s=match aG.findIdx? (λ g=>g.same (.mk op v name width args))with
  |some k=>.ok (FJ k,s)
  |none=>
    if isAgg op=true then
     if (gJ cols op args).2≠0 then .error (gJ cols op args).2
     else .ok (FJ s.aG.length,⟨s.aD++[.mk op v name width args],s.aG++[⟨jD s.aG.length,(gJ cols op args).1⟩]⟩)
    else match Tr.turns aG cols args s with
     |.error e=>.error e
     |.ok (ys,s')=>
       if op=2 then .error (sw cols v name width ys.length)
       else if ((Tr.mk op v name width ys).type s'.aG).2≠0 then .error ((Tr.mk op v name width ys).type s'.aG).2
       else .ok (.mk op v name width ys,s'):=by
 conv=>lhs;unfold Tr.turn
 rfl
theorem R5(cols:List aZ)(v:Val)(name:u_)(width:Int)(n:Nat):sw cols v name width n≠0:=by
 unfold sw;dsimp only;split
 ·assumption
 decide
structure Ic (t:Tr) (s:dE) (r:uC (Tr×dE)):Prop where
 err:∀e,r=.error e->e≠0
 ok:∀y s',r=.ok (y,s')->t.ok->y.ok
 len:∀y s',r=.ok (y,s')->s'.aG.length+s'.aD.length<=s.aG.length+s.aD.length+2*t.nodes
 aok:∀y s',r=.ok (y,s')->t.ok->Tr.cO s.aD->Tr.cO s'.aD
structure qF (ts:vI) (s:dE) (r:uC (vI×dE)):Prop where
 err:∀e,r=.error e->e≠0
 ok:∀y s',r=.ok (y,s')->Tr.cO ts->Tr.cO y
 len:∀y s',r=.ok (y,s')->s'.aG.length+s'.aD.length<=s.aG.length+s.aD.length+2*Tr.aP ts
 aok:∀y s',r=.ok (y,s')->Tr.cO ts->Tr.cO s.aD->Tr.cO s'.aD
theorem ll{aG:vI}{cols:List aZ}:∀{ts:vI},(∀t∈ts,∀s,Ic t s (Tr.turn aG cols t s))->∀s,qF ts s (Tr.turns aG cols ts s)
 |[],_,s=>by rw[pk];exact⟨λ e h=>Tae,λ y s' h _=>by injection h with h;injection h with h1 h2;rw[<-h1];unfold Tr.cO;trivial,λ y s' h=>by injection h with h;injection h with h1 h2;rw[<-h2];omega,λ y s' h _ ha=>by injection h with h;injection h with h1 h2;rw[<-h2];exact ha⟩
 |t::ts,H,s=>by
   have h1:=H t Tad s;rw[kx];cases hr:Tr.turn aG cols t s with
   |error e=>rw[hr]at h1;exact⟨λ e' h=>by injection h with h;rw[<-h];exact h1.err _ rfl,λ y s' h=>Tae,λ y s' h=>Tae,λ y s' h=>Tae⟩
   |ok x=>
     obtain⟨y1,s1⟩:=x;rw[hr]at h1;have h2:=ll (λ t ht=>H t (mem_cons_of_mem _ ht)) s1;dsimp only;cases hq:Tr.turns aG cols ts s1 with
     |error e=>rw[hq]at h2;exact⟨λ e' h=>by injection h with h;rw[<-h];exact h2.err _ rfl,λ y s' h=>Tae,λ y s' h=>Tae,λ y s' h=>Tae⟩
     |ok x=>
       obtain⟨ys,s2⟩:=x;rw[hq]at h2;have l1:=h1.len _ _ rfl;have l2:=h2.len _ _ rfl;refine⟨λ e' h=>Tae,λ y s' h bc=>?_,λ y s' h=>?_,λ y s' h bc ha=>?_⟩;injection h with h;injection h with e1 e2;rw[<-e1];unfold Tr.cO at bc⊢;exact⟨h1.ok _ _ rfl bc.1,h2.ok _ _ rfl bc.2⟩
       ·injection h with h;injection h with e1 e2;rw[<-e2];have:Tr.aP (t::ts)=t.nodes+Tr.aP ts:=by rw[Tr.aP]
        omega
       injection h with h;injection h with e1 e2;rw[<-e2];unfold Tr.cO at bc;exact h2.aok _ _ rfl bc.2 (h1.aok _ _ rfl bc.1 ha)
theorem jd(aG:vI)(cols:List aZ):∀(t:Tr) (s:dE),Ic t s (Tr.turn aG cols t s):=by
 refine Tr.ind ?_;intro op v name width args ih s;rw[uf];have hn:(Tr.mk op v name width args).nodes=Tr.aP args+1:=by rw[Tr.nodes]
 cases hf:aG.findIdx? (λ g=>g.same (.mk op v name width args))with
 |some k=>dsimp only;exact⟨λ e h=>Tae,λ y s' h _=>by injection h with h;injection h with h1 h2;rw[<-h1];exact Q9 k,λ y s' h=>by injection h with h;injection h with h1 h2;rw[<-h2];omega,λ y s' h _ ha=>by injection h with h;injection h with h1 h2;rw[<-h2];exact ha⟩
 |none=>
   dsimp only;by_cases ha:isAgg op=true
   ·rw[if_pos ha];by_cases ht:(gJ cols op args).2≠0
    ·rw[if_pos ht];exact⟨λ e h=>by injection h with h;rw[<-h];exact ht,λ y s' h=>Tae,λ y s' h=>Tae,λ y s' h=>Tae⟩
    rw[if_neg ht];refine⟨λ e h=>Tae,λ y s' h bc=>?_,λ y s' h=>?_,λ y s' h bc hao=>?_⟩;injection h with h;injection h with h1 h2;rw[<-h1];exact Q9 _;injection h with h;injection h with h1 h2;rw[<-h2];simp only[length_append,length_singleton];omega;injection h with h;injection h with h1 h2;rw[<-h2,mV];refine⟨hao,?_⟩;unfold Tr.cO;refine⟨bc,?_⟩;unfold Tr.cO;trivial
   rw[if_neg ha];have h2:=ll ih s;cases hq:Tr.turns aG cols args s with
   |error e=>rw[hq]at h2;exact⟨λ e' h=>by injection h with h;rw[<-h];exact h2.err _ rfl,λ y s' h=>Tae,λ y s' h=>Tae,λ y s' h=>Tae⟩
   |ok x=>
     obtain⟨ys,s1⟩:=x;rw[hq]at h2;have hl:=ue hq;have l2:=h2.len _ _ rfl;dsimp only;by_cases ho:op=2;rw[if_pos ho];exact⟨λ e' h=>by injection h with h;rw[<-h];exact R5 _ _ _ _ _,λ y s' h=>Tae,λ y s' h=>Tae,λ y s' h=>Tae⟩;rw[if_neg ho];by_cases ht:((Tr.mk op v name width ys).type s1.aG).2≠0;rw[if_pos ht];exact⟨λ e' h=>by injection h with h;rw[<-h];exact ht,λ y s' h=>Tae,λ y s' h=>Tae,λ y s' h=>Tae⟩;rw[if_neg ht];refine⟨λ e' h=>Tae,λ y s' h bc=>?_,λ y s' h=>?_,λ y s' h bc hao=>?_⟩;injection h with h;injection h with h1 h3;rw[<-h1];unfold Tr.ok at bc⊢;exact⟨bc.1,by rw[hl];exact bc.2.1,bc.2.2.1,bc.2.2.2.1,bc.2.2.2.2.1,h2.ok _ _ rfl bc.2.2.2.2.2⟩;injection h with h;injection h with h1 h3;rw[<-h3];omega;injection h with h;injection h with h1 h3;rw[<-h3];unfold Tr.ok at bc;exact h2.aok _ _ rfl bc.2.2.2.2.2 hao
theorem zH{q:Nat}(h:w.grownBy w' (some q))(hB:B<=w.heap.size)(hq:B<=q):Below B w w':=
 ⟨h.os,h.tape,h.output,h.size,λ k hk=>h.block k WC λ e=>by injection e with e;omega⟩
variable{u:Value}
theorem Mv.later(h:Mv w' u v)(hs:w.heap.size<=w'.heap.size):Mv w u v:=by rcases h with h|h;exact Zis;exact .inr λ q hq=>fK hs (h q hq)
variable{lv:Value}{P:Program}
def zdF.KaH(h:p:=by refine⟨v',w',hr,ho,ha,?_⟩;exact ZgC):=h
theorem fc{f:α->xr}{size:Nat}{base:Nat}{y:α}(t ty:TypeId)(z:Value)(bytes:Nat)(ht:P.underlying t=some (.slice e))(jQ:(P.info? e).map (λ i=>(i.zero,i.size,i.bytes))=some (some z,size,bytes))(hzs:z.cells.size=size)(hsz:0<size)
  (hf:∀x,(f x).length=size) (h1:∀u∈f y,u.oneCell'=true) (hown:aH f e size w base lv l)
  (g0:Nat) (hg0:aB w g0 e (f y).toArray) (hlen:(l.length+1)*bytes<=140737488355328) (nI:l.length+1<=140737488355328) (hbase:base<=w.heap.size):
  ∃v' w',(Builtin.append_ #[t,t] ty #[lv,aL g0 1 1]).run P w=.ok v' w'/\aH f e size w' base v' (l++[y])/\AR f e size base lv l y w w'/\Mv w lv v':=by
 open zdF in exact ZbR
structure PC where
 q0:Value
 q1:Value
 q2:Value
 q3:Value
 q5:Value
 q6:Value
 q7:Value
 gA:xP
 gn:Nat
 gc:Nat
 cA:xP
 cc:Nat
 aJ:Bool
 aG:vI
 cols:List aZ
structure Rest where
 h:Value
 i:Value
 j:Value
 o:Value
def PC.cells(c:PC)(r:Rest)(u v:Value):x_:= #[c.q0,c.q1,c.q2,c.q3,.slice c.gA c.gn c.gc,c.q5,c.q6,c.q7,.slice c.cA c.cols.length c.cc,u,v,.bool c.aJ,r.h,r.i,r.j,r.o]
structure PC.Ok (c:PC) (w0:t_):Prop where
 env:Bc w0
 aG:ib w0 c.aG c.gA c.gn
 gok:Tr.cO c.aG
 gl:c.aG.length<=1000000
 cols:RC w0 w0.heap.size c.cA c.cols
 cl:c.cols.length<=1000000
structure eU (c:PC) (w0:t_) (gp:Nat) (r:Rest) (w:t_) (u v:Value) (ya:v_) (s:dE):Prop where
 low:w0.heap.size<=gp
 base:ai w0 w
 blk:aB w gp 81 (c.cells r u v)
 lK:aH bH 46 7 w w0.heap.size u ya
 dM:aH aU 113 2 w w0.heap.size v s.aG
 aD:Tr.aO w0 (Old w0) s.aD ya
section
variable{c:PC}{w0 w w':t_}{gp:Nat}{r:Rest}{u v:Value}{ya:v_}{s:dE}
theorem eU.later(h:eU c w0 gp r w u v ya s)(hb:ai w w'):eU c w0 gp r w' u v ya s:=
 ⟨h.low,Below.trans h.base (hb.mono h.base.size),h.blk.later hb,h.lK.later hb,h.dM.later hb,h.aD⟩
theorem eU.kp9(h:eU c w0 gp r w u v ya s):∀q,u.ownBlock=some q->w0.heap.size<=q:=λ q hq=>(h.lK.lt hq).2.1
theorem eU.avK(h:eU c w0 gp r w u v ya s):∀q,v.ownBlock=some q->w0.heap.size<=q:=λ q hq=>(h.dM.lt hq).2.1
theorem eU.fresh(h:eU c w0 gp r w u v ya s){w2:t_}{g:Nat}(hg:w.heap.size<=g)(hg2:g<w2.heap.size):Kp w2 gp [u,v] g:=
 eG.2 ⟨hg2,by have:=h.blk.lt;omega,λ e=>by have:=(h.lK.lt e).1;omega,λ e=>by have:=(h.dM.lt e).1;omega⟩
theorem eU.aside(h:eU c w0 gp r w u v ya s){q:Nat}(hg:w.grownBy w' (some q))(hq:Kp w gp [u,v] q)(hl:w0.heap.size<=q):eU c w0 gp r w' u v ya s:=by rw[eG]at hq;exact⟨h.low,Below.trans h.base (zH hg h.base.size hl),h.blk.grown hg (λ e=>by injection e with e;exact hq.2.1 e.symm),h.lK.grown hg hq.2.2.1,h.dM.grown hg hq.2.2.2,h.aD⟩
end
def sP(c:PC)(w0:t_)(gp:Nat)(r:Rest)(u v:Value)(w:t_)(x:uC (Tr×dE))(e:Ending)(w':t_):Prop:=
 match x with
 |.error er=>∃(y:Ex) (u' v':Value),e=.returned (.tuple #[.agg (ay y),af er])/\ik gp w u v w' u' v'
 |.ok (t,s)=>∃y u' v' ya,e=.returned (.tuple #[.agg (ay y),af 0])/\t.at_ w' (λ b=>w.heap.size<=b/\Kp w' gp [u',v'] b) y/\eU c w0 gp r w' u' v' ya s/\ik gp w u v w' u' v'
def R6(c:PC)(w0:t_)(gp:Nat)(r:Rest)(t:Tr):Prop:=∀(z:Ex) (s:dE) (u v:Value) (ya:v_) (w:t_),t.ok->t.at_ w0 (Old w0) z->eU c w0 gp r w u v ya s->s.aG.length+s.aD.length+2*t.nodes<=1000000->
 ar 99 #[aw gp,.agg (ay z)] w (sP c w0 gp r u v w (t.turn c.aG c.cols s))
theorem Db(k:Nat)(w:t_)(S:Nat->Prop):(FJ k).at_ w S (MK k):=by unfold FJ Tr.at_ MK;exact Ziw
def zbN.Kaj(h:p:=by refine bodyPost_ret (v:=.tuple #[.agg #[ag 2,ag 0,af 0,au,.string nm,af 0,az],af 0]) Tai rfl ?_;refine⟨⟨2,⟨0,0,⟨#[]⟩⟩,nm,0,none,0,0⟩,u,v,ya,rfl,by rw[Ur.ae];exact Db k _ _,?_,?_⟩;exact qG.ae.later hb9;exact(ik.refl gp w u v).later hb9):=h
def zcy.Kat(h:p:=by
 have Rz:=aa NY;obtain⟨nm,jw⟩:∃nm,nm=jD k:=⟨_,rfl⟩;rw[<-jw];have Ur:=aa jw;clear jw NY;go_wp2_with fail;clear y0 y1 c2 y3 y4 y5 y6 Ig;generalize vG:World.setCell _ _ _=W9;have hR:aB W9 g4 46 #[ag 2,ag 0,af 0,au,.string nm,af 0,az]:=by rw[<-vG];simpa using(((((((Rz.ae.aW 0 _).aW 1 _).aW 2 _).aW 3 _).aW 4 _).aW 5 _).aW 6 _)
 have hb9:ai w W9:=by rw[<-vG];exact((((((((ux.ae).setCell (p:=⟨g4,0,none⟩) nD.ae _).setCell (p:=⟨g4,1,none⟩) nD.ae _).setCell (p:=⟨g4,2,none⟩) nD.ae _).setCell (p:=⟨g4,3,none⟩) nD.ae _).setCell (p:=⟨g4,4,none⟩) nD.ae _).setCell (p:=⟨g4,5,none⟩) nD.ae _).setCell (p:=⟨g4,6,none⟩) nD.ae _)
 open zbN in exact ZaE):=h
def zbd.Kac(h:p:=by have PZ:=pX k WC WC;have eZ:=aa hb1;have Ec:=aa (ud.ae.later hb1);have NY:=uv.ae.later hb1;have avL:=aa (iT.ae.env.later Ec.ae.base);clear c4 c8 c10 hb1 Ie hf;go_wp2_with fail;refine(PZ w1 avL.ae).mono ?_;rintro e w2 ⟨rfl,hb2⟩;have ux:=aa (aj.then Bf.ae (aj.then eZ.ae hb2));have vF:=aa (Ec.ae.later hb2);replace NY:=NY.later hb2;have hz4:=NY.lt;clear hb2 PZ;unfold nt MK;have Ig:=NY.frozen;open zcy in exact Zbc):=h
theorem RY(c:PC)(w0:t_)(gp:Nat)(r:Rest)(t:Tr)(z:Ex)(s:dE)(u v:Value)(ya:v_)(w:t_)(k:Nat)(hf:c.aG.findIdx? (λ g=>g.same t)=some k)(bc:c.Ok w0)(gL:t.ok)(hat:t.at_ w0 (Old w0) z)(pd:eU c w0 gp r w u v ya s):
  ar 99 #[aw gp,.agg (ay z)] w (sP c w0 gp r u v w (.ok (FJ k,s))):=by
 have BJ:k<c.aG.length:=by obtain⟨h,_⟩:=List.findIdx?_eq_some_iff_getElem.1 hf;exact h
 have AV:k<=1000000:=by have:=bc.gl;omega
 open zbd in exact Zau
def zbO.Kaj(h:p:=by refine bodyPost_ret (v:=.tuple #[.agg dn,af er]) Tai rfl ?_;exact⟨⟨0,⟨0,0,⟨#[]⟩⟩,⟨#[]⟩,0,none,0,0⟩,u,v,rfl,(ik.refl gp w u v).later hb9⟩):=h
def zfb.Ka9(h:p:=by
 have hb9:ai w W9:=by rw[<-vG];exact((((((((ux.ae).setCell (p:=⟨g4,0,none⟩) nD.ae _).setCell (p:=⟨g4,1,none⟩) nD.ae _).setCell (p:=⟨g4,2,none⟩) nD.ae _).setCell (p:=⟨g4,3,none⟩) nD.ae _).setCell (p:=⟨g4,4,none⟩) nD.ae _).setCell (p:=⟨g4,5,none⟩) nD.ae _).setCell (p:=⟨g4,6,none⟩) nD.ae _)
 open zbO in exact ZaE):=h
def zhb.KbV(h:p:=by have Rz:=aa NY;clear NY;open zfb in exact Zdb):=h
def zcw.Kas(h:p:=by
 have t1:(er != 0)=true:=by simp[her]
 have Ig:=NY.frozen;open zhb in exact Zfg):=h
def zbe.Kac(h:p:=by open zcw in exact Zbb):=h
theorem KE(c:PC)(w0:t_)(gp:Nat)(r:Rest)(t:Tr)(z:Ex)(s:dE)(u v:Value)(ya:v_)(w:t_)(hf:c.aG.findIdx? (λ g=>g.same t)=none)(ha:isAgg t.op=true)(ty er:Int)(ht:gJ c.cols t.op t.args=(ty,er))(her:er≠0)(bc:c.Ok w0)(gL:t.ok)(hat:t.at_ w0 (Old w0) z)(pd:eU c w0 gp r w u v ya s):
  ar 99 #[aw gp,.agg (ay z)] w (sP c w0 gp r u v w (.error er)):=by
 open zbe in exact Zau
theorem xL(w:t_)(g q:Nat)(t ty:TypeId)(cur cells:x_)(hg:w.heap[g]?=some (.cells cur t (0,0)))(hi:(P.info? ty).map (·.size)=some cells.size)
  (qE:q+cells.size<=cur.size) (h1:cells.all (·.oneCell')=true):
  (storeVar ty ⟨g,q,none⟩ (.agg cells)).run P w=.ok () (w.setRow g (cur.toList.take q++cells.toList++cur.toList.drop (q+cells.size)).toArray):=by
 have:=run_storeCells_at P g q t cells.toList 0 cur w hg (by simpa using qE) (λ v hv=>(Array.all_eq_true_iff_forall_mem.1 h1) v (by simpa using hv));simp only[Nat.add_zero,Array.length_toList]at this;cases hq:P.info? ty with
 |none=>simp[hq]at hi
 |some i=>
   have hs:cells.size=i.size:=by simp[hq]at hi;omega
   simp[storeVar,sizeOf,typeInfo,hq,Value.cells,hs]at this⊢;rw[this]
theorem aH.block{f:α->xr}{size base:Nat}(h:aH f e size w base v l)(hne:l≠[]):∃g c,v=aL g l.length c/\base<=g/\g<w.heap.size:=by
 rcases h.2 with⟨_,h0⟩|⟨g,cap,cur,rfl,hb,hg,_⟩
 exact absurd (eq_nil_of_length_eq_zero h0) hne;exact⟨g,cap,rfl,hb,(h.lt rfl).1⟩
theorem Ih{f:α->xr}{size:Nat}(hf:∀x,(f x).length=size):∀m:List α,(m.flatMap f).length=m.length*size:=by
 intro m
 induction m with
 |nil=>simp
 |cons x m ih=>rw[flatMap_cons,length_append,hf,ih,length_cons,Nat.add_mul,Nat.one_mul];omega
theorem NZ{f:α->xr}{size:Nat}(hf:∀x,(f x).length=size)(y:α):∀(l:List α) (i:Nat),i<l.length->(l.set i y).flatMap f=(l.flatMap f).take (i*size)++f y++(l.flatMap f).drop (i*size+size):=by
 intro l
 induction l with
 |nil=>intro i hi;simp at hi
 |cons x l ih=>
   intro i hi;cases i with
   |zero=>simp only[set_cons_zero,flatMap_cons,Nat.zero_mul,take_zero,nil_append,Nat.zero_add];rw[drop_append_of_le_length (by rw[hf];exact aE),<-hf x,drop_length,nil_append]
   |succ i=>
     simp only[set_cons_succ,flatMap_cons];rw[ih i Tay];have e1:(i+1)*size=(f x).length+i*size:=by rw[hf,Nat.add_mul,Nat.one_mul];omega
     rw[e1,take_length_add_append,Nat.add_assoc,drop_length_add_append];simp[append_assoc]
variable{a:Act}
def zeG.KaY(h:p:=by unfold Oper.wp execOp;simp only[ho,hp,hx,Instr.storeAt,Instr.sureAddr,Sem.run_bind,Sem.run_pure,Result.andThen_ok,hrun];refine hK _ _ (h _ ⟨?_,.inr ⟨q,c,_,?_,hb,setRow_heap w q cur _ e (0,0) hg,?_,hm,?_,?_⟩⟩ ⟨rfl,rfl,rfl,by simp[World.setRow],λ k hk hne=>setRow_other w q k _ (λ e=>hne Ta5)⟩);rw[Ih hf];rw[e2,length_set];rw[length_set];exact hn;rw[<-hs];simp[hf];omega;exact ZbT):=h
theorem pn{f:α->xr}{size base:Nat}{y:α}{ops:Array Oper}{o:Oper}(hgd:o.guard=none)(ty:TypeId)(p x:Operand)(ho:o.op=.store ty p x)
  (q n c i:Nat) (hf:∀x,(f x).length=size) (hown:aH f e size w base (aL q n c) l) (qQ:i<l.length) (hp:a.eval p=aY q (i*size)) (hx:a.eval x=.agg (f y).toArray)
  (hi:(P.info? ty).map (·.size)=some size) (h1:(f y).toArray.all (·.oneCell')=true)
  (h:∀w',aH f e size w' base (aL q n c) (l.set i y)->w.grownBy w' (some q)->wpList P ops Q rest (a.put o.dst undef) w'):wpList P ops Q (o::rest) a w:=by
 refine wpList_plain hgd λ K hK=>?_;rcases hown.2 with⟨hv,_⟩|⟨g,cap,cur,hv,hb,hg,hn,hm,hs,ht⟩
 cases hv
 open zeG in exact ZcK
theorem xM{f:α->xr}{size base:Nat}{z y:α}{ops:Array Oper}{o:Oper}(hgd:o.guard=none)(ty:TypeId)(p x:Operand)(ho:o.op=.store ty p x)
  (q n c:Nat) (hf:∀x,(f x).length=size) (hown:aH f e size w base (aL q n c) (l++[z])) (hp:a.eval p=aY q (l.length*size)) (hx:a.eval x=.agg (f y).toArray)
  (hi:(P.info? ty).map (·.size)=some size) (h1:(f y).toArray.all (·.oneCell')=true)
  (h:∀w',aH f e size w' base (aL q n c) (l++[y])->w.grownBy w' (some q)->wpList P ops Q rest (a.put o.dst undef) w'):wpList P ops Q (o::rest) a w:=by
 refine pn hgd ty p x ho q n c l.length hf hown Tad hp hx hi h1 λ w' h1 h2=>h w' ?_ h2;exact ZhX
section
variable{c:PC}{w0 w w':t_}{gp:Nat}{r:Rest}{u v u' v':Value}{ya:v_}{s:dE}
theorem eU.apk(h:eU c w0 gp r w u v ya s)(hg:w.grownBy w' u.ownBlock):ai w0 w':=
 Below.trans h.base (bj h.lK hg h.base.size)
theorem eU.agK(h:eU c w0 gp r w u v ya s)(hg:w.grownBy w' v.ownBlock):ai w0 w':=
 Below.trans h.base (bj h.dM hg h.base.size)
theorem dG{α:Type}{f:α->xr}{e:TypeId}{size base:Nat}{l:List α}{x:Value}{q:Nat}{t:TypeId}{cs:x_}(hq:aB w q t cs)(h:aH f e size w base x l)(ht:t≠e)(hg:w.grownBy w' x.ownBlock):aB w' q t cs:=hq.grown hg λ e=>h.other hq ht e.symm
theorem eU.apl(h:eU c w0 gp r w u v ya s){t:Tr}{z:Ex}(ho:aH bH 46 7 w' w0.heap.size u' (ya++[z]))(hg:w.grownBy w' u.ownBlock)(ht:t.at_ w0 (Old w0) z):
  eU c w0 gp r (w'.setCell ⟨gp,9,none⟩ u') u' v (ya++[z]) ⟨s.aD++[t],s.aG⟩:=by
 have hb:=dG h.blk h.lK Tab hg;refine⟨h.low,(h.apk hg).setCell h.low _,hb.aW 9 u',ho.keep λ g hg2=>?_,(h.dM.past h.lK Tab hg).keep λ g hg2=>?_,Tr.all_append h.aD (Tr.gw ht)⟩;exact Below.heap_setCell w' ⟨gp,9,none⟩ u' g λ e=>ho.other hb Tab Tal;exact Below.heap_setCell w' ⟨gp,9,none⟩ u' g λ e=>(h.dM.past h.lK Tab hg).other hb Tab Tal
theorem eU.RZ(h:eU c w0 gp r w u v ya s){x:aZ}(ho:aH aU 113 2 w' w0.heap.size v' (s.aG++[x]))(hg:w.grownBy w' v.ownBlock):
  eU c w0 gp r (w'.setCell ⟨gp,10,none⟩ v') u v' ya ⟨s.aD,s.aG++[x]⟩:=by
 have hb:=dG h.blk h.dM Tab hg;refine⟨h.low,(h.agK hg).setCell h.low _,hb.aW 10 v',(h.lK.past h.dM Tab hg).keep λ g hg2=>?_,ho.keep λ g hg2=>?_,h.aD⟩;exact Below.heap_setCell w' ⟨gp,10,none⟩ v' g λ e=>(h.lK.past h.dM Tab hg).other hb Tab Tal;exact Below.heap_setCell w' ⟨gp,10,none⟩ v' g λ e=>ho.other hb Tab Tal
theorem ik.apm(hg:w.grownBy w' u.ownBlock)(hm:Mv w u u')(x:Value)(i:Nat):ik gp w u v (w'.setCell ⟨gp,i,none⟩ x) u' v:=
 ⟨hg.os,hg.tape,hg.output,by rw[World.size_setCell];exact hg.size,λ k hk=>(Below.heap_setCell w' ⟨gp,i,none⟩ x k (eG.1 hk).2.1).trans (hg.block k hk.1 λ e=>(eG.1 hk).2.2.1 e.symm),hm,.inl rfl⟩
theorem ik.R7(hg:w.grownBy w' v.ownBlock)(hm:Mv w v v')(x:Value)(i:Nat):ik gp w u v (w'.setCell ⟨gp,i,none⟩ x) u v':=
 ⟨hg.os,hg.tape,hg.output,by rw[World.size_setCell];exact hg.size,λ k hk=>(Below.heap_setCell w' ⟨gp,i,none⟩ x k (eG.1 hk).2.1).trans (hg.block k hk.1 λ e=>(eG.1 hk).2.2.2 e.symm),.inl rfl,hm⟩
theorem ik.in9{q:Nat}(hg:w.grownBy w' (some q))(hq:u.ownBlock=some q):ik gp w u v w' u v:=
 ⟨hg.os,hg.tape,hg.output,hg.size,λ k hk=>hg.block k hk.1 λ e=>(eG.1 hk).2.2.1 (hq.trans e.symm),.inl rfl,.inl rfl⟩
end
def ajl(gp B:Nat)(w1:t_)(u:Value)(l:v_)(z:Ex):Nat->t_->Value->Prop
 |0,_,v=>v=aw gp
 |1,_,v=>v=aw gp
 |2,_,v=>v=aw gp
 |3,_,v=>v=aY gp 9
 |4,_,v=>v=u
 |5,_,v=>v=.agg (ay z)
 |6,w,v=>∃q:Nat,v=aL q 1 1/\aB w q 46 (bH z).toArray/\u.ownBlock≠some q
 |7,w,v=>∃q:Value,v=q/\aH bH 46 7 w B q (l++[z])/\Mv w1 u q
 |8,_,v=>v=aw gp
 |9,_,v=>v=aY gp 9
 |_,_,_=>False
theorem Sa(gp B:Nat)(w1:t_)(u:Value)(l:v_)(z:Ex):∀i w w' v,ajl gp B w1 u l z i w v->AR bH 46 7 B u l z w w'->ajl gp B w1 u l z i w' v:=by
 intro i w w' v h hl
 match i with
 |0|1|2|3|4|5|8|9=>exact h
 |6=>exact Zff
 |7=>exact ZgD
 |n+10=>exact h
def adW(gp g9 B:Nat)(w1:t_)(vv:Value)(l:List aZ)(nm:u_)(ty:Int):Nat->t_->Value->Prop
 |0,_,v=>v=aw gp
 |1,_,v=>v=aw gp
 |2,_,v=>v=aw gp
 |3,_,v=>v=aY gp 10
 |4,_,v=>v=vv
 |5,_,v=>v=aY g9 4
 |6,_,v=>v=.string nm
 |7,_,v=>v=ag ty
 |8,_,v=>v=.agg #[.string nm,ag ty]
 |9,w,v=>∃q:Nat,v=aL q 1 1/\aB w q 113 (aU ⟨nm,ty⟩).toArray/\vv.ownBlock≠some q
 |10,w,v=>∃q:Value,v=q/\aH aU 113 2 w B q (l++[⟨nm,ty⟩])/\Mv w1 vv q
 |11,_,v=>v=aw gp
 |12,_,v=>v=aY gp 10
 |_,_,_=>False
theorem Ee(gp g9 B:Nat)(w1:t_)(vv:Value)(l:List aZ)(nm:u_)(ty:Int):∀i w w' x,adW gp g9 B w1 vv l nm ty i w x->AR aU 113 2 B vv l ⟨nm,ty⟩ w w'->adW gp g9 B w1 vv l nm ty i w' x:=by
 intro i w w' x h hl
 match i with
 |0|1|2|3|4|5|6|7|8|11|12=>exact h
 |9=>exact Zff
 |10=>exact ZgD
 |n+13=>exact h
def xN:Ex:=⟨0,⟨0,0,⟨#[]⟩⟩,⟨#[]⟩,0,none,0,0⟩
def zcx.Kas(h:p:=by
 have hy6:=NY;have DB:=aa NY;clear NY hy6 ht;obtain⟨UA,uc,hu,_⟩:=NW.ae.lK.reads;obtain⟨VA,vc,hv,_⟩:=NW.ae.dM.reads;have LE:=aa (show ya.length=s.aD.length from NW.ae.aD.length);subst hu hv;go_wp2_with fail;go_region
 ·generalize hW8:World.drew _=W8;have b7:ai W4 W8:=by rw[<-hW8];exact(cX.alloc aE _).drew
  clear hW8;have qH:=aa (NW.ae.later b7);have Oq:=aa (Fs.ae.later b7);have Ot:=aa (DB.ae.later b7);have Ii:=aa (aj.then ux.ae b7);clear b7 NW Fs DB ux;have hk3:=qG.ae.fresh (w2:=W8) KD.ae Oq.ae.lt;have hk4:=qG.ae.fresh (w2:=W8) nD.ae Ot.ae.lt;have Fl:=aa (eG.1 hk3);have Ef:=aa (eG.1 hk4);clear hk3 hk4;go_wp2_with fail;refine fJ _ _ (take_append_drop 10 _).symm (AR bH 46 7 w0.heap.size (Value.slice UA ya.length uc) ya z) AR.refl (λ _ _ _=>AR.trans) AR.drew (ajl gp w0.heap.size W8 (Value.slice UA ya.length uc) ya z) (λ i w w' x h hr=>Sa _ _ _ _ _ _ _ _ _ _ h hr) Taa Taa Taa ?_ ?_
  ·simp only[take_succ_cons,take_zero];refine⟨ZaY,ZaY,ZaY,ZeD,?_,?_,?_,?_,ZaY,ZeD,trivial⟩
   ·intro ρ W4 hc hL hr;have h0:_=_:=hr.1;have kJ:=dG qH.ae.blk qH.ae.lK Tab hL.grown;unfold PC.cells at kJ;have c9:=kJ.cell 9;simp only[Uaa]at c9;exact aq (w':=W4) (by simp[go_sem,h0,c9];done) ⟨AR.refl _,rfl⟩
   ·intro ρ W4 hc hL hr;have h0:_=_:=hr.1;have Xz:=Oq.ae.grown hL.grown (Ne.symm Fl.ae.2.2.1);have z0:=Xz.cell 0;have z1:=Xz.cell 1;have x2:=Xz.cell 2;have x3:=Xz.cell 3;have x4:=Xz.cell 4;have x5:=Xz.cell 5;have x6:=Xz.cell 6;simp only[Uaa]at z0 z1 x2 x3 x4 x5 x6;exact aq (w':=W4) (by simp[go_sem,h0,z0,z1,x2,x3,x4,x5,x6];done) ⟨AR.refl _,rfl⟩
   intro ρ W4 hc hL hr;have h0:_=_:=hr.1;refine aq (v:=.slice (some ⟨W4.heap.size,0,none⟩) 1 1) (w':=W4.alloc (.cells (ay z) 46)) Tas ⟨AR.later (ah W4 _),⟨_,rfl,aB.new W4 _ _,λ e=>?_⟩⟩;have:=((hL.old qH.ae.lK).lt e).1;omega;intro ρ W4 hc hL hr;have h0:_=_:=hr.1;obtain⟨q1,h1,vH,KF⟩:∃q:Nat,ρ (.tmp 60)=.slice (some ⟨q,0,none⟩) 1 1/\aB W4 q 46 (bH z).toArray/\(Value.slice UA ya.length uc).ownBlock≠some q:=hr.2.1;obtain⟨v',w',hrun,ho,zT,FM⟩:=fc (P:=prog) (w:=W4) 23 23 _ 88 underlying23 gh rfl WC (λ _=>rfl) TaF (hL.old qH.ae.lK) q1 vH TaG TaG (fK qH.ae.base.size hL.grown.size);exact Zb4
  intro W3 hL;simp only[Uab];rintro a0-a1-a2-a3-a4-a5-a6-a7 ⟨q_7,rfl,Xs,aht⟩ a8-_ rfl;simp only[bw,Act.put,Uac];obtain⟨A4,Sd,hv4,_⟩:=Xs.reads;rw[length_append,length_singleton]at hv4;subst hv4;have O4:=aa Xs;have HM4:=aa aht;have S2:=aa hL.grown;have kJ:=dG qH.ae.blk qH.ae.lK Tab hL.grown;have f9:=kJ.frozen 9;unfold PC.cells at kJ;have c9:=kJ.cell 9;simp only[Uaa]at c9;clear Xs aht kJ hL;go_upto_region 12 with fail;clear f9 c9;have HX:=aa (qH.ae.apl O4.ae S2.ae Cb.ae);have K3:=aa ((ik.refl gp W8 (Value.slice UA ya.length uc) (Value.slice VA s.aG.length vc)).trans (ik.apm (gp:=gp) (v:=Value.slice VA s.aG.length vc) S2.ae HM4.ae (Value.slice A4 (ya.length+1) Sd) 9));have K6:=aa ((Ot.ae.grown S2.ae (Ne.symm Ef.ae.2.2.1)).far (p:=⟨gp,9,none⟩) Ef.ae.2.1 (Value.slice A4 (ya.length+1) Sd));clear qH Oq Ot O4 HM4 S2;generalize World.setCell W3 _ _=WA at*;obtain⟨UX,hUX⟩:∃UX,UX=Value.slice A4 (ya.length+1) Sd:=⟨_,rfl⟩;rw[<-hUX]at HX K3;clear hUX;exact Zab
 generalize hW8:World.drew _=W8;have b7:ai W4 W8:=by rw[<-hW8];exact(cX.alloc aE _).drew
 clear hW8;have qH:=aa (NW.ae.later b7);have Oq:=aa (Fs.ae.later b7);have Ot:=aa (DB.ae.later b7);have Ii:=aa (aj.then ux.ae b7);clear b7 NW Fs DB ux;have hk3:=qG.ae.fresh (w2:=W8) KD.ae Oq.ae.lt;have hk4:=qG.ae.fresh (w2:=W8) nD.ae Ot.ae.lt;have Fl:=aa (eG.1 hk3);have Ef:=aa (eG.1 hk4);clear hk3 hk4;have S6:=aa (ah W8 (.cells dn 46));have iB:=qH.ae.blk;unfold PC.cells at iB;have c9:=iB.cell 9;simp only[Uaa]at c9;clear iB;go_upto_region 10 with (first
  |(at_builtin
    refine eT (l:=ya) (y:=xN) rfl (.tmp 46) (.tmp 48) 23 rfl _ 88 underlying23 gh rfl WC rfl (by simp[bH,xN,Value.oneCell']) rfl (qH.ae.lK.later S6.ae) W8.heap.size rfl (aB.new W8 _ _) TaG TaG (fK qH.ae.base.size S6.ae.size) ?_;intro v4 w4 Nm gr4 m4;obtain⟨q4,Kx,LT,hq4,avQ⟩:=Nm.block Tad;rw[length_append,length_singleton]at LT;subst LT;have Ei:=aa (qH.ae.later S6.ae);have hb4:=dG Ei.ae.blk Ei.ae.lK Tab gr4;have f4:=hb4.frozen 9;unfold PC.cells at hb4;have cc9:=hb4.cell 9;simp only[Uaa]at cc9;have Ly:=aa Nm;have G4:=aa (show(W8.alloc (.cells dn 46)).grownBy w4 (Value.slice UA ya.length uc).ownBlock from gr4);have M4:=aa (show Mv (W8.alloc (.cells dn 46)) (Value.slice UA ya.length uc) (Value.slice (some ⟨q4,0,none⟩) (ya.length+1) Kx)from m4);clear Nm gr4 m4 hb4))
 clear cc9 f4 c9;have aps:=ik.apm (gp:=gp) (v:=Value.slice VA s.aG.length vc) G4.ae M4.ae (Value.slice (some ⟨q4,0,none⟩) (ya.length+1) Kx) 9;have apt:=aa (((ik.refl gp W8 (Value.slice UA ya.length uc) (Value.slice VA s.aG.length vc)).later S6.ae).trans aps);have wu:=aa ((Ei.ae.apk G4.ae).setCell Ei.ae.low (p:=⟨gp,9,none⟩) (Value.slice (some ⟨q4,0,none⟩) (ya.length+1) Kx));have hb4:=dG Ei.ae.blk Ei.ae.lK Tab G4.ae;have apu:=aa (show aB (w4.setCell ⟨gp,9,none⟩ (Value.slice (some ⟨q4,0,none⟩) (ya.length+1) Kx)) gp 81 (c.cells r (Value.slice (some ⟨q4,0,none⟩) (ya.length+1) Kx) (Value.slice VA s.aG.length vc))from hb4.aW 9 _);have HO5:=aa (Ly.ae.keep λ g hg2=>Below.heap_setCell w4 ⟨gp,9,none⟩ (Value.slice (some ⟨q4,0,none⟩) (ya.length+1) Kx) g λ e=>Ly.ae.other hb4 Tab Tal);have HV5:=aa ((Ei.ae.dM.past Ei.ae.lK Tab G4.ae).keep λ g hg2=>Below.heap_setCell w4 ⟨gp,9,none⟩ (Value.slice (some ⟨q4,0,none⟩) (ya.length+1) Kx) g λ e=>(Ei.ae.dM.past Ei.ae.lK Tab G4.ae).other hb4 Tab Tal);have BW:=aa (((Oq.ae.later S6.ae).grown G4.ae (Ne.symm Fl.ae.2.2.1)).far (p:=⟨gp,9,none⟩) Fl.ae.2.1 (Value.slice (some ⟨q4,0,none⟩) (ya.length+1) Kx));have HZ5:=aa (((Ot.ae.later S6.ae).grown G4.ae (Ne.symm Ef.ae.2.2.1)).far (p:=⟨gp,9,none⟩) Ef.ae.2.1 (Value.slice (some ⟨q4,0,none⟩) (ya.length+1) Kx));have Oc:=aa qH.ae.aD;have vq:=aa qH.ae.low;have ajq:=aa (show q4≠g4/\q4≠gp from⟨λ e=>by rcases M4.ae with h|h;exact Ef.ae.2.2.1 (by rw[<-h,e];rfl);have h1:=h q4 rfl;have h2:=Ef.ae.1;have h3:=S6.ae.size;omega,λ e=>Ly.ae.other hb4 Tab (by rw[e];rfl)⟩)
 clear aps hb4 Ei qH Oq Ot Ly G4 M4 hq4 avQ;generalize World.setCell w4 _ _=w5 at*;have k1:=BW.ae;have z0:=k1.cell 0;have z1:=k1.cell 1;have x2:=k1.cell 2;have x3:=k1.cell 3;have x4:=k1.cell 4;have x5:=k1.cell 5;have x6:=k1.cell 6;simp only[Uaa]at z0 z1 x2 x3 x4 x5 x6;clear k1;go_upto_region 12 with (first
  |(refine xM rfl 46 (.tmp 53) (.tmp 52) rfl q4 (ya.length+1) Kx (f:=bH) (y:=z) (l:=ya) (λ _=>rfl) HO5.ae rfl rfl Taa TaF ?_
    intro w6 ho6 sQ;have HO6:=aa ho6;have yD:=aa sQ;clear ho6 sQ))
 clear z0 z1 x2 x3 x4 x5 x6;have HX:=aa (show eU c w0 gp r w6 (Value.slice (some ⟨q4,0,none⟩) (ya.length+1) Kx) (Value.slice VA s.aG.length vc) (ya++[z]) ⟨s.aD++[t],s.aG⟩from
  ⟨vq.ae,Below.trans wu.ae (zH yD.ae wu.ae.size (HO6.ae.lt rfl).2.1),apu.ae.grown yD.ae (λ e=>by injection e with e;exact ajq.ae.2 e.symm),HO6.ae,HV5.ae.grown yD.ae (λ e=>by obtain⟨_,_,cu,h1⟩:=HV5.ae.lt e;obtain⟨_,_,cu2,h2⟩:=HO5.ae.lt (g:=q4) rfl;rw[h1]at h2;injection h2 with h2;injection h2 with _ h2 _;exact absurd h2 Tab),Tr.all_append Oc.ae (Tr.gw Cb.ae)⟩)
 have K3:=aa (apt.ae.trans (ik.in9 (gp:=gp) (u:=Value.slice (some ⟨q4,0,none⟩) (ya.length+1) Kx) (v:=Value.slice VA s.aG.length vc) yD.ae rfl));have K6:=aa (HZ5.ae.grown yD.ae (λ e=>by injection e with e;exact ajq.ae.1 e.symm));clear apt yD HO6 HO5 HV5 BW HZ5 apu wu Oc vq ajq;generalize w6=WA at*;obtain⟨A4,hv4⟩:∃A4,A4=Value.slice (some ⟨q4,0,none⟩) (ya.length+1) Kx:=⟨_,rfl⟩;rw[<-hv4]at HX K3;clear hv4;exact Zab):=h
def zbf.Kac(h:p:=by open zcx in exact Zbb):=h
theorem Oa(c:PC)(w0:t_)(gp:Nat)(r:Rest)(t:Tr)(z:Ex)(s:dE)(u v:Value)(ya:v_)(w:t_)(hf:c.aG.findIdx? (λ g=>g.same t)=none)(ha:isAgg t.op=true)(ty:Int)(ht:gJ c.cols t.op t.args=(ty,0))(hlen:s.aG.length+s.aD.length<=999998)(bc:c.Ok w0)(gL:t.ok)(hat:t.at_ w0 (Old w0) z)(pd:eU c w0 gp r w u v ya s):
  ar 99 #[.pointer (some ⟨gp,0,none⟩),.agg (ay z)] w (sP c w0 gp r u v w (.ok (FJ s.aG.length,⟨s.aD++[t],s.aG++[⟨jD s.aG.length,ty⟩]⟩))):=by
 open zbf in exact Zau
def Ik(gp k:Nat)(CA:xP)(cn cc:Nat)(ty er:Int)(y:Ex):Nat->t_->Value->Prop
 |0,_,v=>v=.agg (ay y)
 |1,_,v=>v=aw gp
 |2,_,v=>v=aw gp
 |3,_,v=>v=aY gp k
 |4,_,v=>v=.slice CA cn cc
 |5,_,v=>v=.tuple #[ag ty,af er]
 |6,_,v=>v=.tuple #[ag ty,af er]
 |7,_,v=>v=ag ty
 |8,_,v=>v=af er
 |9,_,v=>v=ag ty
 |10,_,v=>v=af er
 |_,_,_=>False
theorem oa(gp k:Nat)(CA:xP)(cn cc:Nat)(ty er:Int)(y:Ex):∀i w w' v,Ik gp k CA cn cc ty er y i w v->aj w w'->Ik gp k CA cn cc ty er y i w' v:=by exact ZdT
def Od:Ex:=⟨1,⟨0,0,⟨#[]⟩⟩,⟨#[]⟩,0,none,0,0⟩
theorem JX(w:t_)(S:Nat->Prop):(Tr.mk 1 aM ByteArray.empty 0 []).at_ w S Od:=by unfold Tr.at_ Od;exact Ziw
theorem UM(w:t_)(S:Nat->Prop):∀n,Tr.aO w S (List.replicate n (.mk 1 aM ByteArray.empty 0 [])) (List.replicate n Od)
 |0=>by unfold List.replicate Tr.aO;rfl
 |n+1=>by rw[replicate_succ,replicate_succ];unfold Tr.aO;exact⟨_,_,rfl,JX w S,UM w S n⟩
theorem UN:∀n,Tr.cO (List.replicate n (.mk 1 aM ByteArray.empty 0 []))
 |0=>by unfold List.replicate Tr.cO;trivial
 |n+1=>by rw[replicate_succ];unfold Tr.cO;refine⟨?_,UN n⟩;unfold Tr.ok;refine⟨⟨by decide,by decide⟩,by simp,by decide,by decide,by decide,?_⟩;unfold Tr.cO;trivial
variable{ys:v_}
theorem qI{base:Nat}(h:aH bH 46 7 w base v ys)(hS:∀q,v.ownBlock=some q->S q):∃A c,v=.slice A ys.length c/\ys.length<=c/\ZA w S A ys:=by obtain⟨A0,c0,e0,_,hle,_⟩:=h.reads;obtain⟨A,c,rfl,h1⟩:=ey (f:=bH) (size:=7) (λ _=>rfl) h;injection e0 with _ _ e0;refine⟨A,c,rfl,by rw[e0];exact hle,?_⟩;rcases h1 with h1|⟨g,h1,h2,h3⟩;exact .inl h1;refine .inr ⟨g,0,h1,hS g (by rw[h1];rfl),λ i x hx=>?_⟩;have k:=λ j u hj hu=>h3 i x j u hx hj hu;unfold cC;simp only[Nat.zero_add];exact⟨by simpa using k 0 _ WC rfl,k 1 _ WC rfl,k 2 _ WC rfl,k 3 _ WC rfl,k 4 _ WC rfl,k 5 _ WC rfl,k 6 _ WC rfl⟩
def zgV.KbQ(h:p:=by
 have zB:=aa hR;have IH:=aa XW;clear hR XW cb;go_wp2_with fail;clear z6;go_loopw [5,11] (λ _ i wr=>∃(k:Nat) (zs:v_),k<=n/\i=af k/\zs.length=n/\zs.take k=List.replicate k Od/\aH bH 46 7 wr base (.slice A n c) zs/\W.grownBy wr (Value.slice A n c).ownBlock) (λ _ i _=>n-(intOf i).toNat);case atStart=>exact⟨0,ys,gE,rfl,HN.ae.symm,rfl,HO.ae,World.grownBy.refl W _⟩
 case round=>
  obtain⟨k,zs,hk,rfl,hzl,Il,ho,hg⟩:=hrel;have YZ:=aa Il;have pE:=aa hzl;have KK:=aa ho;have zA:=aa hg;clear Il ho hg hzl;have hx:=aa (zB.ae.grown zA.ae (Ne.symm avS.ae));by_cases hlt:k<n
  ·obtain⟨q,Kx,BV,hbq,NA⟩:=KK.ae.block (λ e=>by have:=pE.ae;rw[e]at this;simp at this;omega);injection BV with hA YI hc2;subst hA;have z6:=hx.ae.cell 6;simp only[Uaa]at z6;clear hc2 YI hbq NA Wl;go_wp2_with (first
    |(refine pn rfl 46 (.tmp 18) (.tmp 17) rfl q n c k (f:=bH) (y:=Od) (λ _=>rfl) KK.ae (by rw[pE.ae];exact hlt) rfl rfl Taa (by simp[bH,Od,Value.oneCell']) ?_
      intro w4 ho4 hg4;have HO4:=aa ho4;have LI:=aa hg4;clear ho4 hg4))
   go_roundw;case rel=>refine⟨k+1,zs.set k Od,hlt,by go_num,by rw[length_set];exact pE.ae,?_,HO4.ae,ba zA.ae LI.ae⟩;have h1:=pE.ae;rw[take_add_one,take_set_of_le aE,YZ.ae,getElem?_set_self WC,replicate_succ'];rfl
   case measure=>exact Za2
  have fX:k=n:=by omega
  subst fX;have hzz:zs=List.replicate k Od:=by have:=YZ.ae;rwa [take_of_length_le (by rw[pE.ae];exact aE)]at this
  subst hzz;obtain⟨y,hy⟩:∃y:Ex,y=⟨2,v,name,width,A,k,c⟩:=⟨_,rfl⟩;have Ie:=aa (show aB wr g2 46 (ay y) by rw[hy];exact hx.ae);have agR:wr.heap[gp]?=W.heap[gp]?:=zA.ae.block gp LF.ae (Ne.symm oD.ae);have Pw:=aa ((bI agR 8).trans Wl.ae);have Sh:=aa (eS LF.ae zA.ae.size);have hC6:RC wr wr.heap.size CA cols:=by by_cases hc0:cols=[];exact .inl hc0;rcases HC.ae with h|⟨b,off,h1,h2,h3⟩;exact Zis;refine .inr ⟨b,off,h1,eS h2 zA.ae.size,λ i x hx=>(h3 i x hx).keep λ o=>bI (zA.ae.block b h2 (Ne.symm (Fm.ae hc0 _ h1))) o⟩
  obtain⟨A2,Kx,uJ,_,hres⟩:=qI KK.ae (S:=Old wr) (λ q hq=>(KK.ae.lt hq).1);injection uJ with e1 e2 e3;subst e1 e3;clear e2;have lQ:=HN.ae;have hat:(Tr.mk 2 v name width (List.replicate k (.mk 1 aM ByteArray.empty 0 []))).at_ wr (Old wr) y:=by unfold Tr.at_;rw[hy];exact⟨rfl,rfl,rfl,rfl,by simp,_,hres,UM _ _ _⟩
  have PE:=iT.ae;rw[<-lQ]at PE;have yC:=aa (Tr.pO (cols:=cols) (CA:=CA) (cc:=cc) WC _ y wr PE hat hC6);have Si:=aa lQ;have yK:sw cols v name width k=if ((Tr.mk 2 v name width (List.replicate k (.mk 1 aM ByteArray.empty 0 []))).type cols).2≠0 then((Tr.mk 2 v name width (List.replicate k (.mk 1 aM ByteArray.empty 0 []))).type cols).2 else 42:=rfl;generalize (Tr.mk 2 v name width (List.replicate k (.mk 1 aM ByteArray.empty 0 []))).type cols=r at*;obtain⟨ty,er⟩:=r;dsimp only at yK yC;have BK:=aa yK;have iJ:=aa (Below.trans (Bf.ae.mono S7.ae) (bj HO.ae zA.ae agP.ae));clear agR hC6 hres hat PE yK lQ hlt hy hx KK zA HC Wl;go_upto_region 6 with fail;refine bD 11 (Ik gp 8 CA cols.length cc ty er y) (oa _ _ _ _ _ _ _ _) Taa Taa Taa ?_ ?_
  ·simp only[take_succ_cons,take_zero];refine⟨ZhZ,Zaa,Zaa,Zaa,Zcu,?_,Zaa,Zaa,Zaa,Zaa,Zaa,trivial⟩
   ·intro ρ W4 hc hL hr;have h0:_=_:=hr.1;have h1:_=_:=hr.2.1;have e1:=hc.func 59;refine bu (f:=59) (args:= #[.agg (ay y),.slice CA cols.length cc]) (w':=W4) Tat ?_;exact ZgZ
  intro W3 hL;simp only[Uab];rintro a0-a1-a2-a3-a4-a5-a6-a7-a8-_ rfl _ rfl;simp only[bw,Act.put,Uac];have HBX:=aa (iJ.ae.trans (hL.mono (fK S7.ae iJ.ae.size)));clear hL iJ Ie Pw yC;by_cases her:er=0
  ·subst her;go_wp2_with fail;go_ret;exact⟨by rw[BK.ae];rfl,HBX.ae⟩
  have t1:(er != 0)=true:=by simp[her]
  have PW:=aa her;clear her;go_wp2_with fail;go_ret;exact⟨by rw[BK.ae,if_pos PW.ae];rfl,HBX.ae⟩):=h
theorem Sg(gp:Nat)(v:Val)(name:u_)(width:Int)(ys:v_)(av:Value)(base:Nat)(cols:List aZ)(CA:xP)(cc:Nat)(w:t_)
  (bc:(Tr.mk 2 v name width (List.replicate ys.length (.mk 1 aM ByteArray.empty 0 []))).ok) (hn:ys.length<=1000000) (hO:aH bH 46 7 w base av ys) (qZ:gp<w.heap.size) (E8:w.cell? ⟨gp,8,none⟩=some (.slice CA cols.length cc)) (hC:RC w w.heap.size CA cols) (cj:cols.length<=1000000) (hne:av.ownBlock≠some gp) (hCA:cols≠[]->∀a,CA=some a->av.ownBlock≠some a.block) (hbase:base<=w.heap.size):
  ar 154 #[aw gp,.agg #[ag 2,ag v.k,af v.n,.string v.s,.string name,af width,av]] w λ e w'=>e=.returned (af (sw cols v name width ys.length))/\Below base w w':=by
 obtain⟨A,c,rfl,hle,_⟩:=qI hO (S:=λ _=>True) (λ _ _=>trivial);have hR:=aB.new w 46 #[ag 2,ag v.k,af v.n,.string v.s,.string name,af width,.slice A ys.length c];have bb:=ah w (.cells #[ag 2,ag v.k,af v.n,.string v.s,.string name,af width,.slice A ys.length c] 46);have HO:=aa (hO.later bb);have Wl:=aa ((bb.cell (p:=⟨gp,8,none⟩) qZ).trans E8);have HC:=aa (hC.later bb);have LF:=aa (eS qZ bb.size);have Bf:=aa bb;have iT:=aa bc;have oD:=aa hne;have Fm:=aa hCA;have agP:=aa (fK hbase bb.size);have S7:=aa hbase;have cb:(Value.slice A ys.length c).ownBlock≠some w.heap.size:=λ e=>by have:=(hO.lt e).1;omega
 obtain⟨n,pY⟩:∃n,n=ys.length:=⟨_,rfl⟩;have HN:=aa pY;rw[<-pY]at hn hle hR cb oD Fm HO Wl HC LF Bf agP⊢;clear hO E8 hC qZ bb bc hne hCA hbase pY;go_enter func154,ntmps154;go_upto_region 1 with fail;generalize World.alloc w _=W at*;obtain⟨g2,XW⟩:∃g2,g2=w.heap.size:=⟨_,rfl⟩;rw[<-XW]at hR cb⊢;have avS:=aa cb;open zgV in exact Ze6
variable{gp b:Nat}
theorem Kp.size{us:xr}(h:Kp w gp us b)(hs:w.heap.size<=w'.heap.size):Kp w' gp us b:=⟨eS h.1 hs,h.2⟩
variable{w1 w2:t_}{u1 v1:Value}
theorem ik.below(h:ik gp w u v w1 u1 v1)(hb:Below B w1 w2)(hB:w.heap.size<=B):ik gp w u v w2 u1 v1:=
 ⟨hb.os.trans h.os,hb.tape.trans h.tape,hb.output.trans h.output,fK h.size hb.size,λ k hk=>(hb.block k (eS hk.1 hB)).trans (h.block k hk),h.mu,h.mv⟩
structure Ej (c:PC) (w0:t_) (gp:Nat) (r:Rest) (w:t_) (u0 v0:Value) (g3 g4 g10 B1:Nat) (z:Ex) (wr:t_) (a u v:Value) (ys ya:v_) (ts:vI) (s:dE):Prop where
 ps:eU c w0 gp r wr u v ya s
 stp:ik gp w u0 v0 wr u v
 x:aB wr g3 46 (ay z)
 res:aB wr g4 46 dn
 y:aB wr g10 46 #[ag z.op,ag z.v.k,af z.v.n,.string z.v.s,.string z.name,af z.width,a]
 k3:Kp wr gp [u,v] g3
 k4:Kp wr gp [u,v] g4
 k10:Kp wr gp [u,v] g10
 own:aH bH 46 7 wr B1 a ys
 ka:∀q,a.ownBlock=some q->Kp wr gp [u,v] q
 trees:Tr.aO wr (λ b=>(B1<=b/\a.ownBlock≠some b)/\Kp wr gp [u,v] b) ts ys
 size:B1<=wr.heap.size
 low:w.heap.size<=g3/\g3<g4/\g4<g10/\g10<B1
 base:w0.heap.size<=w.heap.size
variable{S':Nat->Prop}
theorem Tr.zI(hk:∀b,S b->(∀o,w'.cell? ⟨b,o,none⟩=w.cell? ⟨b,o,none⟩)/\S' b)(h:Tr.aO w S ts ys):Tr.aO w' S' ts ys:=Tr.aO.keep hk ts ys h
section
variable{c:PC}{w0 w wr w':t_}{gp g3 g4 g10 B1:Nat}{r:Rest}{u0 v0 a u v a' u' v':Value}{z:Ex}{ys ya rE:v_}{ts:vI}{s s':dE}
theorem Ej.call(h:Ej c w0 gp r w u0 v0 g3 g4 g10 B1 z wr a u v ys ya ts s)(hs:ik gp wr u v w' u' v')(hp:eU c w0 gp r w' u' v' rE s'):Ej c w0 gp r w u0 v0 g3 g4 g10 B1 z w' a u' v' ys rE ts s':=
 ⟨hp,h.stp.trans hs,hs.blk h.x h.k3,hs.blk h.res h.k4,hs.blk h.y h.k10,hs.kp h.k3,hs.kp h.k4,hs.kp h.k10,hs.avy h.own h.ka,λ q hq=>hs.kp (h.ka q hq),hs.trees h.trees,fK h.size hs.size,h.low,h.base⟩
theorem Ej.later(h:Ej c w0 gp r w u0 v0 g3 g4 g10 B1 z wr a u v ys ya ts s)(hb:ai wr w'):Ej c w0 gp r w u0 v0 g3 g4 g10 B1 z w' a u v ys ya ts s:=
 h.call ((ik.refl gp wr u v).later hb) (h.ps.later hb)
theorem eU.ajr(h:eU c w0 gp r w u v ya s){o:Option Nat}(hg:w.grownBy w' o)(hq:∀q,o=some q->Kp w gp [u,v] q/\w0.heap.size<=q):eU c w0 gp r w' u v ya s:=by
 cases o with
 |none=>exact h.later (qC hg)
 |some q=>exact h.aside hg (hq q rfl).1 (hq q rfl).2
theorem Ej.push(h:Ej c w0 gp r w u0 v0 g3 g4 g10 B1 z wr a u v ys ya ts s){t:Tr}{y:Ex}(hy:t.at_ wr (λ b=>(B1<=b/\a.ownBlock≠some b)/\Kp wr gp [u,v] b) y)
  (ho:aH bH 46 7 w' B1 a' (ys++[y])) (hg:wr.grownBy w' a.ownBlock) (hm:Mv wr a a'):
  Ej c w0 gp r w u0 v0 g3 g4 g10 B1 z (w'.setCell ⟨g10,6,none⟩ a') a' u v (ys++[y]) ya (ts++[t]) s:=by
 have hl:=h.low;have hab:∀q,a.ownBlock=some q->B1<=q:=λ q hq=>(h.own.lt hq).2.1;have PS:∀q,a'.ownBlock=some q->B1<=q:=λ q hq=>(ho.lt hq).2.1;have pd:eU c w0 gp r w' u v ya s:=h.ps.ajr hg λ q hq=>⟨h.ka q hq,by have:=hab q hq;have:=h.base;omega⟩;have hx:=h.x.grown hg (λ e=>by have:=hab g3 e.symm;omega);have hr:=h.res.grown hg (λ e=>by have:=hab g4 e.symm;omega);have KJ:=h.y.grown hg (λ e=>by have:=hab g10 e.symm;omega);have k3:=h.k3.size hg.size;have k4:=h.k4.size hg.size;have k10:=h.k10.size hg.size;have ka:∀q,a'.ownBlock=some q->Kp w' gp [u,v] q:=λ q hq=>by rcases hm with hm|hm;exact(h.ka q (by rw[<-hm];exact hq)).size hg.size;exact h.ps.fresh (hm q hq) (ho.lt hq).1
 have htr:Tr.aO w' (λ b=>(B1<=b/\a'.ownBlock≠some b)/\Kp w' gp [u,v] b) (ts++[t]) (ys++[y]):=by refine Tr.zI ?_ (Tr.all_append h.trees (Tr.gw hy));rintro b ⟨⟨h1,h2⟩,h3⟩;exact⟨λ o=>bI (hg.block b h3.1 (Ne.symm h2)) o,⟨h1,hm.ne h3.1 h2⟩,h3.size hg.size⟩
 have rq:w'.grownBy (w'.setCell ⟨g10,6,none⟩ a') (some g10):=aF (aQ cX) _ _;refine⟨pd.aside rq k10 (by have:=h.base;omega),?_,hx.far (p:=⟨g10,6,none⟩) (by show g3≠g10;omega) _,hr.far (p:=⟨g10,6,none⟩) (by show g4≠g10;omega) _,by simpa using KJ.aW 6 a',k3.size rq.size,k4.size rq.size,k10.size rq.size,ho.keep λ q hq=>Below.heap_setCell w' ⟨g10,6,none⟩ a' q (λ e=>by have:=PS q hq;have e2:q=g10:=e;omega),λ q hq=>(ka q hq).size rq.size,?_,fK h.size (fK hg.size rq.size),hl,h.base⟩;exact(h.stp.avx hg λ q hq=>by have:=hab q hq;omega).own rq WC;refine Tr.zI ?_ htr;rintro b ⟨⟨h1,h2⟩,h3⟩;exact⟨λ o=>bI (Below.heap_setCell w' ⟨g10,6,none⟩ a' b (λ e=>by have e2:b=g10:=e;omega)) o,⟨h1,h2⟩,h3.size rq.size⟩
end
theorem S8{base:Nat}{c:Nat}{l:List aZ}(h:aH aU 113 2 w base (.slice A l.length c) l):RC w w.heap.size A l:=by obtain⟨A2,c2,hv,h1⟩:=ey (f:=aU) (size:=2) (λ _=>rfl) h;injection hv with e1 e2 e3;subst e1;rcases h1 with h1|⟨g,h1,h2,h3⟩;exact .inl h1;refine .inr ⟨g,0,h1,h2,λ i x hx=>?_⟩;have k:=λ j u hj hu=>h3 i x j u hx hj hu;unfold qW;simp only[Nat.zero_add];exact⟨by simpa using k 0 _ WC rfl,k 1 _ WC rfl⟩
theorem qJ:∀{ts:vI}{ys:v_}{k:Nat}(h:k<ts.length),Tr.aO w S ts ys->∃y,ys[k]?=some y/\ts[k].at_ w S y
 |t::ts,ys,0,h,ha=>by unfold Tr.aO at ha;obtain⟨y,ys',rfl,h1,h2⟩:=ha;exact⟨y,rfl,h1⟩
 |t::ts,ys,k+1,h,ha=>by unfold Tr.aO at ha;obtain⟨y,ys',rfl,h1,h2⟩:=ha;obtain⟨x,hx,hx2⟩:=qJ (k:=k) Taj h2;exact⟨x,by simpa using hx,hx2⟩
def zbP.Kaj(h:p:=by refine bodyPost_ret (v:=.tuple #[.agg dn,af er]) Tai rfl ?_;exact ZgT):=h
def zbQ.Kaj(h:p:=by refine bodyPost_ret (v:=.tuple #[.agg dn,af al]) Tai rfl ?_;exact ZgT):=h
def zbR.Kaj(h:p:=by refine bodyPost_ret (v:=.tuple #[.agg (ay Kx),af er]) Tai rfl ?_;by_cases her:er=0;subst her;have Oi:=wh.ae;rw[if_neg Tab]at Oi;rw[Oi];have h4:=BA.ae.k4;refine⟨Kx,u1,_,KL,rfl,?_,BA.ae.ps.aside lC h4 (by have:=BA.ae.base;have:=nD.ae;omega),BA.ae.stp.own lC nD.ae⟩;have hl:=BA.ae.low;exact Tr.at_.keep (λ b MY=>⟨λ o=>bI (lC.block b MY.2.1 (λ e=>by injection e with e;have:=MY.1;omega)) o,by have:=MY.1;omega,MY.2.size lC.size⟩) _ Kx awb.ae;have Oi:=wh.ae;rw[if_pos her]at Oi;rw[Oi];exact⟨Kx,_,_,rfl,BA.ae.stp.own lC nD.ae⟩):=h
def zfc.Ka9(h:p:=by
 have lC:WD.grownBy W9 (some g4):=by rw[<-vG];exact aF (aF (aF (aF (aF (aF (aF (aQ cX) _ _) _ _) _ _) _ _) _ _) _ _) _ _
 open zbP in exact ZaE):=h
def zcz.Kat(h:p:=by have Rz:=aa NY;clear LT NY bg apA;go_upto_region 21 with fail;generalize w6.alloc (.cells (ay Kx) 46)=WD at*;open zfc in exact Zdb):=h
def zfd.Ka9(h:p:=by
 have lC:w7.grownBy W9 (some g4):=by rw[<-vG];exact aF (aF (aF (aF (aF (aF (aF (aQ cX) _ _) _ _) _ _) _ _) _ _) _ _) _ _
 open zbQ in exact ZaE):=h
def zcA.Kat(h:p:=by
 have Rz:=aa NY;clear NY Pv iB c8 mC hz2;have yF:X=.error (sw c.cols z.v z.name z.width ys.length):=by have h1:=zv.ae;rw[if_pos Jk.ae]at h1;have h2:=HZE.ae;have h3:=HE4.ae;have h4:=LE.ae;rw[h1,h2.2.1,h2.2.2,h3,h4]
 have wh:=aa yF;clear yF;obtain⟨al,yK⟩:∃al,al=sw c.cols z.v z.name z.width ys.length:=⟨_,rfl⟩;rw[<-yK]at wh⊢;clear yK;open zfd in exact Zdb):=h
def zcB.Kat(h:p:=by
 clear KJ NY;go_wp2_with fail;clear z0 z1 x2 x3 x4 x5 x6 y0 y1 c2 y3 y4 y5 y6 Ig;generalize vG:World.setCell _ _ _=W9;have hR:aB W9 g4 46 (ay Kx):=by rw[<-vG];simpa using(((((((BA.ae.res.aW 0 _).aW 1 _).aW 2 _).aW 3 _).aW 4 _).aW 5 _).aW 6 _)
 have lC:W3.grownBy W9 (some g4):=by rw[<-vG];exact aF (aF (aF (aF (aF (aF (aF (aQ cX) _ _) _ _) _ _) _ _) _ _) _ _) _ _
 open zbR in exact ZaE):=h
def zgI.KbM(h:p:=by have NY:=BA.ae.res;have Ig:=NY.frozen;open zcB in exact Zbc):=h
def zev.KaV(h:p:=by have awb:=aa (((ik.refl gp wr u1 (.slice VA s1.aG.length vc)).later hL).tree apE.ae);clear hL XE Ae apE Pw yC kt agV;open zgI in exact Ze0):=h
def zd1.KaN(h:p:=by
 have hz:=at_root Cb.ae;rw[HHT.ae]at hz;have HZE:=aa (show z.op=op/\z.v=xv/\z.name=name from hz);clear hz;go_upto_region 16 with fail;have Xu:=aB.new w2 46 (ay z);have S9:=ah w2 (.cells (ay z) 46);generalize w2.alloc (.cells (ay z) 46)=Px at*;obtain⟨g10,agT⟩:∃g10,g10=w2.heap.size:=⟨_,rfl⟩;rw[<-agT]at Xu⊢;have Bw:=aa (show g3<g4/\g4<g10/\g10<Px.heap.size from⟨by have:=HI.ae;have:=LI.ae;omega,by have:=YW.ae.lt;omega,Xu.lt⟩);have agU:=aa (vF.ae.later S9);have ajt:=aa (BW.ae.later S9);have apy:=aa (YW.ae.later S9);have uA:=aa (aj.then fT.ae S9);have FW:=aa Xu;have hc6:=Xu.cell 6;have hf6:=Xu.frozen 6;simp only[Uaa]at hc6;have hx6:=ajt.ae.cell 6;simp only[Uaa]at hx6;clear z0 z1 x2 x3 x4 x5 x6 Xu S9 agT vF BW YW fT;go_upto_region 17 with fail;have rq:Px.grownBy (Px.setCell ⟨g10,6,none⟩ (az)) (some g10):=aF (aQ cX) _ _;have fX:=λ g (h1:w.heap.size<=g) (h2:g<Px.heap.size)=>qG.ae.fresh (w2:=Px) h1 h2;have Ae:=aa (show Ej c w0 gp r w u v g3 g4 g10 Px.heap.size z (Px.setCell ⟨g10,6,none⟩ (az)) (az) u v [] ya [] s from
  ⟨agU.ae.aside rq (fX g10 TaW Bw.ae.2.2) (by have:=qG.ae.base.size;have:=nD.ae;have:=Bw.ae;omega),((ik.refl gp w u v).later uA.ae).own rq TaW,ajt.ae.far (p:=⟨g10,6,none⟩) (by show g3≠g10;have:=Bw.ae;omega) _,apy.ae.far (p:=⟨g10,6,none⟩) (by show g4≠g10;have:=Bw.ae;omega) _,by simpa using FW.ae.aW 6 (az),
    (fX g3 KD.ae (by have:=Bw.ae;omega)).size rq.size,(fX g4 nD.ae (by have:=Bw.ae;omega)).size rq.size,(fX g10 TaW Bw.ae.2.2).size rq.size,aH.nil,λ q hq=>by simp[Value.ownBlock]at hq,by unfold Tr.aO;rfl,rq.size,⟨KD.ae,Bw.ae⟩,qG.ae.base.size⟩)
 have apz:=Ae.ae.x.cell 6;simp only[Uaa]at apz;obtain⟨B1,LV⟩:∃B1,B1=Px.heap.size:=⟨_,rfl⟩;rw[<-LV]at Ae;clear rq fX agU ajt apy uA FW hc6 hf6 hx6 LV Bw;generalize World.setCell Px _ _=WL at*;have oL:=Cb.ae;rw[HHT.ae]at oL;unfold Tr.at_ at oL;obtain⟨e1,e2,e3,e4,hzn,zs,hzr,hza⟩:=oL;have HE4:=aa e4;clear e1 e2 e3 e4;have HZN:=aa hzn;have ox:=aa hzr;have HZA:=aa hza;clear hzn hzr hza;have aju:=aa (show(Tr.mk op xv name width args).nodes=Tr.aP args+1 by rw[Tr.nodes]);have hnz:args.length<=1000000:=by
  have h1:∀l:vI,l.length<=Tr.aP l:=by
   intro l
   induction l with
   |nil=>exact Nat.zero_le _
   |cons t l ih=>
     have h2:1<=t.nodes:=by cases t;rw[Tr.nodes];omega
     rw[Tr.aP,length_cons];omega
  have:=h1 args;have:=aju.ae;have:=HLEN.ae;omega
 go_wp2_with fail;clear apz;rw[HZN.ae];go_loopw [89] (λ i wr=>∃(k:Nat) (a u1 v1:Value) (ys KL:v_) (ts:vI) (s1:dE),k<=args.length/\i=af k/\Tr.turns c.aG c.cols (args.take k) s=.ok (ts,s1)/\Ej c w0 gp r w u v g3 g4 g10 B1 z wr a u1 v1 ys KL ts s1) (λ i _=>args.length-(intOf i).toNat);case atStart=>exact⟨0,_,u,v,[],ya,[],s,gE,rfl,by rw[take_zero,pk],Ae.ae⟩
 case round=>
  clear Ae;obtain⟨k,a,u1,v1,ys,KL,ts,s1,hk,rfl,hturn,htu⟩:=hrel;have HT:=aa hturn;have Ae:=aa htu;clear hturn htu;by_cases hlt:k<args.length
  ·obtain⟨y,hx,sR⟩:=qJ hlt HZA.ae
   obtain⟨b,off,hzA,Dx,hex⟩:∃b off,z.A=some ⟨b,off,none⟩/\b<w0.heap.size/\cC w0 b (off+k*7) y:=by rcases ox.ae with h|⟨b,off,h1,h2,h3⟩;rw[h]at hx;simp at hx;exact⟨b,off,h1,h2,h3 k y hx⟩
   have ja:=hex.keep (λ o=>Ae.ae.ps.base.cell (p:=⟨b,o,none⟩) Dx);unfold cC at ja;have yE:=aa sR;have aDC:=aa hzA;rw[hzA];clear hex hx sR Dx hzA;go_upto_region 20 with fail;have k1:=aB.new wr 46 (ay y);have Oe:=ah wr (.cells (ay y) 46);generalize wr.alloc (.cells (ay y) 46)=W2 at*;have Og:=aa (Ae.ae.later Oe);clear Oe Ae ja;generalize wr.heap.size=g12 at*;have z0:=k1.cell 0;have z1:=k1.cell 1;have x2:=k1.cell 2;have x3:=k1.cell 3;have x4:=k1.cell 4;have x5:=k1.cell 5;have x6:=k1.cell 6;simp only[Uaa]at z0 z1 x2 x3 x4 x5 x6;clear k1;go_wp2_with fail;have RS:=getElem_mem hlt;have hrun:=HIH.ae args[k] RS y s1 u1 v1 KL W2 (by
    have h1:=lq.ae;rw[HHT.ae]at h1;unfold Tr.ok at h1;exact dP.1 h1.2.2.2.2.2 _ RS) yE.ae Og.ae.ps (by
    have h1:=(ll (λ t _ s=>jd c.aG c.cols t s) s:qF (args.take k) s (Tr.turns c.aG c.cols (args.take k) s));have h2:=h1.len _ _ HT.ae;have h3:=HLEN.ae;have h4:=aju.ae;have h5:Tr.aP (args.take k)+args[k].nodes<=Tr.aP args:=by
     rw[gK,gK];have e:args=args.take k++args[k]::args.drop (k+1):=by rw[<-drop_eq_getElem_cons hlt,take_append_drop]
     conv=>rhs;rw[e]
     rw[map_append,sum_append,map_cons,sum_cons];omega
    omega)
   refine hrun.mono ?_;clear hrun;intro e w6 hp;clear z0 z1 x2 x3 x4 x5 x6;have wA:=aa (jd c.aG c.cols args[k] s1);cases hr:Tr.turn c.aG c.cols args[k] s1 with
   |error er=>
     rw[hr]at hp wA;obtain⟨Kx,u',v',rfl,hst⟩:=hp;have her:=wA.ae.err _ rfl;have yF:X=.error er:=by
      have h1:=HX_.ae;have e2:args=args.take k++args[k]::args.drop (k+1):=by rw[<-drop_eq_getElem_cons hlt,take_append_drop]
      have h2:Tr.turns c.aG c.cols args s=.error er:=by
       conv=>lhs;rw[e2]
       exact RX HT.ae hr
      rw[h2]at h1;exact h1
     have wh:=aa yF;have d0:(er != 0)=true:=by simp[her]
     have LT:=hst.blk Og.ae.res Og.ae.k4;have apA:=aa (Og.ae.stp.trans hst);clear yF hr her hst HX_;have bg:=ah w6 (.cells (ay Kx) 46);have NY:=LT.later bg;have xO:=aa (apA.ae.later bg);have Ig:=NY.frozen;open zcz in exact Zbc
   |ok q=>
     obtain⟨y1,s2⟩:=q;rw[hr]at hp;obtain⟨Kx,u',v',T7,rfl,vJ,qK,hst⟩:=hp;have apB:=aa vJ;have HTS:=aa (RU HT.ae hr);have hab:∀q,a.ownBlock=some q->q<W2.heap.size:=λ q hq=>(Og.ae.own.lt hq).1;have HAB:=aa hab;have avX:=aa Og.ae.size;have T8:=aa (Og.ae.call hst qK);clear hr vJ qK hst hab Og wA HT;obtain⟨aA,ac,rfl,avY,_⟩:=qI T8.ae.own (S:=λ _=>True) (λ _ _=>trivial);have bg:=ah w6 (.cells (ay Kx) 46);have Xz:=aB.new w6 46 (ay Kx);have BA:=aa (T8.ae.later bg);have avZ:=aa (show y1.at_ (w6.alloc (.cells (ay Kx) 46)) (λ b=>(B1<=b/\(Value.slice aA ys.length ac).ownBlock≠some b)/\Kp (w6.alloc (.cells (ay Kx) 46)) gp [u',v'] b) Kx from
      Tr.at_.keep (λ b MY=>⟨λ o=>bg.cell (p:=⟨b,o,none⟩) MY.2.1,⟨fK avX.ae MY.1,λ e=>by have:=HAB.ae b e;have:=MY.1;omega⟩,MY.2.size bg.size⟩) y1 Kx apB.ae)
     have LE:=aa (show ys.length=k by have h1:=T8.ae.trees.length;have h2:=ue HTS.ae;have h3:=T8.ae.trees.length;rw[length_append,length_singleton,length_append,length_singleton,length_take]at h2;omega)
     clear bg T8 apB HAB;go_upto_region 21 with fail;generalize w6.alloc (.cells (ay Kx) 46)=WD at*;generalize w6.heap.size=gY at*;have Bv:=aa Xz;have z0:=Xz.cell 0;have z1:=Xz.cell 1;have x2:=Xz.cell 2;have x3:=Xz.cell 3;have x4:=Xz.cell 4;have x5:=Xz.cell 5;have x6:=Xz.cell 6;simp only[Uaa]at z0 z1 x2 x3 x4 x5 x6;clear Xz;have hy:=BA.ae.y;have yf:=hy.frozen 6;have y6:=hy.cell 6;simp only[Uaa]at y6;clear hy;have T9:=aa (ah WD (.cells (ay Kx) 46));go_wp2_with (first
      |(at_builtin
        refine eT (f:=bH) (l:=ys) (y:=Kx) rfl (.tmp 104) (.tmp 106) 23 rfl _ 88 underlying23 gh rfl WC rfl TaF rfl (BA.ae.own.later T9.ae) WD.heap.size rfl (aB.new WD _ _) TaG TaG (fK BA.ae.size T9.ae.size) ?_;intro v4 w4 Xs gr4 m4;obtain⟨A4,Sd,hv4,_⟩:=Xs.reads;rw[length_append,length_singleton]at hv4;subst hv4;have U0:=BA.ae.later T9.ae;have apC:(Value.slice aA ys.length ac).ownBlock≠some g10:=λ e=>by have:=(U0.own.lt e).2.1;have:=U0.low.2.2.2;omega
        have hb4:=U0.y.grown gr4 (λ e=>apC e.symm);have f4:=hb4.frozen 6;have cc6:=hb4.cell 6;simp only[Uaa]at cc6;have apD:y1.at_ (WD.alloc (.cells (ay Kx) 46)) (λ b=>(B1<=b/\(Value.slice aA ys.length ac).ownBlock≠some b)/\Kp (WD.alloc (.cells (ay Kx) 46)) gp [u',v'] b) Kx:=
         Tr.at_.keep (λ b MY=>⟨λ o=>T9.ae.cell (p:=⟨b,o,none⟩) MY.2.1,MY.1,MY.2.size T9.ae.size⟩) y1 Kx avZ.ae
        have awa:=aa (U0.push apD Xs (show(WD.alloc (.cells (ay Kx) 46)).grownBy w4 (Value.slice aA ys.length ac).ownBlock from gr4) (show Mv (WD.alloc (.cells (ay Kx) 46)) (Value.slice aA ys.length ac) (Value.slice A4 (ys.length+1) Sd)from m4));clear Xs gr4 m4 hb4 apD U0 apC))
     go_roundw;case rel=>exact⟨k+1,_,u',v',ys++[Kx],T7,ts++[y1],s2,hlt,by go_num,by rw[take_add_one,getElem?_eq_getElem hlt];exact HTS.ae,awa.ae⟩
     case measure=>exact Za2
  have fX:k=args.length:=by omega
  subst fX;rw[take_length]at HT;have Ry:=HX_.ae;rw[HT.ae]at Ry;dsimp only at Ry;have zv:=aa Ry;have rL:=aa (ue HT.ae);have LE:=aa (Ae.ae.trees.length);clear Ry hlt HX_;have x7:=Ae.ae.x.cell 0;simp only[Uaa]at x7;obtain⟨aA,ac,rfl,avY,hres⟩:=qI Ae.ae.own (S:=λ b=>B1<=b/\Kp wr gp [u1,v1] b) (λ q hq=>⟨(Ae.ae.own.lt hq).2.1,Ae.ae.ka q hq⟩);have kt:=aa hres;have agV:=aa (show Tr.aO wr (λ b=>B1<=b/\Kp wr gp [u1,v1] b) ts ys from Tr.zI (λ b MY=>⟨λ _=>rfl,MY.1.1,MY.2⟩) Ae.ae.trees);have KJ:=Ae.ae.y;have y0:=KJ.cell 0;have y1:=KJ.cell 1;have c2:=KJ.cell 2;have y3:=KJ.cell 3;have y4:=KJ.cell 4;have y5:=KJ.cell 5;have y6:=KJ.cell 6;simp only[Uaa]at y0 y1 c2 y3 y4 y5 y6;clear hres KJ;by_cases pJ:op=2
  ·have d0:(z.op==2)=true:=by rw[HZE.ae.1];simp[pJ]
   have Jk:=aa pJ;clear pJ;go_wp2_with fail;clear y0 y1 c2 y3 y4 y5 y6 x7 d0;have hz2:z.op=2:=HZE.ae.1.trans Jk.ae;rw[hz2];have iB:=Ae.ae.ps.blk;unfold PC.cells at iB;have c8:=iB.cell 8;simp only[Uaa]at c8;have mC:=lq.ae;rw[HHT.ae]at mC;unfold Tr.ok at mC;refine(Sg gp z.v z.name z.width ys (.slice aA ys.length ac) B1 c.cols c.cA c.cc wr (by
    unfold Tr.ok;have h1:=HZE.ae;have h2:=HE4.ae;refine⟨by rw[h1.2.1];exact mC.1,by rw[length_replicate];have:=LE.ae;have:=rL.ae;omega,by decide,by rw[h2];exact mC.2.2.2.1,by rw[h1.2.1];exact mC.2.2.2.2.1,UN _⟩) (by have:=LE.ae;have:=rL.ae;omega) Ae.ae.own iB.lt c8 (iT.ae.cols.later Ae.ae.ps.base) (by exact iT.ae.cl) (λ e=>(eG.1 (Ae.ae.ka gp e)).2.1 rfl) (λ hc0 a ha e=>by
    rcases iT.ae.cols with h|⟨b,off,h1,h2,h3⟩;exact hc0 h;rw[h1]at ha;injection ha with ha;have h4:=(Ae.ae.own.lt e).2.1;have h5:=Ae.ae.low;have h6:=Ae.ae.base;rw[<-ha]at h4;have h7:B1<=b:=h4;omega) Ae.ae.size).mono ?_
   rintro e w7 ⟨rfl,Pv⟩;have xO:=aa (Ae.ae.stp.below Pv (by have:=Ae.ae.low;omega));have NY:=Ae.ae.res.below Pv (by have:=Ae.ae.low;omega);have Ig:=NY.frozen;open zcA in exact Zbc
  have d0:(z.op==2)=false:=by rw[HZE.ae.1];simp[pJ]
  have Jk:=aa pJ;clear pJ y0 y1 c2 y3 y4 y5 y6;go_upto_region 27 with fail;clear x7 d0;obtain⟨Kx,hy⟩:∃Kx:Ex,Kx=⟨z.op,z.v,z.name,z.width,aA,ys.length,ac⟩:=⟨_,rfl⟩;have XE:=aa (show aB wr g10 46 (ay Kx) by rw[hy];exact Ae.ae.y);obtain⟨VA,vc,PJ,_⟩:=Ae.ae.ps.dM.reads;subst PJ;have iB:=Ae.ae.ps.blk;unfold PC.cells at iB;have Pw:=aa (show wr.cell? ⟨gp,10,none⟩=some (.slice VA s1.aG.length vc)from by have:=iB.cell 10;simpa using this)
  have Sh:=aa iB.lt;have ajv:(Tr.mk op xv name width ts).at_ wr (λ b=>B1<=b/\Kp wr gp [u1,.slice VA s1.aG.length vc] b) Kx:=by have h2:=HZE.ae;have h3:=HE4.ae;unfold Tr.at_;rw[hy];exact⟨h2.1,h2.2.1,h2.2.2,h3,LE.ae,ys,kt.ae,agV.ae⟩
  have apE:=aa ajv;have Py:(Tr.mk op xv name width ts).ok:=by have h1:=lq.ae;rw[HHT.ae]at h1;unfold Tr.ok at h1⊢;exact⟨h1.1,by rw[rL.ae];exact h1.2.1,h1.2.2.1,h1.2.2.2.1,h1.2.2.2.2.1,((ll (λ t _ s=>jd c.aG c.cols t s) s:qF args s (Tr.turns c.aG c.cols args s)).ok _ _ HT.ae) h1.2.2.2.2.2⟩
  have Br:s1.aG.length<=140737488355328:=by have h1:=((ll (λ t _ s=>jd c.aG c.cols t s) s:qF args s (Tr.turns c.aG c.cols args s)).len _ _ HT.ae);have h2:=HLEN.ae;have h3:=aju.ae;omega
  have yC:=aa (Tr.pO (cols:=s1.aG) (CA:=VA) (cc:=vc) Br _ Kx wr Py (P6 ajv) (S8 Ae.ae.ps.dM));have hXN:=zv.ae;rw[if_neg Jk.ae]at hXN;generalize Ly:(Tr.mk op xv name width ts).type s1.aG=R at*;obtain⟨ty,er⟩:=R;dsimp only at hXN yC;have wh:=aa hXN;clear ajv Py Br hXN Ly hy iB zv Jk;open zev in exact ZcF):=h
def zf8.Kby(h:p:=by rw[Ed,show t.op=op from ajs,ha]at vZ;have HIS:=aa vZ;have WU:=aa Ed;clear c4 c8 c10 hb1 hf vZ Ed Ie uv;go_wp2_with fail;have Xd:=aa lz;have KK:=aa Lw;have hop:=WU.ae;rw[hop,ajs];refine(HIS.ae w1).mono ?_;rintro e w2 ⟨rfl,hb2⟩;rw[<-ajs,<-hop];have vF:=aa (Ec.ae.later hb2);have hb:=Xd.ae.later hb2;have YW:=aa (KK.ae.later hb2);have fT:=aa (aj.then Bf.ae (aj.then eZ.ae hb2));clear hxo lz Lw hb2 hop Xd KK eZ Ec;open zd1 in exact Zcf):=h
def zbg.Kac(h:p:=by open zf8 in exact Zet):=h
theorem Xt(c:PC)(w0:t_)(gp:Nat)(r:Rest)(op:Int)(xv:Val)(name:u_)(width:Int)(args:vI)(z:Ex)(s:dE)(u v:Value)(ya:v_)(w:t_)(hf:c.aG.findIdx? (λ g=>g.same (.mk op xv name width args))=none)(ha:isAgg op=false)(ih:∀a∈args,R6 c w0 gp r a)(bc:c.Ok w0)(gL:(Tr.mk op xv name width args).ok)(hat:(Tr.mk op xv name width args).at_ w0 (Old w0) z)(pd:eU c w0 gp r w u v ya s)(hlen:s.aG.length+s.aD.length+2*(Tr.mk op xv name width args).nodes<=1000000):
  ar 99 #[aw gp,.agg (ay z)] w (sP c w0 gp r u v w ((Tr.mk op xv name width args).turn c.aG c.cols s)):=by
 obtain⟨t,ht⟩:∃t,t=Tr.mk op xv name width args:=⟨_,rfl⟩;have ajs:t.op=op:=by rw[ht];rfl
 have HIH:=aa ih;have HLEN:=aa hlen;have HHT:=aa ht;obtain⟨X,hX⟩:∃X,X=t.turn c.aG c.cols s:=⟨_,rfl⟩;have hXn:=hX;rw[ht,uf,hf]at hXn;dsimp only at hXn;rw[if_neg (by rw[ha];decide)]at hXn;have HX_:=aa hXn;have HF:=aa (jd c.aG c.cols t s);rw[<-hX]at HF;rw[<-ht]at hf gL hat⊢;rw[<-hX];clear ht hX hXn ih hlen;open zbg in exact Zau
theorem aec(c:PC)(w0:t_)(gp:Nat)(r:Rest)(bc:c.Ok w0):∀t,R6 c w0 gp r t:=by
 refine Tr.ind ?_;intro op xv name width args ih z s u v ya w gL hat pd hlen;cases hf:c.aG.findIdx? (λ g=>g.same (.mk op xv name width args))with
 |some k=>have h:=RY c w0 gp r _ z s u v ya w k hf bc gL hat pd;rw[uf,hf];exact h
 |none=>
   have hn:1<=(Tr.mk op xv name width args).nodes:=by rw[Tr.nodes];omega
   cases ha:isAgg op with
   |false=>exact Xt c w0 gp r op xv name width args z s u v ya w hf ha ih bc gL hat pd hlen
   |true=>
     obtain⟨q,hq⟩:∃q,q=gJ c.cols op args:=⟨_,rfl⟩;obtain⟨ty,er⟩:=q;rw[uf,hf];dsimp only;rw[if_pos ha,<-hq];dsimp only;by_cases her:er=0;subst her;rw[if_neg Tab];exact Oa c w0 gp r _ z s u v ya w hf ha ty hq.symm WC bc gL hat pd;rw[if_pos her];exact KE c w0 gp r _ z s u v ya w hf ha ty er hq.symm her bc gL hat pd
def ownPost(c:PC)(w0:t_)(gp:Nat)(r:Rest)(u v:Value)(w:t_)(x:uC (Tr×Int×dE))(e:Ending)(w':t_):Prop:=
 match x with
 |.error er=>∃(y:Ex) (ty:Int) (u' v':Value),e=.returned (.tuple #[.agg (ay y),ag ty,af er])/\ik gp w u v w' u' v'
 |.ok (t,ty,s)=>∃y u' v' ya,e=.returned (.tuple #[.agg (ay y),ag ty,af 0])/\t.at_ w' (λ b=>(b<w0.heap.size\/w.heap.size<=b)/\Kp w' gp [u',v'] b) y/\eU c w0 gp r w' u' v' ya s/\ik gp w u v w' u' v'
variable{w0:t_}{ya:v_}
theorem eU.U1{c:PC}{r:Rest}(h:eU c w0 gp r w u v ya s)(hat:t.at_ w0 (Old w0) z):t.at_ w (λ b=>b<w0.heap.size/\Kp w gp [u,v] b) z:=
 Tr.at_.keep (λ b hb=>⟨λ o=>h.base.cell (p:=⟨b,o,none⟩) hb,hb,eG.2 ⟨eS hb h.base.size,λ e=>by have:=h.low;have:b<w0.heap.size:=hb;omega,λ e=>by have:=h.kp9 b e;have:b<w0.heap.size:=hb;omega,λ e=>by have:=h.avK b e;have:b<w0.heap.size:=hb;omega⟩⟩) t z hat
def zbS.Kaj(h:p:=by refine bodyPost_ret (v:=.tuple #[.agg (ay z),ag ty,af er]) Taw rfl ?_;by_cases her:er=0;subst her;have Oi:=wh.ae;rw[if_neg Tab]at Oi;rw[Oi];refine⟨z,u,v,ya,rfl,?_,LJ.ae.aside lC Oj.ae Tbg,((ik.refl gp w u v).later apF.ae).own lC nD.ae⟩;exact Tr.at_.keep (λ b hb=>⟨λ o=>bI (lC.block b hb.2.1 (λ e=>by injection e with e;have:=hb.1;have:=qG.ae.base.size;have:=nD.ae;omega)) o,.inl hb.1,hb.2.size lC.size⟩) t z (LJ.ae.U1 Cb.ae);have Oi:=wh.ae;rw[if_pos her]at Oi;rw[Oi];exact⟨z,ty,_,_,rfl,((ik.refl gp w u v).later apF.ae).own lC nD.ae⟩):=h
def zcC.Kat(h:p:=by
 have Ig:=NY.frozen;clear k1 NY;go_wp2_with fail;clear z0 z1 x2 x3 x4 x5 x6 y0 y1 c2 y3 y4 y5 y6 Ig;generalize vG:World.setCell _ _ _=W9;have hR:aB W9 g4 46 (ay z):=by rw[<-vG];simpa using(((((((Ae.ae.aW 0 _).aW 1 _).aW 2 _).aW 3 _).aW 4 _).aW 5 _).aW 6 _)
 have lC:W3.grownBy W9 (some g4):=by rw[<-vG];exact aF (aF (aF (aF (aF (aF (aF (aQ cX) _ _) _ _) _ _) _ _) _ _) _ _) _ _
 open zbS in exact ZaE):=h
def zbo.Kae(h:p:=by have NY:=Ae.ae;open zcC in exact Zbc):=h
def zga.Kbz(h:p:=by refine bodyPost_ret (v:=.tuple #[.agg (ay Kx),ag 0,af er]) Taw rfl ?_;rw[aed.ae];exact⟨Kx,0,_,_,rfl,HG.ae.own lC nD.ae⟩):=h
def zcD.Kat(h:p:=by
 have Ig:=NY.frozen;clear k1 NY Xz;go_wp2_with fail;clear z0 z1 x2 x3 x4 x5 x6 y0 y1 c2 y3 y4 y5 y6 Ig hne;generalize hWX:World.setCell _ _ _=WX;have hR:aB WX g4 46 (ay Kx):=by rw[<-hWX];simpa using(((((((Ae.ae.aW 0 _).aW 1 _).aW 2 _).aW 3 _).aW 4 _).aW 5 _).aW 6 _)
 have lC:W9.grownBy WX (some g4):=by rw[<-hWX];exact aF (aF (aF (aF (aF (aF (aF (aQ cX) _ _) _ _) _ _) _ _) _ _) _ _) _ _
 open zga in exact Zex):=h
def zgb.Kbz(h:p:=by refine bodyPost_ret (v:=.tuple #[.agg (ay Kx),ag ty,af er]) Taw rfl ?_;by_cases her:er=0;subst her;have Oi:=aed.ae;rw[if_neg Tab]at Oi;rw[Oi];refine⟨Kx,u',_,T7,rfl,?_,Sv.ae.aside lC HK8.ae Tbg,wk.ae.own lC nD.ae⟩;exact Tr.at_.keep (λ b hb=>⟨λ o=>bI (lC.block b hb.2.1 (λ e=>by injection e with e;have:=hb.1;have:=HWS.ae;omega)) o,.inr (by have:=hb.1;have:=HWS.ae;omega),hb.2.size lC.size⟩) t1 Kx awd.ae;have Oi:=aed.ae;rw[if_pos her]at Oi;rw[Oi];exact⟨Kx,ty,_,_,rfl,wk.ae.own lC nD.ae⟩):=h
def zcE.Kat(h:p:=by
 have Ig:=NY.frozen;clear k1 NY;go_wp2_with fail;clear z0 z1 x2 x3 x4 x5 x6 y0 y1 c2 y3 y4 y5 y6 Ig hne;generalize hWX:World.setCell _ _ _=WX;have hR:aB WX g4 46 (ay Kx):=by rw[<-hWX];simpa using(((((((BA.ae.aW 0 _).aW 1 _).aW 2 _).aW 3 _).aW 4 _).aW 5 _).aW 6 _)
 have lC:W3.grownBy WX (some g4):=by rw[<-hWX];exact aF (aF (aF (aF (aF (aF (aF (aQ cX) _ _) _ _) _ _) _ _) _ _) _ _) _ _
 open zgb in exact Zex):=h
def zeu.KaV(h:p:=by have Sv:=aa (LJ.ae.later hL);have wk:=aa (HG.ae.later hL);have awd:=aa (((ik.refl gp W9 u' (.slice VA s1.aG.length vc)).later hL).tree HYA.ae);have HK8:=aa (Oj.ae.size hL.size);clear hL XE Ae LJ HG HYA Oj Pw yC;have hne:=oD.ae;have k1:=UI.ae;have z0:=k1.cell 0;have z1:=k1.cell 1;have x2:=k1.cell 2;have x3:=k1.cell 3;have x4:=k1.cell 4;have x5:=k1.cell 5;have x6:=k1.cell 6;simp only[Uaa]at z0 z1 x2 x3 x4 x5 x6;have NY:=BA.ae;open zcE in exact Zbc):=h
def zbp.Kae(h:p:=by
 clear k1;go_wp2_with fail;clear z0 z1 x2 x3 x4 x5 x6 c10;refine(aec c w0 gp r iT.ae t z s u v ya W lq.ae Cb.ae ud.ae HLEN.ae).mono ?_;intro e w6 hp;have wA:=aa (jd c.aG c.cols t s);cases hr:Tr.turn c.aG c.cols t s with
 |error er=>
   have kF:=wh.ae;rw[hr]at hp wA kF;obtain⟨Kx,u',v',rfl,hst⟩:=hp;have her:=wA.ae.err _ rfl;have aed:=aa (show X=.error er from kF);have t1:(er != 0)=true:=by simp[her]
   have bg:=ah w6 (.cells (ay Kx) 46);have Xz:=aB.new w6 46 (ay Kx);have Ae:=aa ((hst.blk uv.ae Ef.ae).later bg);have HG:=aa ((((ik.refl gp w u v).later Bf.ae).trans hst).later bg);have oD:=aa (show g4≠w6.heap.size by have:=uv.ae.lt;have:=hst.size;omega);clear kF hr her hst wh bg;go_upto_region 5 with fail;generalize w6.alloc (.cells (ay Kx) 46)=W9 at*;generalize w6.heap.size=g9 at*;have hne:=oD.ae;have k1:=Xz;have z0:=k1.cell 0;have z1:=k1.cell 1;have x2:=k1.cell 2;have x3:=k1.cell 3;have x4:=k1.cell 4;have x5:=k1.cell 5;have x6:=k1.cell 6;simp only[Uaa]at z0 z1 x2 x3 x4 x5 x6;have NY:=Ae.ae;open zcD in exact Zbc
 |ok q=>
   obtain⟨t1,s1⟩:=q;have kF:=wh.ae;rw[hr]at hp wA kF;obtain⟨Kx,u',v',T7,rfl,vJ,qK,hst⟩:=hp;have bg:=ah w6 (.cells (ay Kx) 46);have Xz:=aB.new w6 46 (ay Kx);have Ae:=aa ((hst.blk uv.ae Ef.ae).later bg);have Oj:=aa ((hst.kp Ef.ae).size bg.size);have HG:=aa ((((ik.refl gp w u v).later Bf.ae).trans hst).later bg);have LJ:=aa (qK.later bg);have HYA:=aa (((ik.refl gp w6 u' v').later bg).tree vJ);have oD:=aa (show g4≠w6.heap.size by have:=uv.ae.lt;have:=hst.size;omega);have HWS:=aa (show g4<W.heap.size/\w.heap.size<=W.heap.size from⟨uv.ae.lt,Bf.ae.size⟩);clear hr hst qK vJ bg;go_upto_region 5 with fail;generalize w6.alloc (.cells (ay Kx) 46)=W9 at*;generalize w6.heap.size=g9 at*;have XE:=aa Xz;clear Xz;obtain⟨VA,vc,PJ,_⟩:=LJ.ae.dM.reads;subst PJ;have iB:=LJ.ae.blk;unfold PC.cells at iB;have Pw:=aa (show W9.cell? ⟨gp,10,none⟩=some (.slice VA s1.aG.length vc)from by have:=iB.cell 10;simpa using this)
   have Sh:=aa iB.lt;have Br:s1.aG.length<=140737488355328:=by have h1:=wA.ae.len _ _ rfl;have h2:=HLEN.ae;omega
   have yC:=aa (Tr.pO (cols:=s1.aG) (CA:=VA) (cc:=vc) Br t1 Kx W9 (wA.ae.ok _ _ rfl lq.ae) (P6 HYA.ae) (S8 LJ.ae.dM));generalize KK:t1.type s1.aG=R at*;obtain⟨ty,er⟩:=R;dsimp only at kF yC;have aed:=aa kF;clear KK kF iB Br wh;go_wp2_with fail;open zeu in exact ZcF):=h
def zeI.KaZ(h:p:=by
 have hk4:=qG.ae.fresh (w2:=W) nD.ae uv.ae.lt;have Ef:=aa hk4;have vK:=aa (qG.ae.fresh (w2:=W) KD.ae Ie.ae.lt);clear hk4;cases hg:c.aJ with
 |false=>
   rw[hg]at c10;have kF:=HX_.ae;unfold pZ at kF;rw[hg,if_pos rfl]at kF;have Pw:=aa c4;have Sh:=aa ud.ae.blk.lt;have yC:=aa (Tr.pO (cols:=c.cols) (CA:=c.cA) (cc:=c.cc) Tbe t z W lq.ae (Cb.ae.later ud.ae.base) (iT.ae.cols.later ud.ae.base));generalize KK:t.type c.cols=R at*;obtain⟨ty,er⟩:=R;dsimp only at kF yC;have wh:=aa kF;clear KK kF c4 c8 hg;go_wp2_with fail;clear c10;refine bD 11 (Ik gp 8 c.cA c.cols.length c.cc ty er z) (oa _ _ _ _ _ _ _ _) Taa Taa Taa ?_ ?_
   ·simp only[take_succ_cons,take_zero];refine⟨ZhZ,Zaa,Zaa,Zaa,Zcu,?_,Zaa,Zaa,Zaa,Zaa,Zaa,trivial⟩
    ·intro ρ W4 hc hL hr;have h0:_=_:=hr.1;have h1:_=_:=hr.2.1;have e1:=hc.func 59;refine bu (f:=59) (args:= #[.agg (ay z),.slice c.cA c.cols.length c.cc]) (w':=W4) Tat ?_;exact ZgZ
   intro W3 hL;simp only[Uab];rintro a0-a1-a2-a3-a4-a5-a6-a7-a8-_ rfl _ rfl;simp only[bw,Act.put,Uac];have BW:=aa (Ie.ae.later hL);have Ae:=aa (uv.ae.later hL);have LJ:=aa (ud.ae.later hL);have apF:=aa (aj.then Bf.ae hL);have Oj:=aa (Ef.ae.size hL.size);clear hL Ie uv ud Bf Pw yC Ef vK;have k1:=BW.ae;open zbo in exact Zay
 |true=>rw[hg]at c10;have kF:=HX_.ae;unfold pZ at kF;rw[hg,if_neg Tab]at kF;have wh:=aa kF;clear kF c4 c8 hg HX_;have k1:=Ie.ae;open zbp in exact Zay):=h
def zib.Kcl(h:p:=by go_enter func61,ntmps61;open zeI in exact ZcL):=h
def zfi.Kbc(h:p:=by have c4:=iB.cell 8;have c10:=iB.cell 11;have c8:=iB.cell 10;open zib in exact Zg8):=h
theorem Ek(c:PC)(w0:t_)(gp:Nat)(r:Rest)(t:Tr)(z:Ex)(s:dE)(u v:Value)(ya:v_)(w:t_)(bc:c.Ok w0)(gL:t.ok)(hat:t.at_ w0 (Old w0) z)(pd:eU c w0 gp r w u v ya s)(hlen:s.aG.length+s.aD.length+2*t.nodes<=1000000):
  ar 61 #[aw gp,.agg (ay z)] w (ownPost c w0 gp r u v w (pZ c.aJ c.aG c.cols t s)):=by have HLEN:=aa hlen;clear hlen;obtain⟨X,hX⟩:∃X,X=pZ c.aJ c.aG c.cols t s:=⟨_,rfl⟩;rw[<-hX];have HX_:=aa hX;clear hX;open zfi in exact Zdq
variable{ρ:Operand->Value}{T:Value->t_->Prop}
def zeH.KaY(h:p:=by unfold uj execOp;simp only[ho,hp,hx,Instr.storeAt,Instr.sureAddr,Sem.run_bind,Sem.run_pure,Result.andThen_ok,hrun];refine h _ ⟨?_,.inr ⟨q,c,_,?_,hb,setRow_heap w q cur _ e (0,0) hg,?_,hm,?_,?_⟩⟩ ⟨rfl,rfl,rfl,by simp[World.setRow],λ k hk hne=>setRow_other w q k _ (λ e=>hne Ta5)⟩;rw[Ih hf];rw[e2,length_set];rw[length_set];exact hn;rw[<-hs];simp[hf];omega;exact ZbT):=h
theorem FX{f:α->xr}{size base:Nat}{y:α}{o:Oper}(ty:TypeId)(p x:Operand)(ho:o.op=.store ty p x)
  (q n c i:Nat) (hf:∀x,(f x).length=size) (hown:aH f e size w base (aL q n c) l) (qQ:i<l.length) (hp:ρ p=aY q (i*size)) (hx:ρ x=.agg (f y).toArray)
  (hi:(P.info? ty).map (·.size)=some size) (h1:(f y).toArray.all (·.oneCell')=true)
  (h:∀w',aH f e size w' base (aL q n c) (l.set i y)->w.grownBy w' (some q)->T undef w'):uj P o ρ w T:=by
 rcases hown.2 with⟨hv,_⟩|⟨g,cap,cur,hv,hb,hg,hn,hm,hs,ht⟩
 cases hv
 open zeH in exact ZcK
theorem Em{f:α->xr}{size base:Nat}{z y:α}{o:Oper}(ty:TypeId)(p x:Operand)(ho:o.op=.store ty p x)
  (q n c:Nat) (hf:∀x,(f x).length=size) (hown:aH f e size w base (aL q n c) (l++[z])) (hp:ρ p=aY q (l.length*size)) (hx:ρ x=.agg (f y).toArray)
  (hi:(P.info? ty).map (·.size)=some size) (h1:(f y).toArray.all (·.oneCell')=true)
  (h:∀w',aH f e size w' base (aL q n c) (l++[y])->w.grownBy w' (some q)->T undef w'):uj P o ρ w T:=by
 refine FX ty p x ho q n c l.length hf hown Tad hp hx hi h1 λ w' h1 h2=>h w' ?_ h2;exact ZhX
variable{V V':Nat->t_->Value->Prop}{K:Act->t_->Prop}
theorem bw.weaken:∀{l:List Oper}{k:Nat}{a:Act}{w:t_},(∀i w v,V' i w v->V i w v)->bw V K l k a w->bw V' K l k a w:=by
 intro l
 induction l with
 |nil=>intro k a w _ h;exact h
 |cons o l ih=>
   intro k a w hv h;unfold bw at h⊢;revert h;cases o.dst with
   |none=>intro h;exact ih hv h
   |some d=>intro h;exact λ x hx=>ih hv (h x (hv _ _ _ hx))
structure LaA (W:t_) (z:Option Value) (w:t_):Prop where
 below:ai W w
 zero:∀x,z=some x->∃g0,x=aL g0 1 1/\aB w g0 46 (bH xN).toArray
structure LaB (gp k B:Nat) (W:t_) (cs:x_) (r:Value) (ys:v_) (y:Ex) (a:Value) (s p:Bool) (w:t_):Prop where
 row:∃q c,a=.slice (some ⟨q,0,none⟩) (ys.length+1) c/\q≠gp
 own:aH bH 46 7 w B a (ys++[if s=true then y else xN])
 blk:aB w gp 81 (if p=true then cs.setIfInBounds k a else cs)
 far:∀b,b<W.heap.size->b≠gp->r.ownBlock≠some b->w.heap[b]?=W.heap[b]?
 os:w.os=W.os
 tape:w.tape=W.tape
 output:w.output=W.output
 size:W.heap.size<=w.heap.size
 mv:Mv W r a
variable{W:t_}{r:Value}
theorem LaB.later{k:Nat}{a:Value}{y:Ex}{s p:Bool}(h:LaB gp k B W cs r ys y a s p w)(hb:ai w w'):LaB gp k B W cs r ys y a s p w':=
 ⟨h.row,h.own.later hb,h.blk.later hb,λ b h1 h2 h3=>(hb.block b (eS h1 h.size)).trans (h.far b h1 h2 h3),hb.os.trans h.os,hb.tape.trans h.tape,hb.output.trans h.output,fK h.size hb.size,h.mv⟩
def apI(o0 o1 o2 o3 o4 o5 o6 o7 o8 o9 rJ yG wB:Oper)(s0 s1 d0 d1 d2 d3 d4 d5 d6 d7 d8 d10 d11:Tmp):Bool:=
 (tmpsOf o0== [s0])&&(cY [o0,o1,o2,o3,o4,o5,o6,o7,o8,o9,rJ,yG,wB] o0 s0==none)&&(tmpsOf o1== [d0])&&(cY [o0,o1,o2,o3,o4,o5,o6,o7,o8,o9,rJ,yG,wB] o1 d0==some 0)&&(tmpsOf o2== [d1])&&(cY [o0,o1,o2,o3,o4,o5,o6,o7,o8,o9,rJ,yG,wB] o2 d1==some 1)&&(tmpsOf o3== [d2])&&(cY [o0,o1,o2,o3,o4,o5,o6,o7,o8,o9,rJ,yG,wB] o3 d2==some 2)&&(tmpsOf o4== [s1])&&(cY [o0,o1,o2,o3,o4,o5,o6,o7,o8,o9,rJ,yG,wB] o4 s1==none)&&(tmpsOf o5== [d3])&&(cY [o0,o1,o2,o3,o4,o5,o6,o7,o8,o9,rJ,yG,wB] o5 d3==some 3)&&(tmpsOf o6== [])&&(tmpsOf o7== [d3,d6])&&(cY [o0,o1,o2,o3,o4,o5,o6,o7,o8,o9,rJ,yG,wB] o7 d3==some 3)&&(cY [o0,o1,o2,o3,o4,o5,o6,o7,o8,o9,rJ,yG,wB] o7 d6==some 6)&&(tmpsOf o8== [d7,d5])&&(cY [o0,o1,o2,o3,o4,o5,o6,o7,o8,o9,rJ,yG,wB] o8 d7==some 7)&&(cY [o0,o1,o2,o3,o4,o5,o6,o7,o8,o9,rJ,yG,wB] o8 d5==some 5)&&(tmpsOf o9== [d8,d4])&&(cY [o0,o1,o2,o3,o4,o5,o6,o7,o8,o9,rJ,yG,wB] o9 d8==some 8)&&(cY [o0,o1,o2,o3,o4,o5,o6,o7,o8,o9,rJ,yG,wB] o9 d4==some 4)&&(tmpsOf rJ== [d0])&&(cY [o0,o1,o2,o3,o4,o5,o6,o7,o8,o9,rJ,yG,wB] rJ d0==some 0)&&(tmpsOf yG== [d10])&&(cY [o0,o1,o2,o3,o4,o5,o6,o7,o8,o9,rJ,yG,wB] yG d10==some 10)&&(tmpsOf wB== [d11,d7])&&(cY [o0,o1,o2,o3,o4,o5,o6,o7,o8,o9,rJ,yG,wB] wB d11==some 11)&&(cY [o0,o1,o2,o3,o4,o5,o6,o7,o8,o9,rJ,yG,wB] wB d7==some 7)&&o0.guard.isNone&&o1.guard.isNone&&o2.guard.isNone&&o3.guard.isNone&&o4.guard.isNone&&o5.guard.isNone&&o6.guard.isNone&&o7.guard.isNone&&o8.guard.isNone&&o9.guard.isNone&&rJ.guard.isNone&&yG.guard.isNone&&wB.guard.isNone&&iM o7 3&&iM o7 6&&iM o8 7&&iM o9 7&&iM wB 7
def Bz(gp k B:Nat)(W:t_)(cs:x_)(r:Value)(ys:v_)(y:Ex)(σ:Nat->Option Value)(w:t_):Prop:=
 match σ 7 with
 |none=>σ 8=none/\σ 9=none/\σ 12=none/\(∀x,σ 3=some x->x=r)/\LaA W (σ 6) w
 |some a=>(σ 3).isSome=true/\(σ 6).isSome=true/\(∀x,σ 3=some x->x=r)/\LaB gp k B W cs r ys y a (σ 9).isSome (σ 12).isSome w/\∀x,σ 8=some x->∃G cap,a=.slice (some ⟨G,0,none⟩) (ys.length+1) cap/\x=.pointer (some ⟨G,ys.length*7,none⟩)
theorem U2{k:Nat}{y:Ex}(σ:Nat->Option Value)(w:t_)(h:Bz gp k B W cs r ys y σ w):Bz gp k B W cs r ys y σ w.drew:=by
 have hb:ai w w.drew:=cX.drew;unfold Bz at*;cases ha:σ 7 with
 |none=>rw[ha]at h;obtain⟨h1,h2,h3,h4,h5⟩:=h;exact⟨h1,h2,h3,h4,⟨Below.trans h5.below (hb.mono h5.below.size),λ x hx=>by obtain⟨g0,k1,k2⟩:=h5.zero x hx;exact⟨g0,k1,k2.later hb⟩⟩⟩
 |some a=>rw[ha]at h;obtain⟨h1,h2,h3,h4,h5⟩:=h;exact⟨h1,h2,h3,h4.later hb,h5⟩
section
variable{gp k B gx:Nat}{W:t_}{cs:x_}{r:Value}{ys:v_}{y:Ex}{Q:y_}{a0:Act}{id:Nat}{o0 o1 o2 o3 o4 o5 o6 o7 o8 o9 rJ yG wB:Oper}{s0 s1 d0 d1 d2 d3 d4 d5 d6 d7 d8 d10 d11:Tmp}
def zh8.Kck(h:p:=by rw[ha]at r0;injection r0 with r0;refine aq (h8 ρ w q c (r0.symm.trans e1) r1) ?_;show Bz gp k B W cs r ys y _ _;unfold Bz;simp only[jr,ha,kW,Nat.reduceEqDiff,if_true,if_false];exact⟨k1,k2,k3,Ax,λ x e=>by injection e with e;exact⟨q,c,e1,e.symm⟩⟩):=h
def zh9.Kck(h:p:=by obtain⟨G2,ahQ,e7,e8⟩:=k5 _ r0;rw[kW]at Ax;have ho:=Ax.own;rw[e7]at ho e1;injection e1 with e1 _ e3;injection e1 with e1;injection e1 with e1 _ _;subst e1 e3;refine Em 46 (.tmp d8) (.tmp d4) h9 G2 (ys.length+1) ahQ (f:=bH) (y:=y) (l:=ys) (λ _=>rfl) ho e8 r1 Taa TaF ?_;intro w' Cn Tz;show Bz gp k B W cs r ys y _ _;unfold Bz;simp only[jr,ha,Nat.reduceEqDiff,if_true,if_false,Option.isSome_some];refine⟨k1,k2,k3,⟨⟨G2,ahQ,e7,e2⟩,by rw[e7];exact Cn,Ax.blk.grown Tz (λ e=>by injection e with e;exact e2 e.symm),λ b h1 h2 h3=>?_,Tz.os.trans Ax.os,Tz.tape.trans Ax.tape,Tz.output.trans Ax.output,fK Ax.size Tz.size,Ax.mv⟩,k5⟩;refine(Tz.block b (eS h1 Ax.size) λ e=>?_).trans (Ax.far b h1 h2 h3);injection e with e;rcases Ax.mv with h|h;rw[e7]at h;exact h3 (by rw[<-h,e];rfl);have:=h G2 (by rw[e7];rfl);omega):=h
def zia.Kck(h:p:=by rw[ha]at r1;injection r1 with r1;rw[kW]at Ax;have kJ:aB w gp 81 cs:=Ax.blk;have hrun:=h12 ρ w (some ⟨q,0,none⟩) (ys.length+1) c r0 (r1.symm.trans e1) (by rw[kJ.cell];exact hcs) (kJ.frozen _);unfold uj;rw[hrun];show Bz gp k B W cs r ys y _ _;unfold Bz;simp only[jr,ha,Nat.reduceEqDiff,if_true,if_false,Option.isSome_some];have apP:=Ax.own;refine⟨k1,k2,k3,⟨⟨q,c,e1,e2⟩,apP.keep λ g hg2=>Below.heap_setCell w ⟨gp,k,none⟩ _ g λ e=>?_,by rw[<-e1];exact kJ.aW k a,λ b h1 h2 h3=>(Below.heap_setCell w ⟨gp,k,none⟩ _ b h2).trans (Ax.far b h1 h2 h3),Ax.os,Ax.tape,Ax.output,by rw[World.size_setCell];exact Ax.size,Ax.mv⟩,k5⟩;rw[e1]at hg2;injection hg2 with hg2;exact e2 (hg2.trans e)):=h
theorem Im(hm:prog.follows .mixedOrders=true)(bc:dC [o0,o1,o2,o3,o4,o5,o6,o7,o8,o9,rJ,yG,wB] a0.tmps.size [o0,o1,o2,o3,o4,o5,o6,o7,o8,o9,rJ,yG,wB] 0=true)(Dn:apI o0 o1 o2 o3 o4 o5 o6 o7 o8 o9 rJ yG wB s0 s1 d0 d1 d2 d3 d4 d5 d6 d7 d8 d10 d11=true)
  (es0:a0.eval (.tmp s0)=.pointer (some ⟨gp,0,none⟩)) (es1:a0.eval (.tmp s1)=.pointer (some ⟨gx,0,none⟩))
  (h0:∀ρ w,ρ (.tmp s0)=.pointer (some ⟨gp,0,none⟩)->(execOp ρ o0).run prog w=.ok (.value (.pointer (some ⟨gp,0,none⟩))) w)
  (h1:∀ρ w,ρ (.tmp d0)=.pointer (some ⟨gp,0,none⟩)->(execOp ρ o1).run prog w=.ok (.value (.pointer (some ⟨gp,0,none⟩))) w)
  (h2:∀ρ w,ρ (.tmp d1)=.pointer (some ⟨gp,0,none⟩)->(execOp ρ o2).run prog w=.ok (.value (.pointer (some ⟨gp,k,none⟩))) w)
  (h3:∀ρ w,ρ (.tmp d2)=.pointer (some ⟨gp,k,none⟩)->w.cell? ⟨gp,k,none⟩=some r->(execOp ρ o3).run prog w=.ok (.value (r)) w)
  (h4:∀ρ w,ρ (.tmp s1)=.pointer (some ⟨gx,0,none⟩)->aB w gx 46 (bH y).toArray->(execOp ρ o4).run prog w=.ok (.value (.agg (bH y).toArray)) w)
  (h5:∀ρ w,ρ (.tmp d3)=r->(execOp ρ o5).run prog w=.ok (.value (.int .i64 (ys.length:Int))) w)
  (h6:∀ρ w,gD ρ->(execOp ρ o6).run prog w=.ok (.value (.slice (some ⟨w.heap.size,0,none⟩) 1 1)) (w.alloc (.cells (bH xN).toArray 46)))
  (h7:∀ρ w x v' w',ρ (.tmp d3)=r->ρ (.tmp d6)=x->(Builtin.append_ #[23,23] 23 #[r,x]).run prog w=.ok v' w'->(execOp ρ o7).run prog w=.ok (.value v') w')
  (h8:∀ρ w G cap,ρ (.tmp d7)=.slice (some ⟨G,0,none⟩) (ys.length+1) cap->ρ (.tmp d5)=.int .i64 (ys.length:Int)->(execOp ρ o8).run prog w=.ok (.value (.pointer (some ⟨G,ys.length*7,none⟩))) w)
  (h9:o9.op=.store 46 (.tmp d8) (.tmp d4))
  (h10:∀ρ w,ρ (.tmp d0)=.pointer (some ⟨gp,0,none⟩)->(execOp ρ rJ).run prog w=.ok (.value (.pointer (some ⟨gp,0,none⟩))) w)
  (h11:∀ρ w,ρ (.tmp d10)=.pointer (some ⟨gp,0,none⟩)->(execOp ρ yG).run prog w=.ok (.value (.pointer (some ⟨gp,k,none⟩))) w)
  (h12:∀ρ w A m c,ρ (.tmp d11)=.pointer (some ⟨gp,k,none⟩)->ρ (.tmp d7)=.slice A m c->w.cell? ⟨gp,k,none⟩=some r->w.frozen? ⟨gp,k,none⟩=false->(execOp ρ wB).run prog w=.ok .skip (w.setCell ⟨gp,k,none⟩ (.slice A m c)))
  (hcs:cs[k]?=some r) (hB:B<=W.heap.size) (hblk:aB W gp 81 cs) (hown:aH bH 46 7 W B r ys) (hlen:ys.length<=1000000)
  (hgx:aB W gx 46 (bH y).toArray) (hxg:gx≠gp) (hxr:r.ownBlock≠some gx)
  (mO:∀a w,LaB gp k B W cs r ys y a true true w->bw (λ _ _ _=>True) (λ a w=>wpList prog [o0,o1,o2,o3,o4,o5,o6,o7,o8,o9,rJ,yG,wB].toArray Q [] a w) [o0,o1,o2,o3,o4,o5,o6,o7,o8,o9,rJ,yG,wB] 0 a0 w):
  (Code.region id [o0,o1,o2,o3,o4,o5,o6,o7,o8,o9,rJ,yG,wB].toArray true).wp prog Q a0 W:=by
 simp only[apI,Bool.and_eq_true,beq_iff_eq,Option.isNone_iff_eq_none]at Dn;obtain⟨⟨⟨⟨⟨⟨⟨⟨⟨⟨⟨⟨⟨⟨⟨⟨⟨⟨⟨⟨⟨⟨⟨⟨⟨⟨⟨⟨⟨⟨⟨⟨⟨⟨⟨⟨⟨⟨⟨⟨⟨⟨⟨⟨⟨⟨t0,awg⟩,t1⟩,awh⟩,t2⟩,awi⟩,t3⟩,awj⟩,t4⟩,awk⟩,t5⟩,awl⟩,t6⟩,t7⟩,awm⟩,awn⟩,t8⟩,awo⟩,awp⟩,t9⟩,awq⟩,awr⟩,t10⟩,apK⟩,t11⟩,apL⟩,t12⟩,apM⟩,apN⟩,g0⟩,g1⟩,g2⟩,g3⟩,g4⟩,g5⟩,g6⟩,g7⟩,g8⟩,g9⟩,g10⟩,g11⟩,g12⟩,aws⟩,aDH⟩,awt⟩,awu⟩,apO⟩:=Dn;refine kU [] [o0,o1,o2,o3,o4,o5,o6,o7,o8,o9,rJ,yG,wB] Tad (λ i=>if i=0 then .pointer (some ⟨gp,0,none⟩)else if i=1 then .pointer (some ⟨gp,0,none⟩)else if i=2 then .pointer (some ⟨gp,k,none⟩)else if i=4 then(.agg (bH y).toArray)else if i=5 then .int .i64 (ys.length:Int)else if i=10 then .pointer (some ⟨gp,0,none⟩)else if i=11 then .pointer (some ⟨gp,k,none⟩)else undef) [3,6,7,8,9,12] (Bz gp k B W cs r ys y) U2 ⟨rfl,rfl,rfl,(λ x e=>by cases e),⟨cX,λ x e=>by cases e⟩⟩ hm bc rfl rfl ?_ ?_
 ·refine⟨?_,?_,?_,?_,?_,?_,?_,?_,?_,?_,?_,?_,?_,trivial⟩
  ·intro ρ w σ hc hG hr he hno;rw[t0]at hr;have r0:=hr.1;simp only[awg]at r0;refine⟨g0,?_⟩;exact h0 ρ w (r0.trans es0)
  intro ρ w σ hc hG hr he hno;rw[t1]at hr;have r0:=hr.1;simp only[awh]at r0;unfold kS at r0;rw[if_neg Tab]at r0;refine⟨g1,?_⟩;exact h1 ρ w r0;intro ρ w σ hc hG hr he hno;rw[t2]at hr;have r0:=hr.1;simp only[awi]at r0;unfold kS at r0;rw[if_neg Tab]at r0;refine⟨g2,?_⟩;exact h2 ρ w r0
  ·intro ρ w σ hc hG hr he hno;rw[t3]at hr;have r0:=hr.1;simp only[awj]at r0;unfold kS at r0;rw[if_neg Tab]at r0;refine⟨g3,?_⟩;rw[if_pos Tab];have kW:=hno Tab;unfold Bz at hG
   have ha:σ 7=none:=by
    cases ha:σ 7 with
    |none=>rfl
    |some a=>rw[ha]at hG;have:=hG.1;rw[kW]at this;cases this
   rw[ha]at hG;obtain⟨k1,k2,k3,k4,hA⟩:=hG;refine aq (h3 ρ w r0 ?_) ?_;rw[(hblk.later hA.below).cell];exact hcs;show Bz gp k B W cs r ys y _ _;unfold Bz;simp only[jr,ha,k1,k2,k3,Nat.reduceEqDiff,if_true,if_false];exact⟨trivial,trivial,trivial,λ x e=>by injection e with e;exact e.symm,hA⟩
  ·intro ρ w σ hc hG hr he hno;rw[t4]at hr;have r0:=hr.1;simp only[awk]at r0;refine⟨g4,?_⟩;refine h4 ρ w (r0.trans es1) ?_;unfold Bz at hG
   cases ha:σ 7 with
   |none=>rw[ha]at hG;exact hgx.later hG.2.2.2.2.below
   |some a=>rw[ha]at hG;exact(hG.2.2.2.1.far gx hgx.lt hxg hxr).trans hgx
  ·intro ρ w σ hc hG hr he hno;rw[t5]at hr;have r0:=hr.1;simp only[awl]at r0;unfold kS at r0;rw[if_pos Tab]at r0;refine⟨g5,?_⟩;refine h5 ρ w ?_;unfold Bz at hG
   cases ha:σ 7 with
   |none=>rw[ha]at hG;exact hG.2.2.2.1 _ r0
   |some a=>rw[ha]at hG;exact hG.2.2.1 _ r0
  ·intro ρ w σ hc hG hr he hno;rw[t6]at hr;refine⟨g6,?_⟩;rw[if_pos Tab];have kW:=hno Tab;unfold Bz at hG
   have ha:σ 7=none:=by
    cases ha:σ 7 with
    |none=>rfl
    |some a=>rw[ha]at hG;have:=hG.2.1;rw[kW]at this;cases this
   rw[ha]at hG;obtain⟨k1,k2,k3,k4,hA⟩:=hG;refine aq (h6 ρ w hc) ?_;show Bz gp k B W cs r ys y _ _;unfold Bz;simp only[jr,ha,k1,k2,k3,Nat.reduceEqDiff,if_true,if_false];exact⟨trivial,trivial,trivial,k4,⟨hA.below.alloc hA.below.size _,λ x e=>by injection e with e;exact⟨w.heap.size,e.symm,aB.new w _ _⟩⟩⟩
  intro ρ w σ hc hG hr he hno;rw[t7]at hr;have r0:=hr.1;simp only[awm]at r0;unfold kS at r0;rw[if_pos Tab]at r0;have r1:=hr.2.1;simp only[awn]at r1;unfold kS at r1;rw[if_pos Tab]at r1;refine⟨g7,?_⟩;rw[if_pos Tab];have kW:=hno Tab;unfold Bz at hG;rw[kW]at hG;obtain⟨k1,k2,k3,k4,hA⟩:=hG;have awv:=he 3 (cM.1 aws) Tab;obtain⟨lv,hlv⟩:=Option.isSome_iff_exists.1 awv;obtain⟨z0,hz1,hz2⟩:=hA.zero _ r1;obtain⟨v',w',hrun,ho,zT,FM⟩:=fc (P:=prog) (w:=w) 23 23 _ 88 underlying23 gh rfl WC (λ _=>rfl) (y:=xN) (by simp[bH,xN,Value.oneCell']) (hown.later hA.below) z0 hz2 WC WC (fK hB hA.below.size);rw[<-hz1]at hrun;refine aq (h7 ρ w _ v' w' (k4 _ r0) rfl hrun) ?_;show Bz gp k B W cs r ys y _ _;unfold Bz;simp only[jr,hlv,k1,k2,k3,r1,Nat.reduceEqDiff,if_true,if_false,Option.isSome_some,Option.isSome_none];have nr:=hblk.later hA.below;have hb2:=dG nr (hown.later hA.below) Tab zT.grown;obtain⟨q,c,hq,_,_⟩:=ho.block Tad;refine⟨trivial,trivial,λ x e=>k4 x (hlv.trans e),⟨⟨q,c,by rw[hq,length_append];rfl,λ e=>ho.other hb2 Tab (by rw[hq,e];rfl)⟩,ho,hb2,λ b h1 h2 h3=>(zT.grown.block b (eS h1 hA.below.size) (Ne.symm h3)).trans (hA.below.block b h1),zT.grown.os.trans hA.below.os,zT.grown.tape.trans hA.below.tape,zT.grown.output.trans hA.below.output,fK hA.below.size zT.grown.size,FM.later hA.below.size⟩,λ x e=>by cases e⟩;intro ρ w σ hc hG hr he hno;rw[t8]at hr;have r0:=hr.1;simp only[awo]at r0;unfold kS at r0;rw[if_pos Tab]at r0;have r1:=hr.2.1;simp only[awp]at r1;unfold kS at r1;rw[if_neg Tab]at r1;refine⟨g8,?_⟩;rw[if_pos Tab];have kW:=hno Tab;unfold Bz at hG;have ha:=he 7 (cM.1 awt) Tab;open zh8 in exact ZgY
  intro ρ w σ hc hG hr he hno;rw[t9]at hr;have r0:=hr.1;simp only[awq]at r0;unfold kS at r0;rw[if_pos Tab]at r0;have r1:=hr.2.1;simp only[awr]at r1;unfold kS at r1;rw[if_neg Tab]at r1;refine⟨g9,?_⟩;rw[if_pos Tab];have kW:=hno Tab;unfold Bz at hG;have ha:=he 7 (cM.1 awu) Tab;open zh9 in exact ZgY
  intro ρ w σ hc hG hr he hno;rw[t10]at hr;have r0:=hr.1;simp only[apK]at r0;unfold kS at r0;rw[if_neg Tab]at r0;refine⟨g10,?_⟩;exact h10 ρ w r0;intro ρ w σ hc hG hr he hno;rw[t11]at hr;have r0:=hr.1;simp only[apL]at r0;unfold kS at r0;rw[if_neg Tab]at r0;refine⟨g11,?_⟩;exact h11 ρ w r0;intro ρ w σ hc hG hr he hno;rw[t12]at hr;have r0:=hr.1;simp only[apM]at r0;unfold kS at r0;rw[if_neg Tab]at r0;have r1:=hr.2.1;simp only[apN]at r1;unfold kS at r1;rw[if_pos Tab]at r1;refine⟨g12,?_⟩;rw[if_pos Tab];have kW:=hno Tab;unfold Bz at hG;have ha:=he 7 (cM.1 apO) Tab;open zia in exact ZgY
 intro σ w hall hG;have ha:=hall 7 Tab;obtain⟨a,ha⟩:=Option.isSome_iff_exists.1 ha;have h9:=hall 9 Tab;have h12:=hall 12 Tab;unfold Bz at hG;rw[ha,h9,h12]at hG;exact bw.weaken (λ _ _ _ _=>trivial) (mO a w hG.2.2.2.1)
end
open Go.Shelf
attribute [local go_sem] Oper.semAt_some
theorem Sj{p:Addr}(h:w'.heap[p.block]?=w.heap[p.block]?):w'.cell? p=w.cell? p:=by unfold World.cell?;rw[h]
structure Fr (w w':t_):Prop where
 size:w.heap.size<=w'.heap.size
 cell:∀p v,w.cell? p=some v->w'.cell? p=some v
theorem Fr.refl(w:t_):Fr w w:=⟨aE,λ _ _ h=>h⟩
theorem Fr.trans{a b c:t_}(h:Fr a b)(k:Fr b c):Fr a c:=⟨fK h.size k.size,λ p v hv=>k.cell p v (h.cell p v hv)⟩
theorem Sk{p:Addr}(h:w.cell? p=some v):p.block<w.heap.size:=by rcases gR p.block w.heap.size with h1|h1;exact h1;unfold World.cell? at h;rw[Array.getElem?_eq_none h1]at h;simp at h
theorem Fr.below(h:ai w w'):Fr w w':=⟨h.size,λ p v hv=>(h.cell (Sk hv)).trans hv⟩
theorem Fr.putObj(w:t_)(l:Nat)(ob ob':Obj)(h:w.heap[l]?=some ob)(hc:ob.isCells=false):Fr w (w.putObj l ob'):=
 ⟨by simp,λ p v hv=>by
   obtain⟨o2,ho,hc2⟩:=cells_of_cell hv;have hne:p.block≠l:=λ e=>by rw[e,h]at ho;injection ho with ho;rw[ho,hc2]at hc;cases hc
   exact(Sj (World.putObj_heap_other hne)).trans hv⟩
theorem cC.fr{off:Nat}{x:Ex}(h:cC w b off x)(hf:Fr w w'):cC w' b off x:=by unfold cC at*;exact⟨hf.cell _ _ h.1,hf.cell _ _ h.2.1,hf.cell _ _ h.2.2.1,hf.cell _ _ h.2.2.2.1,hf.cell _ _ h.2.2.2.2.1,hf.cell _ _ h.2.2.2.2.2.1,hf.cell _ _ h.2.2.2.2.2.2⟩
theorem RE.fr{l:v_}(h:RE w B A l)(hf:Fr w w'):RE w' B A l:=by rcases h with h|⟨b,off,h1,h2,h3⟩;exact Zis;exact .inr ⟨b,off,h1,h2,λ i x hx=>(h3 i x hx).fr hf⟩
abbrev QE(w0:t_):= {x:Ex×Tr // x.2.ok/\x.2.at_ w0 (Old w0) x.1}
theorem Cc:∀(ts:vI) (ys:v_),Tr.cO ts->Tr.aO w0 (Old w0) ts ys->∃L:List (QE w0),L.map (λ x=>x.1.1)=ys/\L.map (λ x=>x.1.2)=ts
 |[],ys,_,h=>by unfold Tr.aO at h;subst h;exact⟨[],rfl,rfl⟩
 |t::ts,ys,bc,h=>by unfold Tr.aO at h;unfold Tr.cO at bc;obtain⟨y,ys',rfl,h1,h2⟩:=h;obtain⟨L,e1,e2⟩:=Cc ts ys' bc.2 h2;exact⟨⟨(y,t),bc.1,h1⟩::L,by rw[map_cons,e1],by rw[map_cons,e2]⟩
def Sm(x:QE w0):x_:= #[.agg (ay x.1.1)]
theorem oz(h:ai w w'):w.grownBy w' none:=⟨h.os,h.tape,h.output,h.size,λ k hk _=>h.block k hk⟩
def ziM.KcA(h:p:=by have HA_:=aa hA;clear hR hJ1 hLk fW hex h7 jw KK hA;gi_wp2;refine HR.ae.mono ?_;rintro e W3 (⟨rfl,hJ3,hk3⟩|⟨rfl,En⟩);rw[<-nx.ae]at hJ3;have HJ3:=aa hJ3;have HF3:=aa ((HF.ae.trans (Fr.below (ah wr (.cells #[ag y.op,ag y.v.k,af y.v.n,.string y.v.s,.string y.name,af y.width,.slice y.A y.n y.c,.string nm] 48)))).trans hk3);clear hJ3 hk3 HR HP;exact Zee;rw[<-nx.ae]at En;have HJX:=aa En;clear En HR HP;gi_wp2;refine bodyPost_ret (results_none rfl _ _ _) rfl ?_;exact⟨⟨_,rfl⟩,.inr ⟨_,by rw[append_assoc];exact(take_prefix _ _).trans (prefix_append _ _),HJX.ae⟩⟩):=h
def ziN.KcA(h:p:=by clear hR hJ1 hLk fW hex KK;gi_wp2;refine HR.ae.mono ?_;rintro e W3 (⟨rfl,hJ3,hk3⟩|⟨rfl,En⟩);rw[<-nx.ae]at hJ3;have HJ3:=aa hJ3;have HF3:=aa ((HF.ae.trans (Fr.below (ah wr (.cells (ay y) 46)))).trans hk3);clear hJ3 hk3 HR HP ja hy;exact Zee;rw[<-nx.ae]at En;have HJX:=aa En;clear En HR HP ja hy;gi_wp2;refine bodyPost_ret (results_none rfl _ _ _) rfl ?_;exact⟨⟨_,rfl⟩,.inr ⟨_,((prefix_append_right_inj Li).2 (take_prefix _ _)).trans (prefix_append _ _),HJX.ae⟩⟩):=h
def ziO.KcA(h:p:=by clear hR hJ1 hLk fW hex h7 jw KK hA;gi_wp2;refine HR.ae.mono ?_;rintro e W3 (⟨rfl,hJ3,hk3⟩|⟨rfl,En⟩);rw[<-nx.ae]at hJ3;have HJ3:=aa hJ3;have HF3:=aa ((HF.ae.trans (Fr.below (ah wr (.cells #[ag y.op,ag y.v.k,af y.v.n,.string y.v.s,.string y.name,af y.width,.slice y.A y.n y.c,.bool nm] 117)))).trans hk3);clear hJ3 hk3 HR HP ja h72 hy;exact Zee;rw[<-nx.ae]at En;have HJX:=aa En;clear En HR HP ja h72 hy;gi_wp2;refine bodyPost_ret (results_none rfl _ _ _) rfl ?_;exact⟨⟨_,rfl⟩,.inr ⟨_,(prefix_append_right_inj (Li++Lc)).2 (take_prefix _ _),HJX.ae⟩⟩):=h
def zcJ.Kav(h:p:=by
 have iJ:=aa Il;obtain⟨fI,hl2,uW⟩:=hlen;have HN:=aa (And.intro nw (And.intro ng nh));unfold ft at k1;have q0:=k1.cell 0;have x3:=k1.cell 3;have x4:=k1.cell 4;have x5:=k1.cell 5;have x6:=k1.cell 6;simp only[Uaa]at q0 x3 x4 x5 x6;rw[ni]at q0;rw[no]at x6;have HQ:=aa (And.intro q0 (And.intro x3 (And.intro x4 (And.intro x5 x6))));clear Ui qT Bi hfn hz hS hw hl hh M7 hJ Pk Il ni no nw ng nh x3 x4 x5 x6 k1;refine callsIn_of_wp func96 rfl trivial ?_ rfl;simp only[ntmps96,size_toArray,length_cons,length_nil,Nat.reduceAdd,Nat.reduceSub,Array.replicate_succ,Array.replicate_zero,push_toArray,append_toArray,nil_append,cons_append];gi_wp2;clear q0;gi_loopw [12] (λ Kx wr=>∃i:Nat,i<=zi.length/\Kx=af i/\J (Li.take i) wr/\Fr W wr) (λ Kx _=>zi.length-(intOf Kx).toNat);case atStart=>exact⟨0,gE,rfl,h0,Fr.refl _⟩
 case round=>
  clear h0;obtain⟨i,hk,rfl,hp,hb⟩:=hrel;have HP:=aa hp;have HF:=aa hb;clear hp hb;by_cases hlt:i<zi.length
  ·obtain⟨b,off,hA,KK,hex,h7⟩:=ox.ae.at_ hlt;obtain⟨nm,jw⟩:=iT.ae _ (getElem_mem hlt);rw[jw]at h7;have ja:=hex.fr (iJ.ae.trans HF.ae);have h72:=(iJ.ae.trans HF.ae).cell _ _ h7;have fW:i<Li.length:=by have:=congrArg List.length HL.ae;simp only[length_map]at this;omega
   have hLk:(Li[i]'fW).1.1=zi[i].1:=by have h1:=congrArg (λ l=>l[i]?) HL.ae;simp only[getElem?_map,getElem?_eq_getElem hlt,getElem?_eq_getElem fW,Option.map_some]at h1;injection h1
   have nx:=aa (show Li.take (i+1)=Li.take i++[Li[i]'fW] by rw[take_add_one,getElem?_eq_getElem fW];rfl);have Bh:=aa (show(Li.take i).length <(Li++Lc++Lo).length by rw[length_take,length_append,length_append];omega);generalize Li[i]'fW=x at*;rw[hA];generalize zi[i].1=y at*;unfold cC at ja;have hJ1:=HJ.ae _ _ (wr.alloc (.cells #[ag y.op,ag y.v.k,af y.v.n,.string y.v.s,.string y.name,af y.width,.slice y.A y.n y.c,.string nm] 48)) none HP.ae (World.grownBy_alloc wr _ none) (λ r e=>by cases e);open ziM in exact ZiE
  have fX:i=zi.length:=by omega
  subst fX;have apT:Li.take zi.length=Li:=take_of_length_le (by have:=congrArg List.length HL.ae;simp only[length_map]at this;omega)
  rw[apT]at HP;have hF:=HF.ae;have x3:=hF.cell _ _ HQ.ae.2.1;have x4:=hF.cell _ _ HQ.ae.2.2.1;have x5:=hF.cell _ _ HQ.ae.2.2.2.1;have Bn:=aa (hF.cell _ _ HQ.ae.2.2.2.2);obtain⟨nw,ng,nh⟩:=HN.ae;rw[nw]at x3;rw[ng]at x4;rw[nh]at x5;clear hF apT hlt nw ng nh;have apU:=aa (And.intro x3 (And.intro x4 x5));gi_wp2;have S6:=aa (ah wr (.cells #[.slice L.w.A yw.length L.w.c,.slice L.g.A yg.length L.g.c,.slice L.h.A yh.length L.h.c] 23));have Kl:=aa (aB.new wr 23 #[.slice L.w.A yw.length L.w.c,.slice L.g.A yg.length L.g.c,.slice L.h.A yh.length L.h.c]);have hRL:RL (wr.alloc (.cells #[.slice L.w.A yw.length L.w.c,.slice L.g.A yg.length L.g.c,.slice L.h.A yh.length L.h.c] 23)) (wr.alloc (.cells #[.slice L.w.A yw.length L.w.c,.slice L.g.A yg.length L.g.c,.slice L.h.A yh.length L.h.c] 23)).heap.size (some ⟨wr.heap.size,0,none⟩) [⟨L.w.A,L.w.c,yw⟩,⟨L.g.A,L.g.c,yg⟩,⟨L.h.A,L.h.c,yh⟩]:=by
   refine⟨wr.heap.size,0,rfl,Kl.ae.lt,λ Kx x hx=>?_⟩;have hb:=(iJ.ae.trans HF.ae).trans (Fr.below S6.ae)
   match Kx,hx with
   |0,hx=>simp at hx;subst hx;exact⟨by rw[Kl.ae.cell];rfl,(HK.ae.fr hb).more hb.size⟩
   |1,hx=>simp at hx;subst hx;exact⟨by rw[Kl.ae.cell];rfl,(HS.ae.fr hb).more hb.size⟩
   |2,hx=>simp at hx;subst hx;exact⟨by rw[Kl.ae.cell];rfl,(HO.ae.fr hb).more hb.size⟩
   |Kx+3,hx=>simp at hx
  refine⟨trivial,(callsIn_wide.2 (vC _ 3 _ _ Tad (by simpa [mh] using uW) hRL)).mono ?_⟩;rintro e w5 ⟨v,rfl,hO,JO⟩;obtain⟨lc,hlc⟩:∃lc,lc=yw++(yg++yh):=⟨_,rfl⟩;have dU:aH bH 46 7 w5 (wr.alloc (.cells #[.slice L.w.A yw.length L.w.c,.slice L.g.A yg.length L.g.c,.slice L.h.A yh.length L.h.c] 23)).heap.size v lc:=by rw[hlc];simpa using hO
  obtain⟨CA,cc,rfl,_,hres⟩:=qI dU (S:=Old w5) (λ q k1=>(dU.lt k1).1);have HRE:=aa (show RE w5 w5.heap.size CA lc from hres);have wu:=aa (aj.then S6.ae JO);have MN:=aa (HJ.ae _ _ _ none HP.ae (oz wu.ae) (λ r e=>by cases e));have HF5:=aa (HF.ae.trans (Fr.below wu.ae));have HQ7:=aa ((Fr.below wu.ae).cell _ _ Bn.ae);have ajz:=aa (show Lc.map (λ x=>x.1.1)=lc by rw[A2.ae,hlc,append_assoc]);have hl4:lc.length<=1000000:=by rw[hlc,<-append_assoc];exact uW
  clear hRL hO dU hres JO hlc HP HF Bn S6 Kl wu x3 x4 x5 apU;gi_wp2;gi_loopw [31] (λ Kx wr2=>∃i:Nat,i<=lc.length/\Kx=af i/\J (Li++Lc.take i) wr2/\Fr w5 wr2) (λ Kx _=>lc.length-(intOf Kx).toNat);case atStart=>exact⟨0,gE,rfl,by rw[take_zero,append_nil];exact MN.ae,Fr.refl _⟩
  case round=>
   clear MN;obtain⟨i,hk,rfl,hp,hb⟩:=hrel;have HP:=aa hp;have HF:=aa hb;clear hp hb;by_cases hlt:i<lc.length
   ·obtain⟨b,off,hA,KK,hex⟩:=HRE.ae.at_ hlt;have ja:=hex.fr HF.ae;have fW:i<Lc.length:=by have:=congrArg List.length ajz.ae;simp only[length_map]at this;omega
    have hLk:(Lc[i]'fW).1.1=lc[i]:=by have h1:=congrArg (λ l=>l[i]?) ajz.ae;simp only[getElem?_map,getElem?_eq_getElem hlt,getElem?_eq_getElem fW,Option.map_some]at h1;injection h1
    have nx:=aa (show Li++Lc.take (i+1)=(Li++Lc.take i)++[Lc[i]'fW] by rw[take_add_one,getElem?_eq_getElem fW,append_assoc];rfl);have Bh:=aa (show(Li++Lc.take i).length <(Li++Lc++Lo).length by rw[length_append,length_take,length_append,length_append];omega);generalize Lc[i]'fW=x at*;subst hA;generalize lc[i]=y at*;unfold cC at ja;have hJ1:=HJ.ae _ _ (wr.alloc (.cells (ay y) 46)) none HP.ae (World.grownBy_alloc wr _ none) (λ r e=>by cases e);open ziN in exact ZiE
   have fX:i=lc.length:=by omega
   subst fX;have apV:Lc.take lc.length=Lc:=take_of_length_le (by have:=congrArg List.length ajz.ae;simp only[length_map]at this;omega)
   rw[apV]at HP;have x6:=HF.ae.cell _ _ HQ7.ae;have HF0:=aa (iJ.ae.trans (HF5.ae.trans HF.ae));clear apV hlt HF5 HF HQ7;gi_wp2;clear x6;gi_loopw [43] (λ Kx wr2=>∃i:Nat,i<=zo.length/\Kx=af i/\J (Li++Lc++Lo.take i) wr2/\Fr w0 wr2) (λ Kx _=>zo.length-(intOf Kx).toNat);case atStart=>exact⟨0,gE,rfl,by rw[take_zero,append_nil];exact HP.ae,HF0.ae⟩
   case round=>
    clear HP HF0;obtain⟨i,hk,rfl,hp,hb⟩:=hrel;have HP:=aa hp;have HF:=aa hb;clear hp hb;by_cases hlt:i<zo.length
    ·obtain⟨b,off,hA,KK,hex,h7⟩:=HFN.ae.at_ hlt;obtain⟨nm,jw⟩:=Nj.ae _ (getElem_mem hlt);rw[jw]at h7;have ja:=hex.fr HF.ae;have h72:=HF.ae.cell _ _ h7;have fW:i<Lo.length:=by have:=congrArg List.length A1.ae;simp only[length_map]at this;omega
     have hLk:(Lo[i]'fW).1.1=zo[i].1:=by have h1:=congrArg (λ l=>l[i]?) A1.ae;simp only[getElem?_map,getElem?_eq_getElem hlt,getElem?_eq_getElem fW,Option.map_some]at h1;injection h1
     have nx:=aa (show Li++Lc++Lo.take (i+1)=(Li++Lc++Lo.take i)++[Lo[i]'fW] by rw[take_add_one,getElem?_eq_getElem fW,<-append_assoc];rfl);have Bh:=aa (show(Li++Lc++Lo.take i).length <(Li++Lc++Lo).length by simp only[length_append,length_take];omega);generalize Lo[i]'fW=x at*;rw[hA];generalize zo[i].1=y at*;unfold cC at ja;have hJ1:=HJ.ae _ _ (wr.alloc (.cells #[ag y.op,ag y.v.k,af y.v.n,.string y.v.s,.string y.name,af y.width,.slice y.A y.n y.c,.bool nm] 117)) none HP.ae (World.grownBy_alloc wr _ none) (λ r e=>by cases e);open ziO in exact ZiE
    have fX:i=zo.length:=by omega
    subst fX;have apW:Lo.take zo.length=Lo:=take_of_length_le (by have:=congrArg List.length A1.ae;simp only[length_map]at this;omega)
    rw[apW]at HP;clear apW hlt HF;gi_wp2;go_end0;exact⟨⟨_,rfl⟩,.inl ⟨_,rfl,HP.ae⟩⟩):=h
theorem aee(w0:t_)(n:Nat)(hn:1<=n)(l gq:Nat)(q:Qy)(L:QL)(zi zo:List (Ex×Value))(yw yg yh:v_)(Li Lc Lo:List (QE w0))
  (Bi:RI w0 w0.heap.size L.i.A zi) (hfn:RI w0 w0.heap.size L.o.A zo) (hz:RE w0 w0.heap.size L.w.A yw) (hS:RE w0 w0.heap.size L.g.A yg) (hw:RE w0 w0.heap.size L.h.A yh)
  (ni:L.i.n=zi.length) (no:L.o.n=zo.length) (nw:L.w.n=yw.length) (ng:L.g.n=yg.length) (nh:L.h.n=yh.length)
  (hl:Li.map (λ x=>x.1.1)=zi.map (·.1)) (hh:Lo.map (λ x=>x.1.1)=zo.map (·.1)) (M7:Lc.map (λ x=>x.1.1)=yw++yg++yh) (Ui:∀z∈zi,∃s,z.2=.string s) (qT:∀z∈zo,∃s,z.2=.bool s) (hlen:zi.length<=1000000/\zo.length<=1000000/\(yw++yg++yh).length<=1000000)
  (J Jx:List (QE w0)->t_->Prop) (W:t_) (hJ:AbidesFrom W.heap.size J)
  (Pk:∀pre x W1,J pre W1->pre.length <(Li++Lc++Lo).length->YieldAt Fence.wide (n-1) prog l (Sm x) W1 λ e W'=>(e=.returned (.bool true)/\J (pre++[x]) W'/\Fr W1 W')\/(e=.returned (.bool false)/\Jx (pre++[x]) W'))
  (k1:aB W gq 27 (ft q L)) (Il:Fr w0 W) (h0:J [] W):
  CallsIn Fence.wide n prog 96 #[.func (.yield l) #[] #[],.pointer (some ⟨gq,0,none⟩)] W λ e W'=>(∃v,e=.returned v)/\((∃ys,ys=Li++Lc++Lo/\J ys W')\/(∃pre,pre <+: Li++Lc++Lo/\Jx pre W')):=by
 open zcJ in exact Zbf
def PR(u v:Value)(r:Rest):Nat->Value
 |0=>u|1=>v|2=>r.h|3=>r.i|4=>r.j|_=>r.o
def ug(w:t_)(gp:Nat)(R:Nat->Value)(b:Nat):Prop:=b<w.heap.size/\b≠gp/\∀i<6,(R i).ownBlock≠some b
structure PlF (w0:t_) (gp g2:Nat) (qc:x_) (g4 g5 D:Nat) (R:Nat->Value) (w:t_):Prop where
 low:w0.heap.size<=gp
 lt:gp<w.heap.size
 base:ai w0 w
 rows:∀i<6,∀q,(R i).ownBlock=some q->w0.heap.size<=q/\q<w.heap.size/\q≠gp
 ap:∀i<6,∀j<6,i≠j->∀q,(R i).ownBlock=some q->(R j).ownBlock≠some q
 k2:ug w gp R g2
 k4:ug w gp R g4
 k5:ug w gp R g5
 kD:ug w gp R D
 new:w0.heap.size<=g4/\w0.heap.size<=g5/\g4≠g5/\g4≠D/\g5≠D
 dd:w.heap[D]?=some (.deferred (some []))
 z2:aB w g2 27 qc
 z4:aB w g4 72 #[.pointer none]
 z5:aB w g5 34 #[af 0]
structure Eo (w0:t_) (gp:Nat) (R R':Nat->Value) (T:Nat->Prop) (w w':t_):Prop where
 os:w'.os=w.os
 tape:w'.tape=w.tape
 output:w'.output=w.output
 size:w.heap.size<=w'.heap.size
 far:∀b,b<w.heap.size->b≠gp->(∀i<6,T i->(R i).ownBlock≠some b)->w'.heap[b]?=w.heap[b]?
 same:∀i<6,¬T i->R' i=R i
 mv:∀i<6,T i->Mv w (R i) (R' i)
 one:∀i<6,∀j<6,T i->T j->i≠j->∀q,(R' i).ownBlock=some q->(R' j).ownBlock≠some q
 rows:∀i<6,T i->∀q,(R' i).ownBlock=some q->w0.heap.size<=q/\q<w'.heap.size/\q≠gp
section
variable{w0 w w':t_}{gp g2 g4 g5 D:Nat}{qc:x_}{R R':Nat->Value}{T:Nat->Prop}
theorem Eo.kp(s:Eo w0 gp R R' T w w'){b:Nat}(h:ug w gp R b):ug w' gp R' b:=
 ⟨eS h.1 s.size,h.2.1,λ i hi=>by by_cases hT:T i;exact(s.mv i hi hT).ne h.1 (h.2.2 i hi);rw[s.same i hi hT];exact h.2.2 i hi⟩
theorem Eo.keep(s:Eo w0 gp R R' T w w'){b:Nat}(h:ug w gp R b):w'.heap[b]?=w.heap[b]?:=s.far b h.1 h.2.1 λ i hi _=>h.2.2 i hi
theorem PlF.step(h:PlF w0 gp g2 qc g4 g5 D R w)(s:Eo w0 gp R R' T w w'):PlF w0 gp g2 qc g4 g5 D R' w':=by
 have hr:∀i<6,∀q,(R' i).ownBlock=some q->w0.heap.size<=q/\q<w'.heap.size/\q≠gp:=λ i hi q hq=>by by_cases hT:T i;exact s.rows i hi hT q hq;rw[s.same i hi hT]at hq;have:=h.rows i hi q hq;exact⟨this.1,eS this.2.1 s.size,this.2.2⟩
 refine⟨h.low,eS h.lt s.size,?_,hr,?_,s.kp h.k2,s.kp h.k4,s.kp h.k5,s.kp h.kD,h.new,(s.keep h.kD).trans h.dd,(s.keep h.k2).trans h.z2,(s.keep h.k4).trans h.z4,(s.keep h.k5).trans h.z5⟩;exact⟨s.os.trans h.base.os,s.tape.trans h.base.tape,s.output.trans h.base.output,fK h.base.size s.size,λ k hk=>(s.far k (eS hk h.base.size) (by have:=h.low;omega) λ i hi _ e=>by have:=(h.rows i hi k e).1;omega).trans (h.base.block k hk)⟩;intro i hi j hj kE q hq lx;by_cases hT:T i<;>by_cases hU:T j;exact s.one i hi j hj hT hU kE q hq lx
 ·rw[s.same j hj hU]at lx;have hl:=(h.rows j hj q lx).2.1;rcases s.mv i hi hT with h1|h1
  ·exact h.ap i hi j hj kE q (h1▸hq) lx
  have:=h1 q hq;omega
 ·rw[s.same i hi hT]at hq;have hl:=(h.rows i hi q hq).2.1;rcases s.mv j hj hU with h1|h1
  ·exact h.ap i hi j hj kE q hq (h1▸lx)
  have:=h1 q lx;omega
 rw[s.same i hi hT]at hq;rw[s.same j hj hU]at lx;exact h.ap i hi j hj kE q hq lx
theorem Eo.own{α:Type}{f:α->xr}{e:TypeId}{size base:Nat}{l:List α}(s:Eo w0 gp R R' T w w')(h:PlF w0 gp g2 qc g4 g5 D R w){i:Nat}(hi:i<6)(hT:¬T i)(ho:aH f e size w base (R i) l):aH f e size w' base (R' i) l:=by rw[s.same i hi hT];refine ho.keep λ g hg=>s.far g (h.rows i hi g hg).2.1 (h.rows i hi g hg).2.2 λ j hj hU=>h.ap i hi j hj (λ e=>hT (e▸hU)) g hg
theorem Eo.trees(s:Eo w0 gp R R' T w w'){ts:vI}{ys:v_}(h:Tr.aO w (ug w gp R) ts ys):Tr.aO w' (ug w' gp R') ts ys:=Tr.aO.keep (λ b hb=>⟨λ o=>bI (s.keep hb) o,s.kp hb⟩) ts ys h
theorem Eo.later(hb:ai w w'):Eo w0 gp R R (λ _=>False) w w':=⟨hb.os,hb.tape,hb.output,hb.size,λ b h1 _ _=>hb.block b h1,λ _ _ _=>rfl,λ _ _ h=>h.elim,λ _ _ _ _ h=>h.elim,λ _ _ h=>h.elim⟩
end
structure cW (c:PC) (w0:t_) (gp g2:Nat) (qc:x_) (g4 g5 D:Nat) (r:Rest) (w:t_) (u v:Value) (ya:v_) (s:dE) (hd:List aZ) (yi yh yo:v_) (ti th eP:vI):Prop where
 f:PlF w0 gp g2 qc g4 g5 D (PR u v r) w
 blk:aB w gp 81 (c.cells r u v)
 o0:aH bH 46 7 w w0.heap.size u ya
 o1:aH aU 113 2 w w0.heap.size v s.aG
 o2:aH aU 113 2 w w0.heap.size r.h hd
 o3:aH bH 46 7 w w0.heap.size r.i yi
 o4:aH bH 46 7 w w0.heap.size r.j yh
 o5:aH bH 46 7 w w0.heap.size r.o yo
 aD:Tr.aO w0 (Old w0) s.aD ya
 t3:Tr.aO w (ug w gp (PR u v r)) ti yi
 t4:Tr.aO w (ug w gp (PR u v r)) th yh
 t5:Tr.aO w (ug w gp (PR u v r)) eP yo
section
variable{c:PC}{w0 w w':t_}{gp g2 g4 g5 D:Nat}{qc:x_}{r:Rest}{u v u' v':Value}{ya rE:v_}{s s':dE}{hd:List aZ}{yi yh yo:v_}{ti th eP:vI}
theorem cW.ps(h:cW c w0 gp g2 qc g4 g5 D r w u v ya s hd yi yh yo ti th eP):eU c w0 gp r w u v ya s:=⟨h.f.low,h.f.base,h.blk,h.o0,h.o1,h.aD⟩
theorem cW.later(h:cW c w0 gp g2 qc g4 g5 D r w u v ya s hd yi yh yo ti th eP)(hb:ai w w'):cW c w0 gp g2 qc g4 g5 D r w' u v ya s hd yi yh yo ti th eP:=
 have p:=Eo.later (w0:=w0) (gp:=gp) (R:=PR u v r) hb
 ⟨h.f.step p,h.blk.later hb,h.o0.later hb,h.o1.later hb,h.o2.later hb,h.o3.later hb,h.o4.later hb,h.o5.later hb,h.aD,p.trees h.t3,p.trees h.t4,p.trees h.t5⟩
theorem cW.kp2(h:cW c w0 gp g2 qc g4 g5 D r w u v ya s hd yi yh yo ti th eP){b:Nat}(hb:ug w gp (PR u v r) b):Kp w gp [u,v] b:=
 eG.2 ⟨hb.1,hb.2.1,hb.2.2 0 WC,hb.2.2 1 WC⟩
theorem cW.stp(h:cW c w0 gp g2 qc g4 g5 D r w u v ya s hd yi yh yo ti th eP)(hs:ik gp w u v w' u' v')(hp:eU c w0 gp r w' u' v' rE s'):Eo w0 gp (PR u v r) (PR u' v' r) (λ i=>i<2) w w':=by
 have hblk:=hp.blk;have hn:∀q,u'.ownBlock=some q->v'.ownBlock≠some q:=λ q h1 h2=>by obtain⟨_,_,_,e1⟩:=hp.lK.lt h1;obtain⟨_,_,_,e2⟩:=hp.dM.lt h2;rw[e1]at e2;injection e2 with e2;injection e2 with _ e2 _;exact absurd e2 Tab
 refine⟨hs.os,hs.tape,hs.output,hs.size,λ b h1 h2 h3=>hs.block b (eG.2 ⟨h1,h2,h3 0 WC WC,h3 1 WC WC⟩),?_,?_,?_,?_⟩
 ·intro i hi hT
  match i with
  |0=>omega
  |1=>omega
  |2|3|4=>rfl
  |n+5=>rfl
 ·intro i hi hT
  match i with
  |0=>exact hs.mu
  |1=>exact hs.mv
  |n+2=>omega
 ·intro i hi j hj hT hU kE q h1 h2
  match i,j with
  |0,1=>exact hn q h1 h2
  |1,0=>exact hn q h2 h1
  |0,0=>exact kE rfl
  |1,1=>exact kE rfl
  |n+2,_=>omega
  |0,n+2=>omega
  |1,n+2=>omega
 intro i hi hT q hq
 match i with
 |0=>exact⟨(hp.lK.lt hq).2.1,(hp.lK.lt hq).1,λ e=>hp.lK.other hblk Tab (by rw[show u'.ownBlock=some q from hq,e])⟩
 |1=>exact⟨(hp.dM.lt hq).2.1,(hp.dM.lt hq).1,λ e=>hp.dM.other hblk Tab (by rw[show v'.ownBlock=some q from hq,e])⟩
 |n+2=>omega
theorem cW.call(h:cW c w0 gp g2 qc g4 g5 D r w u v ya s hd yi yh yo ti th eP)(hs:ik gp w u v w' u' v')(hp:eU c w0 gp r w' u' v' rE s'):cW c w0 gp g2 qc g4 g5 D r w' u' v' rE s' hd yi yh yo ti th eP:=by have p:=h.stp hs hp;exact⟨h.f.step p,hp.blk,hp.lK,hp.dM,p.own h.f (i:=2) WC WC h.o2,p.own h.f (i:=3) WC WC h.o3,p.own h.f (i:=4) WC WC h.o4,p.own h.f (i:=5) WC WC h.o5,hp.aD,p.trees h.t3,p.trees h.t4,p.trees h.t5⟩
theorem cW.tree(h:cW c w0 gp g2 qc g4 g5 D r w u v ya s hd yi yh yo ti th eP)(hs:ik gp w u v w' u' v')(hp:eU c w0 gp r w' u' v' rE s'){t:Tr}{y:Ex}(ht:t.at_ w' (λ b=>(b<w0.heap.size\/w.heap.size<=b)/\Kp w' gp [u',v'] b) y):t.at_ w' (ug w' gp (PR u' v' r)) y:=by have p:=(h.call hs hp).f;refine Tr.at_.keep (λ b hb=>⟨λ _=>rfl,hb.2.1,hb.2.2.1,λ i hi e=>?_⟩) t y ht;exact Zco
theorem cW.apX(h:cW c w0 gp g2 qc g4 g5 D r w u v ya s hd yi yh yo ti th eP){t:Tr}{y:Ex}{a:Value}(hl:LaB gp 14 w0.heap.size w (c.cells r u v) r.j yh y a true true w')(ht:t.at_ w (ug w gp (PR u v r)) y):
  cW c w0 gp g2 qc g4 g5 D {r with j:=a} w' u v ya s hd yi (yh++[y]) yo ti (th++[t]) eP:=by
 have ho:aH bH 46 7 w' w0.heap.size a (yh++[y]):=hl.own;obtain⟨q0,c0,e0,hq0⟩:=hl.row;have p:Eo w0 gp (PR u v r) (PR u v {r with j:=a}) (λ i=>i=4) w w':=by
  refine⟨hl.os,hl.tape,hl.output,hl.size,λ b h1 h2 h3=>hl.far b h1 h2 (h3 4 WC rfl),?_,?_,Zgh,Zem⟩
  ·intro i hi hT
   match i with
   |0|1|2|3=>rfl
   |4=>exact absurd rfl hT
   |5=>rfl
   |n+6=>omega
  intro i hi hT;subst hT;exact hl.mv
 have hT:=p.trees (ts:=[t]) (ys:=[y]) (Tr.gw ht);refine⟨h.f.step p,?_,p.own h.f (i:=0) WC WC h.o0,p.own h.f (i:=1) WC WC h.o1,p.own h.f (i:=2) WC WC h.o2,p.own h.f (i:=3) WC WC h.o3,ho,p.own h.f (i:=5) WC WC h.o5,h.aD,p.trees h.t3,Tr.all_append (p.trees h.t4) hT,p.trees h.t5⟩;exact hl.blk
theorem cW.apY(h:cW c w0 gp g2 qc g4 g5 D r w u v ya s hd yi yh yo ti th eP){t:Tr}{y:Ex}{a:Value}(hl:LaB gp 15 w0.heap.size w (c.cells r u v) r.o yo y a true true w')(ht:t.at_ w (ug w gp (PR u v r)) y):
  cW c w0 gp g2 qc g4 g5 D {r with o:=a} w' u v ya s hd yi yh (yo++[y]) ti th (eP++[t]):=by
 have ho:aH bH 46 7 w' w0.heap.size a (yo++[y]):=hl.own;obtain⟨q0,c0,e0,hq0⟩:=hl.row;have p:Eo w0 gp (PR u v r) (PR u v {r with o:=a}) (λ i=>i=5) w w':=by
  refine⟨hl.os,hl.tape,hl.output,hl.size,λ b h1 h2 h3=>hl.far b h1 h2 (h3 5 WC rfl),?_,?_,Zgh,Zem⟩
  ·intro i hi hT
   match i with
   |0|1|2|3=>rfl
   |4=>rfl
   |5=>exact absurd rfl hT
   |n+6=>omega
  intro i hi hT;subst hT;exact hl.mv
 have hT:=p.trees (ts:=[t]) (ys:=[y]) (Tr.gw ht);refine⟨h.f.step p,?_,p.own h.f (i:=0) WC WC h.o0,p.own h.f (i:=1) WC WC h.o1,p.own h.f (i:=2) WC WC h.o2,p.own h.f (i:=3) WC WC h.o3,p.own h.f (i:=4) WC WC h.o4,ho,h.aD,p.trees h.t3,p.trees h.t4,Tr.all_append (p.trees h.t5) hT⟩;exact hl.blk
end
def cI(w0:t_)(g n a b:Nat)(D:Nat->aK)(e:Ending)(w':t_):Prop:=e=.returned (.tuple #[])/\∃E,SS w0 g n w' E/\Sw a b D E/\cT E a b
variable{n:Nat}{D:Nat->aK}
theorem SS.cmp{g:Nat}(h:SS w0 g n w D)(i j:Nat)(hi:i<n)(hj:j<n)(hW:ai w W):
  ar 14 #[.slice (D i).A (D i).l.length (D i).c,.slice (D j).A (D j).l.length (D j).c] W λ e w'=>e=.returned (af (bT (D i).l (D j).l))/\ai W w':=
 wX _ _ _ _ _ _ W ((h.later hW).rv i hi) ((h.later hW).rv j hj) (h.rows i hi).2 (h.rows j hj).2
def zaN.Kaa(h:p:=by have cV:=H3.ae.at_.cell (jp+1) WC;have cU:=H3.ae.at_.cell jp WC;have f1:=H3.ae.at_.frozen (jp+1);have f2:=H3.ae.at_.frozen jp;obtain⟨u,c3⟩:=H3.ae.second (jp+1) jp WC WC (E jp).v;have S3:=aa (H3.ae.swap (jp+1) jp WC WC);unfold aK.v at c3 S3;go_upto_region 6 with fail;go_big_region_o;clear cV cU c3 f1 f2;exact Zcp):=h
def zaO.Kaa(h:p:=by exact Zia):=h
def zfy.Kbj(h:p:=by
 have cU:=λ q:Ext wr.heap.size wr=>(H2.ae.at_.later q.h).cell jp WC;have cQ:=λ q:Ext wr.heap.size wr=>H2.ae.cmp (jp+1) jp WC WC q.h;by_cases Kx:bT (E (jp+1)).l (E jp).l<0;have t2:=decide_eq_true Kx;have HL:=aa (show lt (E (jp+1)) (E jp)from Kx);clear Kx;refine aR 17 wr.heap.size wr cX Taa Taa Taa Taa ?_;open zaN in exact Zak
 have t2:=decide_eq_false Kx;have HL:=aa (show¬lt (E (jp+1)) (E jp)from Kx);clear Kx;refine aR 17 wr.heap.size wr cX Taa Taa Taa Taa ?_;open zaO in exact Zak):=h
theorem iK(w0:t_)(g n cap a b:Nat)(D:Nat->aK)(w:t_)(h:SS w0 g n w D)(hn:n<=1000)(hab:a<=b)(hb:b<=n):
  ar 129 #[aL g n cap,af a,af b,.func (.func 14) #[] #[]] w (cI w0 g n a b D):=by
 have HS:=aa h;have mixed:prog.follows .mixedOrders=true:=Taa;clear h;go_enter func129,ntmps129;go_wp2_with fail;go_loopw [8] (λ iv wr=>∃(i:Nat) (KK:Nat->aK),a<i/\(i<=b\/i=a+1)/\iv=af i/\SS w0 g n wr KK/\Sw a b D KK/\cT KK a i) (λ iv _=>b-(intOf iv).toNat);case atStart=>exact ZhV
 case round=>
  clear HS;obtain⟨i,KK,kB,hi,rfl,hS,hw,hl⟩:=hrel;have H2:=aa hS;have HW:=aa hw;have Gb:=aa hl;clear hS hw hl;by_cases hlt:i<b
  ·go_wp2_with fail;go_loopw [9] (λ jv wr2=>∃(j:Nat) (E:Nat->aK),a<=j/\j<=i/\jv=af j/\SS w0 g n wr2 E/\Sw a b D E/\Mx E a i j) (λ jv _=>(intOf jv).toNat);case atStart=>exact Zib
   case round=>
    clear H2 HW Gb;obtain⟨j,E,hj0,hj,rfl,hS,hw,hl⟩:=hrel;have H2:=aa hS;have HW:=aa hw;have Gb:=aa hl;clear hS hw hl;by_cases hja:a<j
    ·open zfy in exact ZdI
    exact Zbn
  have HE:=aa (Gb.ae.mono (Nat.le_refl a) (show b<=i by omega));go_wp2_with fail;exact bodyPost_ret (v:=.tuple #[]) Tbn rfl ⟨rfl,KK,H2.ae,HW.ae,HE.ae⟩
def zaP.Kaa(h:p:=by exact Zfc):=h
def zaQ.Kaa(h:p:=by exact Zez):=h
def zcX.Kay(h:p:=by
 have cV:=λ q:Ext wr.heap.size wr=>(H2.ae.at_.later q.h).cell (jp) WC;have cU:=λ q:Ext wr.heap.size wr=>(H2.ae.at_.later q.h).cell (a) WC;have cQ:=λ q:Ext wr.heap.size wr=>H2.ae.cmp (jp) (a) WC WC q.h;by_cases hl:bT (D (jp)).l (D (a)).l<0;have t2:=decide_eq_true hl;have HX:=aa (show lt (D (jp)) (D (a))from hl);clear hl;refine aR 11 wr.heap.size wr cX Taa Taa Taa Taa ?_;open zaP in exact Zak
 have t2:=decide_eq_false hl;have HX:=aa (show¬lt (D (jp)) (D (a))from hl);clear hl;refine aR 11 wr.heap.size wr cX Taa Taa Taa Taa ?_;open zaQ in exact Zak):=h
def zgr.KbF(h:p:=by
 go_loopw [13] (λ kv wr2=>∃k:Nat,a<=k/\k<=j-1/\kv=af k/\SS w0 g n wr2 (mK D a k)) (λ kv _=>j-(intOf kv).toNat);case atStart=>exact ZiG
 case round=>
  clear H2;obtain⟨k,YK,hk,rfl,hs⟩:=hrel;have H2:=aa hs;clear hs;by_cases hlt:k<j-1
  ·have t2:decide ((k:Int)<((j-1:Nat):Int))=true:=decide_eq_true WC;have cV:=H2.ae.at_.cell (k) WC;have cU:=H2.ae.at_.cell (k+1) WC;have f1:=H2.ae.at_.frozen (k);have f2:=H2.ae.at_.frozen (k+1);obtain⟨u,c3⟩:=H2.ae.second (k) (k+1) WC WC (mK D a k (k+1)).v;have S3:=aa (H2.ae.swap (k) (k+1) WC WC);unfold aK.v at c3 S3;go_upto_region 11 with fail;go_big_region_o;clear cV cU c3 f1 f2;exact Zdu
  have t2:decide ((k:Int)<((j-1:Nat):Int))=false:=decide_eq_false WC;have yz:k=j-1:=by omega
  exact Zfo):=h
def zg1.KbS(h:p:=by
 by_cases hlt:i<j
 ·go_upto_region 5 with fail;open zcX in exact Zbi
 open zgr in exact ZeN):=h
theorem KO(w0:t_)(g n cap a b:Nat)(D:Nat->aK)(w:t_)(h:SS w0 g n w D)(hn:n<=1000)(hab:a+1<b)(hb:b<=n)(hQ:cT D (a+1) b):
  ar 130 #[aL g n cap,af a,af (a+1),af b,.func (.func 14) #[] #[]] w (cI w0 g n a b D):=by
 have HS:=aa h;have HQ:=aa hQ;have mixed:prog.follows .mixedOrders=true:=Taa;clear h hQ;have t1:((a:Int)+1-(a:Int)==1)=true:=Tac;go_enter func130,ntmps130;go_wp2_with fail;clear t1;go_loopw [10,11] (λ iv jv wr=>∃i j:Nat,a+1<=i/\i<=j/\j<=b/\iv=af i/\jv=af j/\SS w0 g n wr D/\(∀h,a+1<=h->h<i->lt (D h) (D a))/\∀h,j<=h->h<b->¬lt (D h) (D a)) (λ iv jv _=>(intOf jv).toNat-(intOf iv).toNat);case atStart=>exact Zgo
 case round=>
  open zg1 in exact Ze8
def zaR.Kaa(h:p:=by exact ZfZ):=h
def zaS.Kaa(h:p:=by exact Zei):=h
def zcY.Kay(h:p:=by
 have cV:=λ q:Ext wr.heap.size wr=>(H2.ae.at_.later q.h).cell (m) WC;have cU:=λ q:Ext wr.heap.size wr=>(H2.ae.at_.later q.h).cell (jp) WC;have cQ:=λ q:Ext wr.heap.size wr=>H2.ae.cmp (m) (jp) WC WC q.h;by_cases hl:bT (D (m)).l (D (jp)).l<0;have t2:=decide_eq_true hl;have HX:=aa (show lt (D (m)) (D (jp))from hl);clear hl;refine aR 12 wr.heap.size wr cX Taa Taa Taa Taa ?_;open zaR in exact Zak
 have t2:=decide_eq_false hl;have HX:=aa (show¬lt (D (m)) (D (jp))from hl);clear hl;refine aR 12 wr.heap.size wr cX Taa Taa Taa Taa ?_;open zaS in exact Zak):=h
def zhg.KbX(h:p:=by have cU:=H2.ae.at_.cell (kp) WC;have f1:=H2.ae.at_.frozen (kp+1);have f2:=H2.ae.at_.frozen (kp);obtain⟨u,c3⟩:=H2.ae.second (kp+1) (kp) WC WC (ot D (kp+1) m (kp)).v;have S3:=aa (H2.ae.swap (kp+1) (kp) WC WC);unfold aK.v at c3 S3;go_upto_region 23 with fail;go_big_region_o;clear cV cU c3 f1 f2;exact ZcT):=h
def zgM.KbO(h:p:=by
 go_loopw [17] (λ kv wr2=>∃k:Nat,j<=k/\k<=m/\kv=af k/\SS w0 g n wr2 (ot D k m)) (λ kv _=>(intOf kv).toNat);case atStart=>exact⟨m,by omega,by omega,rfl,by rw[oQ];exact H2.ae⟩
 case round=>
  clear H2;obtain⟨k,YK,hk,rfl,hs⟩:=hrel;have H2:=aa hs;clear hs;by_cases hlt:j<k
  ·open zhg in exact Zfi
  have t2:decide ((j:Int)<(k:Int))=false:=decide_eq_false WC;have yz:k=j:=by omega
  exact Zfo):=h
def zg2.KbS(h:p:=by
 by_cases hlt:i<j
 ·go_upto_region 17 with fail;open zcY in exact Zbi
 open zgM in exact Ze3):=h
def zhQ.Kcb(h:p:=by
 go_enter func130,ntmps130;go_wp2_with fail;clear t0 t1;go_loopw [14,15] (λ iv jv wr=>∃i j:Nat,a<=i/\i<=j/\j<=m/\iv=af i/\jv=af j/\SS w0 g n wr D/\(∀h,a<=h->h<i->¬lt (D m) (D h))/\∀h,j<=h->h<m->lt (D m) (D h)) (λ iv jv _=>(intOf jv).toNat-(intOf iv).toNat);case atStart=>exact Zhj
 case round=>
  open zg2 in exact Ze8):=h
theorem KP(w0:t_)(g n cap a m:Nat)(D:Nat->aK)(w:t_)(h:SS w0 g n w D)(hn:n<=1000)(hab:a+1<m)(hb:m+1<=n)(hQ:cT D a m):
  ar 130 #[aL g n cap,af a,af m,af (m+1),.func (.func 14) #[] #[]] w (cI w0 g n a (m+1) D):=by
 open zhQ in exact Zgg
variable{m mid s0 r0:Nat}
theorem Qo.goP{a s r c p:Nat}(hp:p=mid+m-1)(he:jC a m b mid s0 r0)(h1:cT D a m)(h2:cT D m b)(h:Qo D p s0 r0 s r)(hs:s0<=s)(hr:r<=r0)(hc:s<=c)(hc2:c<r):
  (¬lt (D (p-c)) (D c)->Qo D p s0 r0 (c+1) r)/\(lt (D (p-c)) (D c)->Qo D p s0 r0 s c):=by subst hp;exact Qo.go he h1 h2 h hs hr hc hc2
theorem vL{a s p f:Nat}(hp:p=mid+m-1)(hf:f=mid+m-s)(he:jC a m b mid s0 r0)(h1:cT D a m)(h2:cT D m b)(h:Qo D p s0 r0 s s)(hs:s0<=s)(hr:s<=r0):
  cT (bS D s m f) a s/\cT (bS D s m f) s mid/\cT (bS D s m f) mid f/\cT (bS D s m f) f b/\
  ∀x y,a<=x->x<mid->mid<=y->y<b->le (bS D s m f x) (bS D s m f y):=by subst hp hf;exact yP he h1 h2 h hs hr
def Xv(n:Nat)(f:Nat->Value):x_:=((List.range n).map f).toArray
theorem sT(T:x_)(h:T.size=n):∃f:Nat->Value,T=Xv n f:=by refine⟨λ i=>T.getD i undef,Array.ext (by simp[Xv,h]) λ i h1 h2=>?_⟩;simp[Xv,Array.getD,h1]
theorem aT{i:Nat}(f:Nat->Value)(h:i<n):(Xv n f).getD i undef=f i:=by simp[Xv,Array.getD,h]
def eC:Code->Nat->Code
 |.seq _ b,n+1=>eC b n
 |c,_=>c
noncomputable def bK:Code:=f28.body.getD .skip
def bU(f:Nat->Value):x_:= #[f 0,f 1,f 2,f 3,f 4,f 5,f 6,f 7,f 8,f 9,f 10,f 11,f 12,f 13,f 14,f 15,f 16,f 17,f 18,f 19,f 20,f 21,f 22,f 23,f 24,f 25,f 26,f 27,f 28,f 29,f 30,f 31,f 32,f 33,f 34,f 35,f 36,f 37,f 38,f 39,f 40,f 41,f 42,f 43,f 44,f 45,f 46,f 47,f 48,f 49,f 50,f 51,f 52,f 53,f 54,f 55,f 56,f 57,f 58,f 59,f 60,f 61,f 62,f 63,f 64,f 65,f 66,f 67,f 68,f 69,f 70,f 71,f 72,f 73,f 74,f 75,f 76,f 77,f 78,f 79,f 80,f 81,f 82,f 83,f 84,f 85,f 86,f 87,f 88,f 89,f 90,f 91,f 92,f 93,f 94,f 95,f 96,f 97,f 98,f 99,f 100,f 101,f 102,f 103,f 104,f 105,f 106,f 107,f 108,f 109,f 110,f 111,f 112,f 113,f 114,f 115,f 116,f 117,f 118,f 119,f 120,f 121,f 122,f 123,f 124,f 125,f 126,f 127,f 128,f 129,f 130,f 131,f 132,f 133,f 134,f 135,f 136,f 137,f 138,f 139,f 140,f 141,f 142,f 143,f 144,f 145,f 146,f 147,f 148,f 149,f 150,f 151,f 152,f 153,f 154,f 155,f 156,f 157,f 158,f 159,f 160,f 161,f 162,f 163,f 164,f 165,f 166,f 167,f 168,f 169,f 170,f 171,f 172,f 173,f 174,f 175,f 176,f 177,f 178,f 179,f 180,f 181,f 182,f 183,f 184,f 185,f 186,f 187,f 188,f 189,f 190,f 191,f 192,f 193,f 194,f 195,f 196,f 197,f 198,f 199,f 200,f 201,f 202,f 203,f 204,f 205,f 206,f 207,f 208,f 209,f 210,f 211,f 212,f 213,f 214,f 215,f 216,f 217,f 218,f 219,f 220,f 221,f 222,f 223,f 224,f 225,f 226,f 227,f 228,f 229,f 230,f 231,f 232,f 233,f 234,f 235,f 236,f 237,f 238,f 239,f 240,f 241,f 242,f 243,f 244,f 245,f 246,f 247,f 248,f 249,f 250,f 251]
theorem lM(T:x_)(h:T.size=252):∃f:Nat->Value,T=bU f:=by
 refine⟨λ i=>T.getD i undef,?_⟩;apply Array.ext;rw[h];rfl;intro i h1 h2;have e:∀(f:Nat->Value) (i:Nat) (hi:i <(bU f).size),(bU f)[i]=f i:=by intro f i hi;have h3:(bU f).toList=(List.range 252).map f:=rfl;have h4:(bU f)[i]=(bU f).toList[i]' Tay:=Tad;exact ZgE
 rw[e];simp[Array.getD,h1]
noncomputable def iz:Code:=f33.body.getD .skip
def frg(f:Nat->Value):x_:= #[f 0,f 1,f 2,f 3,f 4,f 5,f 6,f 7,f 8,f 9,f 10,f 11,f 12,f 13,f 14,f 15,f 16,f 17,f 18,f 19,f 20,f 21,f 22,f 23,f 24,f 25,f 26,f 27,f 28,f 29,f 30,f 31,f 32,f 33,f 34,f 35,f 36,f 37,f 38,f 39,f 40,f 41,f 42,f 43,f 44,f 45,f 46,f 47,f 48,f 49,f 50,f 51,f 52,f 53,f 54,f 55,f 56,f 57,f 58,f 59,f 60,f 61,f 62,f 63,f 64,f 65,f 66,f 67,f 68,f 69,f 70,f 71,f 72,f 73,f 74,f 75,f 76,f 77,f 78,f 79,f 80,f 81,f 82,f 83,f 84,f 85,f 86,f 87,f 88,f 89,f 90,f 91,f 92,f 93,f 94,f 95,f 96,f 97,f 98,f 99,f 100,f 101,f 102,f 103,f 104,f 105,f 106,f 107,f 108,f 109,f 110,f 111,f 112,f 113,f 114,f 115,f 116,f 117,f 118,f 119,f 120,f 121,f 122,f 123,f 124,f 125,f 126,f 127,f 128,f 129,f 130,f 131,f 132,f 133,f 134,f 135,f 136,f 137,f 138,f 139,f 140,f 141,f 142,f 143,f 144,f 145,f 146,f 147,f 148,f 149,f 150,f 151,f 152,f 153,f 154,f 155,f 156,f 157,f 158,f 159,f 160,f 161,f 162,f 163]
theorem KQ(T:x_)(h:T.size=164):∃f:Nat->Value,T=frg f:=by
 refine⟨λ i=>T.getD i undef,?_⟩;apply Array.ext;rw[h];rfl;intro i h1 h2;have e:∀(f:Nat->Value) (i:Nat) (hi:i <(frg f).size),(frg f)[i]=f i:=by intro f i hi;have h3:(frg f).toList=(List.range 164).map f:=rfl;have h4:(frg f)[i]=(frg f).toList[i]' Tay:=Tad;exact ZgE
 rw[e];simp[Array.getD,h1]
noncomputable def rF (xs:List gV):Int:=bX (xs.map λ x=>cf (x.ss.map gT))
noncomputable def FY (xs:List gV):z_:=xs.map λ x=>x.key++(x.ss.map gT).map (·.1)
theorem qL{g:Nat}{o:Option Nat}(h:w.grownBy w1 (some g))(hg:w1.grownBy w2 o)(hB:w.heap.size<=B)(ho:∀q,o=some q->B<=q):w.grownBy w2 (some g):=
 ⟨hg.os.trans h.os,hg.tape.trans h.tape,hg.output.trans h.output,fK h.size hg.size,λ k hk hn=>(hg.block k (eS hk h.size) λ e=>by have:=ho k e.symm;omega).trans (h.block k hk hn)⟩
theorem Xw{k:Nat}(h:k<xs.length):rF (xs.take (k+1))=jO (rF (xs.take k)) (cf (xs[k].ss.map gT)):=by unfold rF;rw[take_add_one,getElem?_eq_getElem h,map_append];exact sx _ _
theorem UO{b e:Int}(h:jO b e=0):b=0/\e=0:=by unfold jO at h;split at h<;>omega
def zgJ.KbN(h:p:=by
 clear HV;go_upto_region 34 with fail;have LT:=ah W4 (.cells (aC v) 44);have Ly:=aB.new W4 44 (aC v);have nE:=aa (HV6.ae.later LT);have KT:=aa (Pw.ae.later LT);have DB:=aa (show wo.grownBy _ (some gb)from ba yD.ae (aQ LT));have DD:=aa Ly;have hbase:=DB.ae.size;have FB:(x.key++((x.ss.take m).map gT).map (·.1)).length<=200000:=by have:=HKK.ae;simp only[length_append,length_map,length_take];omega
 have rL:=aa (show x.key++((x.ss.take (m+1)).map gT).map (·.1)=x.key++((x.ss.take m).map gT).map (·.1)++[v] by rw[nx.ae,map_append,map_append,HVE.ae,append_assoc];rfl);generalize x.key++((x.ss.take m).map gT).map (·.1)=L at*;clear LT Ly;go_wp2_with (first
  |(at_builtin
    refine aV rfl (.tmp 151) (.tmp 153) 38 rfl _ 32 underlying38 mD rfl WC v rfl Ta2 rfl nE.ae W4.heap.size rfl DD.ae WC WC hbase ?_;intro v4 w4 o4 g4;have O4:=aa o4;have B4:=aa (KT.ae.lg nE.ae Tab g4);have YV:=aa (qL DB.ae g4 aE (λ q hq=>(nE.ae.lt hq).2.1));clear o4 g4))
 go_roundw
 case rel=>
  refine⟨m+1,FN,by go_num,?_,?_,B4.ae,YV.ae⟩;rw[rL.ae];exact O4.ae;intro a ha;rw[nx.ae,map_append]at ha;rcases List.mem_append.1 ha with ha|ha;exact LI.ae a ha;simp only[map_cons,map_nil,mem_singleton]at ha;rw[ha,<-PW.ae]
 case measure=>exact Za2):=h
def zig.Kcn(h:p:=by have HO5:=iT.ae.later hL;have HM5:=Nj.ae.later hL;have Xh:w.grownBy W3 (some gb):=ba HO.ae (aQ hL);go_wp2_with fail;exact HHA.ae _ _ u18 cl rfl rfl rfl HO5 HM5 HS.ae Xh):=h
theorem aef(xs:List gV)(B:Nat)(LA:xP)(lc gb:Nat)(T:x_)(hT:T.size=164)(h9:T.getD 9 undef=aw gb)(h10:T.getD 10 undef=.slice LA xs.length lc)(d:List Deferred)(w:t_)(Q:y_)
  (hgb:aB w gb 84 #[af 0]) (hL:NP w w.heap.size LA (xs.map gV.g)) (hLg:∀a,LA=some a->a.block≠gb) (Ly:lj w B xs) (hn:xs.length<=1000000)
  (hk:∀x∈xs,x.key.length<=1000/\x.ss.length<=100000) (bc:∀x∈xs,∀s∈x.ss,s.Ok/\∃v e,gZ s v e)
  (h:∀a W ov cl,a.defers=d->a.tmps.getD 4 undef=ov->a.tmps.getD 5 undef=af (rF xs)->aH bh 38 1 W w.heap.size ov cl->Mine W w.heap.size cl->(rF xs=0->cl.map (·.l)=FY xs)->w.grownBy W (some gb)->Q .ret a W):
  (eC iz 8).wp prog Q {tmps:=T,defers:=d} w:=by
 obtain⟨f,rfl⟩:=KQ T hT;have h9:f 9=_:=h9;have h10:f 10=_:=h10;simp only[frg,h9,h10];clear h9 h10;clear h9 h10 hT;have HH:=aa h;have Ae:=aa hgb;have HL:=aa hL;have U4:=aa hLg;have HG:=aa Ly;have LE:=aa hk;have MY:=aa bc;clear h hgb hL hLg Ly hk bc;simp only[iz,eC,f33,Option.getD_some];go_wp2_with fail;go_loopw [18,125] (λ ov i wr=>∃(k:Nat) (cl:List aK),k<=xs.length/\i=af k/\aH bh 38 1 wr w.heap.size ov cl/\Mine wr w.heap.size cl/\cl.length=k/\aB wr gb 84 #[af (rF (xs.take k))]/\(rF (xs.take k)=0->cl.map (·.l)=FY (xs.take k))/\w.grownBy wr (some gb)) (λ _ i _=>xs.length-(intOf i).toNat);case atStart=>exact⟨0,[],gE,rfl,aH.nil,(λ r hr=>by cases hr),rfl,Ae.ae,(λ _=>rfl),World.grownBy.refl w _⟩
 case round=>
  obtain⟨k,cl,hkx,rfl,Ui,qT,hfn,hz,hS,hw⟩:=hrel;have iT:=aa Ui;have Nj:=aa qT;have HFN:=aa hfn;have HK:=aa hz;have HS:=aa hS;have HO:=aa hw;clear Ui qT hfn hz hS hw;by_cases hlt:k<xs.length
  ·obtain⟨lb,hA,yB,hc0⟩:=HL.ae.at_ (k:=k) (by rw[length_map];exact hlt);have YP:=U4.ae _ hA;have hc1:=(bI (HO.ae.block lb yB (λ e=>by injection e with e;exact YP e)) k).trans hc0;rw[getElem_map]at hc1;have hGw:=HG.ae.grown HO.ae Ae.ae Tab Tab Tab Tab;have hx:=hGw.at_ xs[k] (getElem_mem hlt);have fX:=LE.ae xs[k] (getElem_mem hlt);have HOX:=aa (MY.ae xs[k] (getElem_mem hlt));have Np:=aa (Xw hlt);have Xy:=aa (show FY (xs.take (k+1))=FY (xs.take k)++[xs[k].key++(xs[k].ss.map gT).map (·.1)] by unfold FY;rw[take_add_one,getElem?_eq_getElem hlt,map_append];rfl);generalize xs[k]=x at*;generalize rF (xs.take k)=He at*;have HX:=aa hx;have HKK:=aa fX;have iC:=hx.blk;obtain⟨SA,sc,Ep,hsr⟩:=ey (f:=dh) (size:=1) (λ _=>rfl) hx.own;rw[Ep]at iC;have z0:=iC.cell 0;have z1:=iC.cell 1;simp only[Uaa]at z0 z1;have HSR:=aa hsr;have HSV:=aa Ep;rw[hA];clear hc0 yB YP hA hGw hx fX Ep hsr iC;go_wp2_with fail;refine(vD x.KA x.kc x.key wr HX.ae.key.rv HKK.ae.1).mono ?_;rintro e w1 ⟨rv,rfl,uw,b1⟩;have Cv:=aa uw;have Lw:=aa (show wr.grownBy w1 (some gb)from aQ b1);have fT:=aa (HK.ae.later b1);have y1:=(b1.cell (p:=⟨x.g,1,none⟩) HX.ae.blk.lt).trans z1;clear uw b1 z0 z1 hc1;go_wp2_with fail;clear y1;generalize wr=wo at*;go_loopw [21,139] (λ rv j wq=>∃m:Nat,m<=x.ss.length/\j=af m/\aH aX 44 3 wq wo.heap.size rv (x.key++((x.ss.take m).map gT).map (·.1))/\(∀a∈(x.ss.take m).map gT,a.2=0)/\aB wq gb 84 #[af He]/\wo.grownBy wq (some gb)) (λ _ j _=>x.ss.length-(intOf j).toNat)
   case atStart=>exact⟨0,gE,rfl,by simpa using Cv.ae,(λ a ha=>by simp at ha),fT.ae,Lw.ae⟩
   case round=>
    clear Cv Lw fT;obtain⟨m,hm,rfl,kB,hg4,pD,HZ⟩:=hrel;have HI:=aa kB;have LI:=aa hg4;have Ie:=aa pD;have uv:=aa HZ;clear kB hg4 pD HZ;have NA:=HX.ae.rK.len;have hm9:m<=100000:=by have:=HKK.ae.2;omega
    have hm8:x.ss.length<=100000:=HKK.ae.2;by_cases FN:m<x.ss.length
    ·obtain⟨g2,uJ,hg2,hc2⟩:∃g2,SA=some ⟨g2,0,none⟩/\g2<wo.heap.size/\wo.cell? ⟨g2,m,none⟩=some (.pointer (some ⟨x.qs[m]' TaZ,0,none⟩)):=by
      rcases HSR.ae with h0|⟨g2,e1,e2,e3⟩
      ·have:x.qs.length=0:=by rw[h0];rfl
       omega
      refine⟨g2,e1,e2,?_⟩;have:=e3 m (x.qs[m]' TaZ) 0 _ (getElem?_eq_getElem _) WC rfl;exact ZfH
     have hx2:=((lj.mk (λ y hy=>by rw[mem_singleton]at hy;rw[hy];exact HX.ae) (pairwise_singleton _ _):lj wo B [x]).grown uv.ae HK.ae Tab Tab Tab Tab).at_ x (mem_singleton_self x);have apZ:g2≠gb:=by
      have KK:x.sv.ownBlock=some g2:=by rw[HSV.ae,fO,uJ];rfl
      obtain⟨_,_,cur,zF⟩:=HX.ae.own.lt KK;exact lJ (show aB wo g2 145 cur from zF) HK.ae Tab
     have hc3:=(bI (uv.ae.block g2 hg2 (λ e=>by injection e with e;exact apZ e)) m).trans hc2;have hst:=hx2.rK.at_ m (x.qs[m]' TaZ) x.ss[m] (getElem?_eq_getElem _) (getElem?_eq_getElem _);obtain⟨U5,hsa⟩:=HOX.ae x.ss[m] (getElem_mem FN);have aqb:=JN hsa;have nx:=aa (show x.ss.take (m+1)=x.ss.take m++[x.ss[m]] by rw[take_add_one,getElem?_eq_getElem FN];rfl);have HFB:=aa (show(gT x.ss[m]).2≠0->cf (x.ss.map gT)=(gT x.ss[m]).2 from λ hne=>by
      have e1:x.ss.map gT=(x.ss.take m).map gT++gT x.ss[m]::(x.ss.drop (m+1)).map gT:=by rw[<-map_cons,<-map_append,<-drop_eq_getElem_cons FN,take_append_drop]
      rw[e1];exact Q7 LI.ae hne)
     generalize x.ss[m]=st at*;generalize x.qs[m]' TaZ=q at*;rw[uJ]at*;have aeg:=aa (Ql q st (gT st).1 (gT st).2 wr hst U5 aqb);clear hg2 hc2 hx2 apZ hst U5 hsa aqb uJ;obtain⟨v,hv⟩:∃v,v=(gT st).1:=⟨_,rfl⟩;obtain⟨er,her⟩:∃er,er=(gT st).2:=⟨_,rfl⟩;rw[<-hv,<-her]at aeg;rw[<-her]at HFB;have HVE:=aa hv;have PW:=aa her;clear hv her;unfold bP at aeg;rw[NA];go_wp2_with fail;clear hc3;refine aeg.ae.mono ?_;rintro e w2 ⟨rfl,b2⟩;have U6:=aa (Ie.ae.later b2);have HV4:=aa (HI.ae.later b2);have Kx:=aa (show wo.grownBy w2 (some gb)from ba uv.ae (aQ b2));clear b2 Ie HI uv aeg;go_upto_region 33 with fail;have bN:=ah w2 (.cells (aC v) 44);have hG:=aB.new w2 44 (aC v);have wu:=aa (U6.ae.later bN);have HV5:=aa (HV4.ae.later bN);have Xh:=aa (show wo.grownBy _ (some gb)from ba Kx.ae (aQ bN));generalize hW:w2.alloc (.cells (aC v) 44)=W at*;generalize w2.heap.size=gn at*;clear hW bN U6 HV4 Kx;go_wp2_with fail;refine(xq gb He er _ wu.ae).mono ?_;rintro e W4 ⟨rfl,hb3,HZ⟩;have Pw:=aa hb3;have yD:=aa (show wo.grownBy W4 (some gb)from ba Xh.ae HZ);have HV6:=aa (HV5.ae.grown HZ (HV5.ae.other wu.ae Tab));have HV:=hG.grown HZ (λ e=>by injection e with e;exact lJ hG wu.ae Tab e);clear hb3 HZ wu HV5 Xh hG;by_cases he:er=0;subst he;have Pw:=aa (show aB W4 gb 84 #[af He] by have h6:=Pw.ae;rwa [CW]at h6);open zgJ in exact Ze2
     have t1:(er==0)=false:=by simp[he]
     have awA:=aa he;have nK:=aa (HFB.ae he);have HBc:=Pw;have HVc:=HV6;have HGc:=yD;generalize x.key++((x.ss.take m).map gT).map (·.1)=L at*;clear he HV;obtain⟨RA,rc,Er,_⟩:=HVc.ae.reads;subst Er;go_upto_region 36 with fail;have LT:=ah W4 (.cells #[.slice RA L.length rc] 38);have Ly:=aB.new W4 38 #[.slice RA L.length rc];have Bt:=aa ((iT.ae.grown HGc.ae (iT.ae.other HK.ae Tab)).later LT);have HM7:=aa (show Mine _ w.heap.size cl from Mine.later (λ r hr=>(Nj.ae r hr).grown HGc.ae ((Nj.ae r hr).other HK.ae Tab)) LT);have nE:=aa (HVc.ae.later LT);have KT:=aa (HBc.ae.later LT);have DB:=aa (show w.grownBy _ (some gb)from ba (ba HO.ae HGc.ae) (aQ LT));have DD:=aa Ly;have hbase:=DB.ae.size;have HWO:=aa HO.ae.size;have awE:=HFN.ae;clear LT Ly;go_wp2_with (first
      |(at_builtin
        refine aV rfl (.tmp 156) (.tmp 158) 29 rfl _ 24 underlying29 iG rfl WC (⟨RA,L,rc⟩:aK) rfl Tar rfl Bt.ae W4.heap.size rfl DD.ae WC WC hbase ?_;intro v4 w4 o4 g4;have O4:=aa o4;have B4:=aa (KT.ae.lg Bt.ae Tab g4);have V4:=aa (nE.ae.past Bt.ae Tab g4);have M4:=aa (HM7.ae.grown Bt.ae g4);have YV:=aa (qL DB.ae g4 aE (λ q hq=>(Bt.ae.lt hq).2.1));clear o4 g4))
     go_roundw
     case rel=>
      refine⟨k+1,cl++[⟨RA,L,rc⟩],hlt,by go_num,O4.ae,ZfA,by simp[HFN.ae],?_,?_,YV.ae⟩;rw[Np.ae,nK.ae];exact B4.ae;intro h0;rw[Np.ae,nK.ae]at h0;exact absurd (UO h0).2 awA.ae
     case measure=>exact Za2
    have hmm:m=x.ss.length:=by omega
    subst hmm;have HTT:=aa (show x.ss.take x.ss.length=x.ss from take_length);have nK:=aa (show cf (x.ss.map gT)=0 from Ky λ a ha=>LI.ae a (by rw[HTT.ae];exact ha));have HVc:=aa (show aH aX 44 3 wr wo.heap.size u21 (x.key++(x.ss.map gT).map (·.1)) by have h3:=HI.ae;rwa [HTT.ae]at h3);have HBc:=Ie;have HGc:=uv;generalize x.key++(x.ss.map gT).map (·.1)=L at*;rw[<-NA];clear HI Ie uv FN hm;obtain⟨RA,rc,Er,_⟩:=HVc.ae.reads;subst Er;go_upto_region 36 with fail;have LT:=ah wr (.cells #[.slice RA L.length rc] 38);have Ly:=aB.new wr 38 #[.slice RA L.length rc];have Bt:=aa ((iT.ae.grown HGc.ae (iT.ae.other HK.ae Tab)).later LT);have HM7:=aa (show Mine _ w.heap.size cl from Mine.later (λ r hr=>(Nj.ae r hr).grown HGc.ae ((Nj.ae r hr).other HK.ae Tab)) LT);have nE:=aa (HVc.ae.later LT);have KT:=aa (HBc.ae.later LT);have DB:=aa (show w.grownBy _ (some gb)from ba (ba HO.ae HGc.ae) (aQ LT));have DD:=aa Ly;have hbase:=DB.ae.size;have HWO:=aa HO.ae.size;have awE:=HFN.ae;clear LT Ly;go_wp2_with (first
     |(at_builtin
       refine aV rfl (.tmp 156) (.tmp 158) 29 rfl _ 24 underlying29 iG rfl WC (⟨RA,L,rc⟩:aK) rfl Tar rfl Bt.ae wr.heap.size rfl DD.ae WC WC hbase ?_;intro v4 w4 o4 g4;have O4:=aa o4;have B4:=aa (KT.ae.lg Bt.ae Tab g4);have V4:=aa (nE.ae.past Bt.ae Tab g4);have M4:=aa (HM7.ae.grown Bt.ae g4);have YV:=aa (qL DB.ae g4 aE (λ q hq=>(Bt.ae.lt hq).2.1));clear o4 g4))
    go_roundw
    case rel=>
     refine⟨k+1,cl++[⟨RA,L,rc⟩],hlt,by go_num,O4.ae,ZfA,by simp[HFN.ae],?_,?_,YV.ae⟩;rw[Np.ae,nK.ae,CW];exact B4.ae;intro h0;rw[Np.ae]at h0;rw[map_append,HS.ae (UO h0).1,Xy.ae];rfl
    case measure=>exact Za2
  have fX:k=xs.length:=by omega
  subst fX;have HTT:=aa (show xs.take xs.length=xs from take_length);have HK:=aa (show aB wr gb 84 #[af (rF xs)] by have h1:=HK.ae;rwa [HTT.ae]at h1);have HS:=aa (show rF xs=0->cl.map (·.l)=FY xs by have h1:=HS.ae;rwa [HTT.ae]at h1);have HHA:=aa (show∀a W ov cl,a.defers=d->a.tmps.getD 4 undef=ov->a.tmps.getD 5 undef=af (rF xs)->aH bh 38 1 W w.heap.size ov cl->Mine W w.heap.size cl->(rF xs=0->cl.map (·.l)=FY xs)->w.grownBy W (some gb)->Q .ret a W from HH.ae);generalize rF xs=He at*;go_upto_region 38 with fail;refine bD 5 (adi u18 gb He) (CX _ _ _) Taa Taa Taa ?_ ?_;exact Zfj;intro W3 hL;simp only[Uab];rintro a0-a1-a2-a3 q3 Hc Wm;replace q3:u18=a3:=Eq.symm q3;open zig in exact Zhg
theorem Ip(m:Nat):(Builtin.zeroCells (Value.pointer none).cells m)=(List.replicate m (Value.pointer none)).toArray:=by apply Array.ext;simp[Builtin.zeroCells,Value.cells];intro i h1 h2;simp[Builtin.zeroCells,Value.cells,Nat.mod_one]
theorem xQ{ops:Array Oper}{o:Oper}(hgd:o.guard=none)(s x:Operand)
  (ho:o.op=.call {callee:=.builtin .append,args:= #[s,x],argTypes:= #[134,3]}) (g k cap m:Nat) (hs:ac.eval s=aL g k cap) (hx:ac.eval x=af m)
  (olds:xr) (Xz:olds.length=k) (hc:∀(j:Nat) v,olds[j]?=some v->w.cell? ⟨g,j,none⟩=some v) (h0:0<m) (hg:cap<k+m) (vt:k+m<=1000001)
  (h:∀w' C,aB w' w.heap.size 135 (olds++List.replicate (C-k) (Value.pointer none)).toArray->k+m<=C->C<=maxLen->ai w w'->wpList prog ops Q rest (ac.put o.dst (aL w.heap.size (k+m) C)) w'):wpList prog ops Q (o::rest) ac w:=by
 obtain⟨i0,kB,hz0,hz1,hz2⟩:=info_parts DJ;have hold:(Builtin.firstCells i0.size k (aL g k cap)).run prog w.drew=.ok olds.toArray w.drew:=by refine run_firstCells_some w.drew i0.size k ⟨g,0,none⟩ k cap olds (by rw[hz1,Xz];omega) λ j v hj=>?_;rw[NJ,Nat.zero_add];exact hc j v hj
 have hrun:=Lib.run_append_grow_zeros w 134 3 o.type 135 i0 _ .i64 .i64 underlying134 underlying3 kB hz0 (some ⟨g,0,none⟩) k cap olds hold m h0 (by rw[hz1];omega) hg WC (by rw[hz2];omega) (growslice_fits hg (by rw[hz2];omega));have wI:=grownCap_ge w (k+m) cap 135;have hle:=grownCap_le_maxLen w (k+m) cap 135 Tam;generalize grownCap w (k+m) cap 135=C at*;have he:olds.toArray++Builtin.zeroCells (Value.pointer none).cells m++Builtin.zeroCells (Value.pointer none).cells (C-(k+m))=(olds++List.replicate (C-k) (Value.pointer none)).toArray:=by rw[Ip,Ip];apply Array.ext';simp only[Array.toList_append,toList_toArray,append_assoc,replicate_append_replicate];rw[show m+(C-(k+m))=C-k by omega]
 rw[he]at hrun;refine wpList_plain hgd λ K hK=>?_;unfold Oper.wp;simp[execOp,ho,resolve,invoke,builtin,hs,hx,hrun,Result.andThen];have hb:ai w (w.drew.alloc (.cells (olds++List.replicate (C-k) (Value.pointer none)).toArray 135)):=(show ai w w.drew from⟨rfl,rfl,rfl,aE,λ _ _=>rfl⟩).alloc aE _;exact hK _ _ (h _ C (aB.new w.drew _ _) wI hle hb)
def ajF(e g n C cap k:Nat):Nat->t_->Value->Prop
 |0,_,v=>v=aL e (n+1) C
 |1,_,v=>v=af k
 |2,_,v=>v=af 1
 |3,_,v=>v=af (k+1)
 |4,_,v=>v=.slice (some ⟨e,k+1,none⟩) (n+1-(k+1)) (C-(k+1))
 |5,_,v=>v=aL g n cap
 |6,_,v=>v=af k
 |7,_,v=>v=.slice (some ⟨g,k,none⟩) (n-k) (cap-k)
 |_,_,_=>False
theorem Sn(e g n C cap k:Nat):∀i w w' v,ajF e g n C cap k i w v->aj w w'->ajF e g n C cap k i w' v:=by exact Zg9
def zhu.Kb3(h:p:=by
 have M7:g≠e:=by have h1:=Qa.ae.lt;have h2:=HE.ae;omega
 have hl:c2.size=C:=by have h1:=aqg.ae;have h2:=rL.ae;rw[h1];simp only[size_toArray,toList_toArray,length_append,length_take,length_drop,length_replicate,length_singleton];omega
 have hw:((gs.drop k).map fp).length=n-k:=by rw[length_map,length_drop,<-HN.ae]
 have wk:=aa (HG2.ae.later hL);have hh:w.grownBy W3 (some e):=ba (ba (aQ vq.ae) awF.ae) (aQ hL);have hS:∀(j:Nat) v,((gs.drop k).map fp)[j]?=some v->W3.cell? ((⟨g,k,none⟩:Addr).add j)=some v:=λ j v hj=>by rw[NJ,bI (hh.block g Qa.ae.lt (λ e2=>by injection e2 with e2;exact M7 e2))];refine Pt.ae (k+j) v ?_;rw[getElem?_map,getElem?_drop,<-getElem?_map]at hj;exact hj
 have HS:=aa hS;have HO:=aa hw;have HL:=aa hl;have A1:=aa hh;have A2:=aa M7;clear hL hS hw hl hh M7;refine jH rfl (.tmp 50) (.tmp 53) rfl e (k+1) c2 ⟨g,k,none⟩ ((gs.drop k).map fp) _ _ _ _ rfl rfl wk.ae (by rw[HO.ae,HL.ae];omega) (by rw[HO.ae];simp only[Nat.min_def];split<;>omega) HS.ae (BZ _) ?_;intro KK u4 hg4 Xj;have LI:=aa hg4;have ajj:=aa (ba A1.ae Xj);clear hg4 Xj;go_wp2_with fail;go_ret;have hen:=HE.ae;have pY:=HN.ae;have hcc:=AU.ae;have awG:=aqg.ae;have UQ:=rL.ae;have hw:=HO.ae;have hsz:=HL.ae;have MW:w.grownBy KK (Value.slice (some ⟨g,0,none⟩) n cap).ownBlock:=by have hg:=ajj.ae;rw[fO];refine⟨hg.os,hg.tape,hg.output,hg.size,λ q hq _=>hg.block q hq λ e2=>?_⟩;injection e2 with e2;omega
 refine⟨_,rfl,⟨?_,.inr ⟨e,C,_,?_,by rw[hen];exact HBG.ae,LI.ae,?_,hcc,?_,?_⟩⟩,MW⟩;simp[sN,dh];congr 1;simp;omega;simp;omega;simp only[size_toArray,length_append,length_take,length_drop,Array.length_toList,hw,hsz];omega;obtain⟨R,hR⟩:∃R,R=c2.toList.drop (k+1+((gs.drop k).map fp).length):=⟨_,rfl⟩;rw[<-hR];have e0:c2.toList.take (k+1)=(gs.take k).map fp++[fp x]:=by rw[awG];simp only[toList_toArray];rw[take_left' UQ,<-append_assoc];exact take_left' (by rw[length_append,UQ];rfl)
 rw[sN,toList_toArray,e0,Nat.mul_one];have e3:(gs.take k).map fp++[fp x]++((gs.drop k).map fp++R)=(gs.take k++x::gs.drop k).map fp++R:=Tad;exact Zhz):=h
theorem Ol(gs:List Nat)(x k:Nat)(g cap base vb:Nat)(cur:x_)(w:t_)(Kx:gs.length<=1000000)(hk:k<gs.length)(hbg:base<=w.heap.size)(hg:aB w g 135 cur)(hle:gs.length<=cap)(hroom:cap<gs.length+1)(hsz:cur.size=cap)(mC:cur.toList.take gs.length=gs.map fp)(hv:aB w vb 135 #[aw x]):
  ar 66 #[aL g gs.length cap,af k,aL vb 1 1] w (Ca (aL g gs.length cap) base (gs.take k++x::gs.drop k) w):=by
 obtain⟨n,pY⟩:∃n,n=gs.length:=⟨_,rfl⟩;have HN:=aa pY;rw[<-pY]at Kx hk hroom mC hle⊢;have Xi:=λ u=>jb (some ⟨g,0,none⟩) n cap k WC u;have aph:=λ u=>DL (some ⟨g,0,none⟩) n cap k WC u;have RG:=Xi;rw[if_neg WC]at Xi RG;simp only[Option.map_some,dX,Nat.mul_one,Nat.zero_add]at Xi RG;have mixed:prog.follows .mixedOrders=true:=Taa;have t1:((k:Int)==(n:Int))=false:=Tac;have t2:decide ((cap:Int)<(n:Int)+1)=true:=decide_eq_true WC;have zc:((n:Int)+1)-(k:Int)=((n+1-k:Nat):Int):=WC;have hcell:∀(j:Nat) v,(gs.map fp)[j]?=some v->w.cell? ⟨g,j,none⟩=some v:=λ j v hj=>by
  rw[hg.cell,<-Array.getElem?_toList];have e:(cur.toList.take n)[j]?=some v:=by rw[mC];exact hj
  rw[getElem?_take]at e;split at e;exact e;cases e
 have Pt:=aa hcell;have Qa:=aa hg;have HV:=aa hv;have HBG:=aa hbg;have rL:=aa (show((gs.take k).map fp).length=k by rw[length_map,length_take];omega);have HTC:=aa (show∀(j:Nat) v,((gs.take k).map fp)[j]?=some v->w.cell? ⟨g,j,none⟩=some v from λ j v hj=>hcell j v (by rw[map_take,getElem?_take]at hj;split at hj;exact hj;cases hj))
 clear hg hv mC hsz pY hcell hbg;go_enter func66,ntmps66;go_wp2_with (first
  |(simp only[zc])
  |(at_builtin
    refine xQ rfl (.tmp 34) (.tmp 39) rfl g k cap (n+1-k) rfl rfl ((gs.take k).map fp) rL.ae HTC.ae WC WC WC ?_;intro w1 C hb1 hC1 hC2 MW;have e1:k+(n+1-k)=n+1:=WC;rw[e1]at*;have eZ:=aa hb1;have AU:=aa hC2;have vq:=aa MW;have FU:=λ u=>jb (some ⟨w.heap.size,0,none⟩) (n+1) C (k+1) WC u;have ajG:=λ u=>jb (some ⟨w.heap.size,0,none⟩) (n+1) C k WC u;rw[if_neg WC]at FU ajG;simp only[Option.map_some,dX,Nat.mul_one,Nat.zero_add]at FU ajG
    push_cast at FU
    obtain⟨e,he⟩:∃e,e=w.heap.size:=⟨_,rfl⟩;have HE:=aa he;rw[<-he]at eZ FU ajG⊢;have HX:=aa (show∀(j:Nat) v,[fp x][j]?=some v->w1.cell? ((⟨vb,0,none⟩:Addr).add j)=some v from λ j v hj=>by rw[NJ,Nat.zero_add,(HV.ae.later vq.ae).cell];simpa [fp] using hj)
    clear hb1 hC2 MW he e1)
  |(refine jH rfl (.tmp 43) (.tmp 44) rfl e k _ ⟨vb,0,none⟩ [fp x] _ _ _ _ rfl rfl eZ.ae (by have:=rL.ae;simp only[size_toArray,length_append,length_replicate,length_singleton];omega) TaU HX.ae (BZ [x]) ?_
    intro W2 u2 hg2 aqf;obtain⟨c2,hc2⟩:∃c2:x_,c2=((((gs.take k).map fp++List.replicate (C-k) (Value.pointer none)).toArray.toList.take k)++([fp x]++(((gs.take k).map fp++List.replicate (C-k) (Value.pointer none)).toArray.toList.drop (k+ [fp x].length)))).toArray:=⟨_,rfl⟩;have HG2:=aa (show aB W2 e 135 c2 from hc2▸hg2);have aqg:=aa hc2;have awF:=aa aqf;clear hg2 aqf hc2))
 refine bD 8 (ajF e g n C cap k) (Sn _ _ _ _ _ _) Taa Taa Taa ?_ ?_;exact Zbr
 open zhu in exact Zfz
theorem Sp(gs:List Nat)(x k:Nat)(lv:Value)(base vb:Nat)(w:t_)(hl:gs.length<=1000000)(hk:k<=gs.length)(hO:aH dh 135 1 w base lv gs)(hv:aB w vb 135 #[aw x])(hbase:base<=w.heap.size)(hne:lv.ownBlock≠some vb):
  ar 66 #[lv,af k,aL vb 1 1] w (Ca lv base (gs.take k++x::gs.drop k) w):=by
 rcases gR k gs.length with hlt|wI
 ·obtain⟨h1,h2|⟨g,cap,cur,rfl,hbg,hg,hlc,hm,hsz,mC⟩⟩:=hO
  ·obtain⟨_,h2⟩:=h2;omega
  rw[sN,Nat.mul_one]at mC;rw[Nat.mul_one]at hsz;rcases gR cap (gs.length+1)with hc|hc;exact Ol gs x k g cap base vb cur w hl hlt hbase hg hlc hc hsz mC hv;exact NT gs x k g cap base vb cur w hl hlt hbg hg hc hm hsz mC hv (λ e=>hne (by rw[e];rfl))
 have fX:k=gs.length:=by omega
 subst fX;rw[take_length,drop_length];exact RD gs x lv base vb w hl hO hv hbase
def Iq(cols:List aZ)(row:w_)(l:vI):w_:=(Tr.fN cols row l).map (·.1)
def weL(cols:List aZ)(row:w_)(l:vI):Int:=cf (Tr.fN cols row l)
variable{β:Type}
theorem fL{c:β->Int}{l:List β}:bX (l.map c)=0↔∀b∈l,c b=0:=
 ⟨λ h b hb=>RJ h _ (mem_map_of_mem hb),λ h=>Aw λ e he=>by obtain⟨b,hb,rfl⟩:=List.mem_map.1 he;exact h b hb⟩
def exE:uC α->Int
 |.error e=>e
 |.ok _=>0
def vu:uC α->Option α
 |.ok x=>some x
 |.error _=>none
theorem Es(l:List (uC α)):Be l=if bX (l.map exE)≠0 then .error (bX (l.map exE))else .ok (l.filterMap vu):=rfl
theorem UR(c:β->Int)(v:β->α)(l:List β):Be (l.map λ b=>if c b≠0 then(.error (c b):uC α)else .ok (v b))=if bX (l.map c)≠0 then .error (bX (l.map c))else .ok (l.map v):=by
 have e1:(l.map λ b=>if c b≠0 then(.error (c b):uC α)else .ok (v b)).map exE=l.map c:=by rw[map_map];refine map_congr_left λ b _=>?_;by_cases h:c b=0;simp[h,exE];simp[h,exE]
 rw[Es,e1];by_cases h:bX (l.map c)=0
 ·rw[if_neg TaR,if_neg TaR];congr 1;have h2:=fL.1 h;clear h e1
  induction l with
  |nil=>rfl
  |cons b l ih=>have hb:=h2 b (mem_cons_self ..);rw[map_cons,map_cons,filterMap_cons,if_neg (by simp[hb])];show v b::_=_;rw[ih λ x hx=>h2 x (mem_cons_of_mem _ hx)]
 rw[if_pos h,if_pos h]
theorem qM{cols:List aZ}{p:iY}(h:et q cols=.ok p):p.aJ=q.aJ/\(q.items=[]->q.aJ=false)/\∃gc hd s1 s2,qf cols q.bQ=.ok ()/\lF cols q.aG 0=.ok gc/\dr q.aJ q.aG cols q.items ⟨[],gc⟩=.ok (p.items,hd,s1)/\dt q.aJ q.aG cols q.fE s1=.ok (p.having,s2)/\eF q.aJ q.aG cols q.ord s2=.ok (p.order,p.st)/\p.head=if q.items=[] then cols else hd:=by
 unfold et at h;split at h;cases h;split at h;cases h;split at h;cases h;rename_i hw;split at h;cases h;rename_i gc hgc;split at h;cases h;rename_i E4;split at h;cases h;rename_i is hd s1 hi;split at h;cases h;rename_i hs s2 hh;split at h;cases h;rename_i os s3 ho;injection h with h;subst h;refine⟨rfl,λ he=>?_,gc,hd,s1,s2,hw,hgc,hi,hh,ho,rfl⟩;cases hg:q.aJ with
 |false=>rfl
 |true=>exact absurd ⟨he,hg⟩ E4
theorem zL{g:Bool}{aG:vI}{cols:List aZ}:∀{l:List (Tr×u_)}{s:dE}{ys:vI}{hd:List aZ}{s':dE},dr g aG cols l s=.ok (ys,hd,s')->ys.length=l.length
 |[],s,ys,hd,s',h=>by unfold dr at h;injection h with h;injection h with h1 _;rw[<-h1];rfl
 |(t,nm)::l,s,ys,hd,s',h=>by unfold dr at h;split at h;cases h;split at h;cases h;rename_i hi;injection h with h;injection h with h1 _;rw[<-h1,length_cons,zL hi,length_cons]
def fl(cols:List aZ)(l:vI)(rows:z_):z_:=rows.filter λ r=>(eM cols l r).2==0&&(eM cols l r).1
def mX(cols:List aZ)(ng:Nat)(E:vI)(aD:vI)(r:w_):w_×List (Val×Val):=((Iq cols r E).take ng,fU aD ((Iq cols r E).drop ng))
noncomputable def rowOf (ops:List Int) (ps:List (w_×List (Val×Val))) (k:w_):w_:=k++(cg ops ps k).map (·.1)
structure Goes (q:Qy) (p:iY) (cols:List aZ) (rows:z_) (la:z_):Prop where
 fit:∀r∈rows,iE cols r=true
 bQ:∀r∈rows,(eM cols q.bQ r).2=0
 row:∀r∈fl cols q.bQ rows,weL cols r (q.aG++p.st.aD.flatMap Tr.args)=0
 aG:∀k∈di q.aG.length ((fl cols q.bQ rows).map λ r=>(Iq cols r (q.aG++p.st.aD.flatMap Tr.args)).take q.aG.length),cf (cg (p.st.aD.map Tr.op) ((fl cols q.bQ rows).map (mX cols q.aG.length (q.aG++p.st.aD.flatMap Tr.args) p.st.aD)) k)=0
 line:∀k∈di q.aG.length ((fl cols q.bQ rows).map λ r=>(Iq cols r (q.aG++p.st.aD.flatMap Tr.args)).take q.aG.length),weL p.st.aG (rowOf (p.st.aD.map Tr.op) ((fl cols q.bQ rows).map (mX cols q.aG.length (q.aG++p.st.aD.flatMap Tr.args) p.st.aD)) k) (p.items++p.order)=0
 ans:la=(iF [] ((di q.aG.length ((fl cols q.bQ rows).map λ r=>(Iq cols r (q.aG++p.st.aD.flatMap Tr.args)).take q.aG.length)).map λ k=>Ag p (rowOf (p.st.aD.map Tr.op) ((fl cols q.bQ rows).map (mX cols q.aG.length (q.aG++p.st.aD.flatMap Tr.args) p.st.aD)) k) (Iq p.st.aG (rowOf (p.st.aD.map Tr.op) ((fl cols q.bQ rows).map (mX cols q.aG.length (q.aG++p.st.aD.flatMap Tr.args) p.st.aD)) k) (p.items++p.order)))).map eu.row
def Ay(p:iY)(over:List aZ)(r:w_):uC eu:=match bA over r (p.items++p.order)with
 |.error e=>.error e
 |.ok l=>.ok (Ag p r l)
theorem Ir(p:iY)(cols:List aZ)(rows:z_):yZ p cols rows=Be (rows.map (Ay p (ie p cols))):=rfl
variable{la:z_}
theorem Et{p:iY}{cols:List aZ}(hp:et q cols=.ok p)(hg:p.aJ=true)(hh:p.having=[])(ho:q.ord=[])(hl:q.lim=[]){rows:z_}:
  iZ q cols rows=.ok (hd,la)↔hd=p.head/\Goes q p cols rows la:=by
 unfold iZ;rw[hp,hl,ho];dsimp only;by_cases h1:rows.any (λ r=> !iE cols r)=true;rw[if_pos h1];refine⟨λ h=>Tae,λ⟨_,h⟩=>?_⟩;obtain⟨r,hr,hf⟩:=List.any_eq_true.1 h1;have:=h.fit r hr;rw[this]at hf;cases hf;rw[if_neg h1];have fit:∀r∈rows,iE cols r=true:=λ r hr=>by rw[Bool.not_eq_true,any_eq_false]at h1;have:=h1 r hr;simpa using this
 unfold xp;have Bi:(cP cols q.bQ rows).1=fl cols q.bQ rows:=rfl;rw[Bi];by_cases h2:(cP cols q.bQ rows).2=0;rotate_left;rw[if_pos h2];refine⟨λ h=>Tae,λ⟨_,h⟩=>absurd (fL.2 h.bQ) h2⟩;rw[if_neg (by simp[h2]),if_neg (by simp[hg])];have bQ:∀r∈rows,(eM cols q.bQ r).2=0:=fL.1 h2;have ea:Be ((fl cols q.bQ rows).map λ r=>bA cols r (q.aG++p.st.aD.flatMap Tr.args))=_:=UR (λ r=>weL cols r (q.aG++p.st.aD.flatMap Tr.args)) (λ r=>Iq cols r (q.aG++p.st.aD.flatMap Tr.args)) (fl cols q.bQ rows);rw[ea];by_cases h3:bX ((fl cols q.bQ rows).map λ r=>weL cols r (q.aG++p.st.aD.flatMap Tr.args))=0;rotate_left;rw[if_pos h3];exact⟨λ h=>Tae,λ⟨_,h⟩=>absurd (fL.2 h.row) h3⟩;rw[if_neg (by simp[h3])];dsimp only;unfold jE;rw[map_map];have ep:((λ r=>(r.take q.aG.length,fU p.st.aD (r.drop q.aG.length)))∘ λ r=>Iq cols r (q.aG++p.st.aD.flatMap Tr.args))=mX cols q.aG.length (q.aG++p.st.aD.flatMap Tr.args) p.st.aD:=rfl;rw[ep];dsimp only;have ek:(if q.aG.length=0 then [[]] else fZ (((fl cols q.bQ rows).map (mX cols q.aG.length (q.aG++p.st.aD.flatMap Tr.args) p.st.aD)).map (·.1)))=di q.aG.length ((fl cols q.bQ rows).map λ r=>(Iq cols r (q.aG++p.st.aD.flatMap Tr.args)).take q.aG.length):=by rw[map_map];rfl
 rw[ek];have H:=λ(h:Goes q p cols rows la)=>(⟨h.aG,h.line,h.ans⟩:_/\_/\_);have H2:=λ a b c=>(⟨fit,bQ,fL.1 h3,a,b,c⟩:Goes q p cols rows la);generalize (fl cols q.bQ rows).map (mX cols q.aG.length (q.aG++p.st.aD.flatMap Tr.args) p.st.aD)=ps at*;generalize di q.aG.length ((fl cols q.bQ rows).map λ r=>(Iq cols r (q.aG++p.st.aD.flatMap Tr.args)).take q.aG.length)=ks at*;by_cases h4:bX (ks.map λ k=>cf (cg (p.st.aD.map Tr.op) ps k))=0;rotate_left;rw[if_pos h4];exact⟨λ h=>Tae,λ⟨_,h⟩=>absurd (fL.2 (H h).1) h4⟩;rw[if_neg (by simp[h4])];dsimp only;rw[hh,Q1];rw[if_neg (show¬((ks.map λ k=>k++(cg (p.st.aD.map Tr.op) ps k).map (·.1),(0:Int)).2≠0)from λ h=>h rfl)];dsimp only;rw[Ir];have eo:ie p cols=p.st.aG:=by unfold ie;rw[if_pos hg]
 rw[eo,map_map];have el:ks.map (Ay p p.st.aG ∘ λ k=>k++(cg (p.st.aD.map Tr.op) ps k).map (·.1))=ks.map λ k=>if weL p.st.aG (rowOf (p.st.aD.map Tr.op) ps k) (p.items++p.order)≠0 then(.error (weL p.st.aG (rowOf (p.st.aD.map Tr.op) ps k) (p.items++p.order)):uC eu)else .ok (Ag p (rowOf (p.st.aD.map Tr.op) ps k) (Iq p.st.aG (rowOf (p.st.aD.map Tr.op) ps k) (p.items++p.order))):=by refine map_congr_left λ k _=>?_;show Ay p p.st.aG (rowOf (p.st.aD.map Tr.op) ps k)=_;unfold Ay bA weL Iq;by_cases h:cf (Tr.fN p.st.aG (rowOf (p.st.aD.map Tr.op) ps k) (p.items++p.order))=0;rw[if_neg TaR,if_neg TaR];rw[if_pos h,if_pos h]
 rw[el,UR (λ k=>weL p.st.aG (rowOf (p.st.aD.map Tr.op) ps k) (p.items++p.order)) (λ k=>Ag p (rowOf (p.st.aD.map Tr.op) ps k) (Iq p.st.aG (rowOf (p.st.aD.map Tr.op) ps k) (p.items++p.order))) ks];by_cases h5:bX (ks.map λ k=>weL p.st.aG (rowOf (p.st.aD.map Tr.op) ps k) (p.items++p.order))=0;rotate_left;rw[if_pos h5];exact⟨λ h=>Tae,λ⟨_,h⟩=>absurd (fL.2 (H h).2.1) h5⟩;rw[if_neg (by simp[h5])];dsimp only;constructor;intro h;injection h with h;injection h with e1 e2;exact⟨e1.symm,H2 (fL.1 h4) (fL.1 h5) e2.symm⟩;rintro⟨e1,h⟩;rw[e1,(H h).2.2];rfl
def jJ(cols:List aZ)(g:Tr)(want:Val)(r:w_):Bool:=(g.eval cols r).2==0&&bC (g.eval cols r).1 want==0
theorem keys_filter(P:w_->Bool)(l:z_):fZ (l.filter P)=(fZ l).filter P:=by unfold fZ;have h1:=oX fS eO (l.filter P);have h2:=oX fS eO l;refine CT fS _ _ h1.1 (h2.1.sublist filter_sublist) λ y=>?_;rw[h1.2,mem_filter,mem_filter,h2.2]
theorem Sq{i:Nat}{ps:List (w_×List (Val×Val))}(P:w_->Bool)(hk:P k=true):ow i (ps.filter λ x=>P x.1) k=ow i ps k:=by unfold ow;rw[filter_filter];congr 1;refine filter_congr λ x _=>?_;by_cases h:bT x.1 k=0;rw[eO _ _ h,hk];simp;simp[h]
theorem sU{ps:List (w_×List (Val×Val))}(P:w_->Bool)(hk:P k=true):cg ops (ps.filter λ x=>P x.1) k=cg ops ps k:=by unfold cg;exact map_congr_left λ i _=>by rw[Sq P hk]
theorem xR{ps:List (w_×List (Val×Val))}(P:w_->Bool)(hk:P k=true):rowOf ops (ps.filter λ x=>P x.1) k=rowOf ops ps k:=by unfold rowOf;rw[sU P hk]
theorem Iu{p:iY}{cols:List aZ}{rows:z_}(h:Goes q p cols rows la)(XB:q.aG.length≠0)(P:w_->Bool)(pr:w_->Bool)
  (hP:∀r∈fl cols q.bQ rows,pr r=P ((Iq cols r (q.aG++p.st.aD.flatMap Tr.args)).take q.aG.length)):
  Goes q p cols (rows.filter pr) ((iF [] (((di q.aG.length ((fl cols q.bQ rows).map λ r=>(Iq cols r (q.aG++p.st.aD.flatMap Tr.args)).take q.aG.length)).filter P).map λ k=>Ag p (rowOf (p.st.aD.map Tr.op) ((fl cols q.bQ rows).map (mX cols q.aG.length (q.aG++p.st.aD.flatMap Tr.args) p.st.aD)) k) (Iq p.st.aG (rowOf (p.st.aD.map Tr.op) ((fl cols q.bQ rows).map (mX cols q.aG.length (q.aG++p.st.aD.flatMap Tr.args) p.st.aD)) k) (p.items++p.order)))).map eu.row):=by
 have ek:fl cols q.bQ (rows.filter pr)=(fl cols q.bQ rows).filter pr:=by unfold fl;rw[filter_filter,filter_filter];exact filter_congr λ x _=>Bool.and_comm _ _
 have ep:(fl cols q.bQ (rows.filter pr)).map (mX cols q.aG.length (q.aG++p.st.aD.flatMap Tr.args) p.st.aD)=((fl cols q.bQ rows).map (mX cols q.aG.length (q.aG++p.st.aD.flatMap Tr.args) p.st.aD)).filter λ x=>P x.1:=by rw[ek,filter_map];congr 1;exact filter_congr λ x hx=>hP x hx
 have eg:di q.aG.length ((fl cols q.bQ (rows.filter pr)).map λ r=>(Iq cols r (q.aG++p.st.aD.flatMap Tr.args)).take q.aG.length)=(di q.aG.length ((fl cols q.bQ rows).map λ r=>(Iq cols r (q.aG++p.st.aD.flatMap Tr.args)).take q.aG.length)).filter P:=by unfold di;rw[if_neg XB,if_neg XB,<-keys_filter,ek];congr 1;rw[filter_map];congr 1;exact filter_congr λ x hx=>hP x hx
 refine⟨λ r hr=>h.fit r (List.mem_filter.1 hr).1,λ r hr=>h.bQ r (List.mem_filter.1 hr).1,λ r hr=>?_,λ k hk=>?_,λ k hk=>?_,?_⟩;rw[ek]at hr;exact h.row r (List.mem_filter.1 hr).1;rw[eg]at hk;obtain⟨h1,h2⟩:=List.mem_filter.1 hk;rw[ep,sU P h2];exact h.aG k h1;rw[eg]at hk;obtain⟨h1,h2⟩:=List.mem_filter.1 hk;rw[ep,xR P h2];exact h.line k h1;rw[eg,ep];congr 2;refine map_congr_left λ k hk=>?_;rw[xR P (List.mem_filter.1 hk).2]
variable{gs:vI}
theorem XC{cols:List aZ}{g:Tr}(hgr:q.aG=g::gs)(hh:q.fE=[])(ho:q.ord=[])(hl:q.lim=[]){rows:z_}(hr:iZ q cols rows=.ok (hd,la))(want:Val):
  ∃lb lc,iZ q cols (rows.filter (jJ cols g want))=.ok (hd,lb)/\iZ q cols (rows.filter λ r=> !jJ cols g want r)=.ok (hd,lc)/\la.Perm (lb++lc)/\la.Pairwise (λ a b=>bT a b<=0):=by
 have hs:=Xm ho hr;cases hp:et q cols with
 |error e=>unfold iZ at hr;rw[hp]at hr;cases hr
 |ok p=>
 obtain⟨pg,_,gc,kF,s1,s2,_,_,hi,hhv,hor,_⟩:=qM hp;have qZ:p.aJ=true:=by rw[pg];unfold Qy.aJ;rw[hgr];simp;exact .inl (.inl WC)
 have hpv:p.having=[]:=by rw[hh]at hhv;unfold dt at hhv;injection hhv with hhv;injection hhv with e _;exact e.symm
 obtain⟨e1,h⟩:=(Et hp qZ hpv ho hl).1 hr;have XB:q.aG.length≠0:=by rw[hgr];simp
 have hP:∀r∈fl cols q.bQ rows,jJ cols g want r=(λ k:w_=>bC (k.headD aM) want==0) ((Iq cols r (q.aG++p.st.aD.flatMap Tr.args)).take q.aG.length):=by
  intro r hr2;have h0:=h.row r hr2;unfold weL at h0;rw[hgr,cons_append]at h0⊢;unfold Tr.fN cf at h0;have h1:(g.eval cols r).2=0:=by by_cases hz:(g.eval cols r).2=0;exact hz;rw[if_pos hz]at h0;exact h0
  unfold jJ Iq;rw[h1];unfold Tr.fN;simp
 have ha:=Iu h XB (λ k=>bC (k.headD aM) want==0) (jJ cols g want) hP;have hb:=Iu h XB (λ k=> !(bC (k.headD aM) want==0)) (λ r=> !jJ cols g want r) (λ r hr2=>by rw[hP r hr2]);refine⟨_,_,(Et hp qZ hpv ho hl).2 ⟨e1,ha⟩,(Et hp qZ hpv ho hl).2 ⟨e1,hb⟩,?_,hs⟩;have ea:=h.ans;subst ea;unfold iF;generalize di q.aG.length _=ks;refine((iV _ _).map _).trans (.trans ?_ ((((iV _ _).map eu.row).append ((iV _ _).map eu.row)).symm));rw[<-map_append,<-map_append];exact((filter_append_perm _ ks).symm.map _).map _
end Go.Proofs.YtndgjggokjickaaGreatDoor
