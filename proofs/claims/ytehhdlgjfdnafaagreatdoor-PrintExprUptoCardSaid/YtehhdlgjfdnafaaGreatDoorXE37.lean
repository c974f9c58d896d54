/- Parts of the proof. -/
import Derived.Test.YtehhdlgjfdnafaaGreatDoorRows
import Derived.Deep.Strs
import Derived.Test.YtehhdlgjfdnafaaGreatDoorXE35
namespace Go.Proofs.YtehhdlgjfdnafaaGreatDoor
variable{p:Prop}
set_option maxHeartbeats 90000000
set_option maxRecDepth 100000
open Go.Lib (hid)
open Go.ChangeShapes Go.WideShapes Go.ChangeAt Go.RowKit Go.Shelf List
set_option linter.unusedVariables false
set_option linter.unusedSimpArgs false
variable{w0:World}{b n m:Nat}{s0:Option aT}{S:Nat->Prop}{s:St}{y:fX}
theorem zam.Kaa(h:p:=by have x0:ni.cell? ⟨g1,0,none⟩=some (.int .u8 y.kind):=H0.out.q.cell 0;have p0:ni.cell? ⟨g0,0,none⟩=some (.pointer (some ⟨b,0,none⟩)):=H0.out.p.cell 0;obtain⟨⟨sb,c2⟩,fz,hs2,wy⟩:=H0.out.st.vw;have rk:=hid hs2;have eC:=hid (H0.out.did.trans wy);clear hs2 wy TS;go_wp2_with fail;go_end0;exact⟨rfl,rk.out.more Taa,eC.out⟩):p:=h
theorem XP(hE:di w0) (hS:∀b,S b->b < w0.heap.size)  (h:s.at_ w0 S y)(hf:s.my m)(hm:m<=1048576)(w:World)(hst:eu w0.heap.size b s0 n w)(hw:Below w0.heap.size w0 w)(hk:s.kind=s.kind)(TS:¬(1<=s.kind/\s.kind<=12))(hn:n+s.cost<=49999000):
  Calls Tryz.prog 19 #[.pointer (some ⟨b,0,none⟩),mC y] w (aW w0.heap.size b (aq s0 (cB s)) (n+s.cost) w):=by
 clear hk;have hno:cB s=none:=by unfold cB;rw[if_neg Taa,if_neg Taa,if_neg Taa,if_neg Taa,if_neg Taa,if_neg Taa,if_neg Taa,if_neg Taa,if_neg Taa]
 rw[hno,je];clear hno;unfold St.cost at hn ⊢;have mb:=h.kind;have t1:(y.kind==1)=false:=by rw[mb];simp;omega
 have t2:(y.kind==2)=false:=by rw[mb];simp;omega
 have t3:(y.kind==3)=false:=by rw[mb];simp;omega
 have t4:(y.kind==4)=false:=by rw[mb];simp;omega
 have t5:(y.kind==5)=false:=by rw[mb];simp;omega
 have t6:(y.kind==6)=false:=by rw[mb];simp;omega
 have t7:(y.kind==7)=false:=by rw[mb];simp;omega
 have t8:(y.kind==8)=false:=by rw[mb];simp;omega
 have t9:(y.kind==9)=false:=by rw[mb];simp;omega
 have t10:(y.kind==10)=false:=by rw[mb];simp;omega
 have t11:(y.kind==11)=false:=by rw[mb];simp;omega
 have t12:(y.kind==12)=false:=by rw[mb];simp;omega
 clear mb;have hlt:=hst.lt;have hsz:=hst.size;open zam in exact Zaa
theorem PM(hE:di w0) (hS:∀b,S b->b < w0.heap.size)  (h:s.at_ w0 S y)(hf:s.my m)(hm:m<=1048576)(w:World)(hst:eu w0.heap.size b s0 n w)(hw:Below w0.heap.size w0 w)(hn:n+s.cost<=49999000):
  Calls Tryz.prog 19 #[.pointer (some ⟨b,0,none⟩),mC y] w (aW w0.heap.size b (aq s0 (cB s)) (n+s.cost) w):=by
 by_cases hk:1<=s.kind/\s.kind<=12
 ·have hc:s.kind=1\/s.kind=2\/s.kind=3\/s.kind=4\/s.kind=5\/s.kind=6\/s.kind=7\/s.kind=8\/s.kind=9\/s.kind=10\/s.kind=11\/s.kind=12:=by omega
  rcases hc with e | e | e | e | e | e | e | e | e | e | e | e
  ·exact PF hE hS h hf hm w hst hw e hn
  ·exact TM hE hS h hf hm w hst hw e hn
  ·exact XN hE hS h hf hm w hst hw e hn
  ·exact TP hE hS h hf hm w hst hw e hn
  ·exact Ld hE hS h hf hm w hst hw e hn
  ·exact Le hE hS h hf hm w hst hw e hn
  ·exact Lf hE hS h hf hm w hst hw e hn
  ·exact Lg hE hS h hf hm w hst hw e hn
  ·exact PL hE hS h hf hm w hst hw e hn
  ·exact Li hE hS h hf hm w hst hw e hn
  ·exact Lj hE hS h hf hm w hst hw e hn
  ·exact Lk hE hS h hf hm w hst hw e hn
 ·exact XP hE hS h hf hm w hst hw rfl hk hn
variable{B:Nat}{o:Option aT}
theorem DA(w:World)(h:eu B b o n w):Calls Tryz.prog 20 #[.pointer (some ⟨b,0,none⟩)] w λ e w'=>e=.returned (.tuple #[strOf (mD o).1,.int .i64 (mD o).2])/\Below B w w':=by
 obtain⟨bad,l,h1,h2,rfl⟩:=h;have iH:=Oe B b bad l w h1;obtain⟨p,v,hb⟩:=h1.cells;have HC:=hid iH;have HB:=hid hb;clear iH h1 h2 hb;go_enter Tryz.func20,Tryz.ntmps20;go_wp2_with fail;refine HC.out.mono ?_;rintro e w1 ⟨rfl,b1,k1⟩;have c2:w1.cell? ⟨b,2,none⟩=some (.bool bad):=by rw[Lib.cell_of_heap (k1.trans HB.out)];rfl
 have B1:=hid b1;clear b1 k1 HC HB;cases bad
 ·by_cases hl:4096 < l.length
  ·have t1:decide ((4096:Int)<(l.length:Int))=true:=decide_eq_true Taa;have t2:decide (4096 < l.length)=true:=decide_eq_true hl;have HR:=hid (show mD (some l)=([],2) by unfold mD;exact if_pos hl);exact ZgG
  ·have t1:decide ((4096:Int)<(l.length:Int))=false:=decide_eq_false Taa;have t2:decide (4096 < l.length)=false:=decide_eq_false hl;have HR:=hid (show mD (some l)=(l,0) by unfold mD;exact if_neg hl);exact ZgG
 ·go_wp2_with fail;go_ret2;exact⟨rfl,B1.out⟩
def Il (x:aT×Int):Value:=.tuple #[strOf x.1,.int .i64 x.2]
theorem TU(w:World)(hB:B<=w.heap.size):eu B w.heap.size (some []) 0 (w.alloc (.cells #[.pointer none,.slice none 0 0,.bool false] 63)):=
 ⟨false,[],.inl ⟨hB,.slice none 0 0,heap_alloc_new w _,⟨rfl,.inl ⟨rfl,rfl⟩⟩,by simp[Value.ownBlock],λ _=>rfl⟩,Nat.zero_le _,rfl⟩
theorem Im (o:Option aT):aq (some []) o=o:=by cases o <;> simp[aq]
theorem TV(hf:s.my m)(hm:m<=1048576):0+s.cost<=49999000:=by have:=hf.nodes;unfold St.cost;omega
variable{w:World}
theorem Bd(hE:di w) (hS:∀b,S b->b < w.heap.size)  (h:s.at_ w S y) (hf:s.my m)(hm:m<=1048576):
  Calls Tryz.prog 10 #[mC y] w λ e w'=>e=.returned (Il (EF s))/\Below w.heap.size w w':=by
 obtain⟨cs,hcs⟩:∃cs,cs=(bI y).toArray:=⟨_,rfl⟩;have Ph:(Tryz.prog.info? 34).map (·.size)=some cs.size:=by rw[hcs];exact kC y
 have TL:∀W b,eu w.heap.size b (some []) 0 W->Below w.heap.size w W->Calls Tryz.prog 19 #[.pointer (some ⟨b,0,none⟩),.agg cs] W (aW w.heap.size b (cB s) (0+s.cost) W):=λ W b h1 h2=>by have:=PM hE hS h hf hm W h1 h2 (TV hf hm);rw[Im] at this;rw[hcs];exact this
 have TB:=hid TL;have HCI:=hid Ph;show Calls Tryz.prog 10 #[.agg (bI y).toArray] w _;rw[<- hcs];clear TL Ph hcs h hf hm;have b1:=aa w (.cells cs 34);have b2:=aa (w.alloc (.cells cs 34)) (.cells #[.pointer none,.slice none 0 0,.bool false] 63);have hq:=(av.new w 34 cs).alloc (.cells #[.pointer none,.slice none 0 0,.bool false] 63);have hwr:=TU (B:=w.heap.size) (w.alloc (.cells cs 34)) b1.size;have hB:=af.then b1 b2;rw[World.size_alloc] at hwr;have HQ:=hid hq;have HW:=hid hwr;have HB:=hid hB;clear b1 b2 hq hwr hB;go_enter Tryz.func10,Tryz.ntmps10;go_upto_region 2 with fail
 change Code.wp _ _ _ _ ((w.alloc (.cells cs 34)).alloc (.cells #[.pointer none,.slice none 0 0,.bool false] 63));generalize ((w.alloc _).alloc _)=W at*;have hq:=HQ.out;go_wp2_with (first
  |(refine wpList_load_row rfl 34 (.tmp 1) rfl w.heap.size rfl 34 cs (0,0) _ hq Tryz.underlying34 rfl HCI.out ?_))
 refine(TB.out W _ HW.out HB.out).mono ?_;rintro e w1 ⟨rfl,h1,d1⟩;have H1:=hid h1;have B1:=hid (HB.out.trans d1.below);clear h1 d1 hq HQ HW HB TB;exact Zdy
variable{t:Tr}
theorem zhs.Kcq(h:p:=by refine(TB.out W _ HW.out HB.out).mono ?_;rintro e w1 ⟨rfl,h1,d1⟩;have H1:=hid h1;have B1:=hid (HB.out.trans d1.below);clear h1 d1 HQ HW HB TB x0 x1 x2 x3 x4 x5 x6;exact Zdy):p:=h
theorem uH(hE:di w) (hS:∀b,S b->b < w.heap.size)  {y:Ex}(h:t.at_ w S y)(hf:t.fine)(ht:t.thin)(hn:t.nodes<=1000000):
  Calls Tryz.prog 12 #[dA y] w λ e w'=>e=.returned (Il (Cf t))/\Below w.heap.size w w':=by
 have hc:=uD t;have TL:∀W b,eu w.heap.size b (some []) 0 W->Below w.heap.size w W->Calls Tryz.prog 23 #[.pointer (some ⟨b,0,none⟩),dA y] W (aW w.heap.size b t.whole (0+t.cost) W):=λ W b h1 h2=>by have:=Tr.uE (b:=b) hE hS t y h hf ht hn W (some []) 0 h1 h2 Taa;rw[Im] at this;exact this
 obtain⟨op,v,name,width,A,k,cp⟩:=y;unfold dA aL at*;have TB:=hid TL;clear TL h hf ht hn hc;have b1:=aa w (.cells #[.int .u8 op,.int .u8 v.k,.int .i64 v.n,.string v.s,.string name,.int .i64 width,.slice A k cp] 36);have b2:=aa (w.alloc (.cells #[.int .u8 op,.int .u8 v.k,.int .i64 v.n,.string v.s,.string name,.int .i64 width,.slice A k cp] 36)) (.cells #[.pointer none,.slice none 0 0,.bool false] 63);have hq:=(av.new w 36 #[.int .u8 op,.int .u8 v.k,.int .i64 v.n,.string v.s,.string name,.int .i64 width,.slice A k cp]).alloc (.cells #[.pointer none,.slice none 0 0,.bool false] 63);have hwr:=TU (B:=w.heap.size) (w.alloc (.cells #[.int .u8 op,.int .u8 v.k,.int .i64 v.n,.string v.s,.string name,.int .i64 width,.slice A k cp] 36)) b1.size;have hB:=af.then b1 b2;rw[World.size_alloc] at hwr;have HQ:=hid hq;have HW:=hid hwr;have HB:=hid hB;clear b1 b2 hq hwr hB;go_enter Tryz.func12,Tryz.ntmps12;go_upto_region 2 with fail;generalize ((w.alloc _).alloc _)=W at*;have x0:=HQ.out.cell 0;have x1:=HQ.out.cell 1;have x2:=HQ.out.cell 2;have x3:=HQ.out.cell 3;have x4:=HQ.out.cell 4;have x5:=HQ.out.cell 5;have x6:=HQ.out.cell 6;open zhs in exact Zf6
theorem K6:Tryz.prog.cellsOf 5=1:=by kernel_rfl
theorem VR:Tryz.prog.cellsOf 2=1:=by kernel_rfl
theorem DY:Tryz.prog.cellsOf 9=1:=by kernel_rfl
theorem Ju:Tryz.prog.cellsOf 32=3:=by kernel_rfl
theorem NG:Tryz.prog.cellsOf 36=7:=by kernel_rfl
theorem VS:Tryz.prog.cellsOf 24=1:=by kernel_rfl
theorem akA{n:Int}(h:(Lit.int .u8 n).wf=true):0<=n/\n<=255:=by exact Zgv
theorem K7{n:Int}(h:(Lit.int .i64 n).wf=true): -9223372036854775808<=n/\n<=9223372036854775807:=by exact Zgv
variable{α:Type}{P:Nat->α->Prop}
theorem VT:∀n,(∀i,i < n->∃x,P i x)->∃l:List α,l.length=n/\∀i x,l[i]?=some x->P i x
 | 0,_=>⟨[],rfl,λ i x h=>by simp at h⟩
 | n+1,h=>by
   obtain⟨l,hl,hp⟩:=VT n λ i hi=>h i Taa
   obtain⟨y,hy⟩:=h n Taa;refine⟨l++ [y],by simp[hl],λ i x hx=>?_⟩;rcases Nat.lt_trichotomy i n with hi | hi | hi
   ·rw[getElem?_append_left Taa] at hx;exact hp i x hx
   ·subst hi;rw[getElem?_append_right Taa,hl] at hx;simp at hx;subst hx;exact hy
   ·rw[getElem?_eq_none Tad] at hx;cases hx
variable{a:Addr}{v:Value}
theorem aaG(h:w.cell? a=some v):a.block < w.heap.size/\a.spot=none:=by
 unfold World.cell? at h;split at h
 ·rename_i hb;refine⟨?_,?_⟩
  ·rcases Nat.lt_or_ge a.block w.heap.size with h' | h'
   ·exact h'
   ·rw[Array.getElem?_eq_none h'] at hb;cases hb
  ·split at h
   ·cases h
   ·rename_i hs;simpa using hs
 ·cases h
theorem afT (b off n:Nat):Addr.add ⟨b,off,none⟩ n=⟨b,off+n,none⟩:=by
 unfold Addr.add;split
 ·rename_i h;subst h;rfl
 ·rfl
variable{base K:Nat}{cs:List Value}
theorem Zd(h:w.cells? base a K=some cs):cs.length=K/\∀i,i < K->w.cell? (a.add i)=cs[i]?:=by
 unfold World.cells? at h;split at h
 ·exact⟨by simpa using mapM_some_length h,λ i hi=>mapM_some_get h i i (by simp[hi])⟩
 ·cases h
def QI (w:World):Nat->Prop:=λ b=>b < w.heap.size
def Tr.big (t:Tr)(n:Nat):Prop:=t.fine/\t.thin/\2*t.nodes<=n
variable{β:Type}{R:α->β->Prop}{l:List α}
theorem fS.mem{m:List β}(h:fS R l m):∀x∈l,∃y∈m,R x y:=by
 induction h with
 | nil=>intro x hx;cases hx
 | cons a _ ih=>
   intro x hx;rcases List.mem_cons.1 hx with rfl | hx
   ·exact⟨_,by simp,a⟩
   ·obtain⟨y,hy,hr⟩:=ih x hx;exact⟨y,by simp[hy],hr⟩
theorem Ze(g:α->Tr) {R:α->Nat->Prop}(hR:∀x n,R x n->2*(g x).nodes<=n)  {m:List Nat}(h:fS R l m):2*Tr.aM (l.map g)<=m.sum:=by
 induction h with
 | nil=>simp[Tr.aM]
 | cons a _ ih=>simp only[map_cons,sum_cons];unfold Tr.aM;have:=hR _ _ a;omega
theorem FX:∀ {l:List α} {m:List β},m.length=l.length->(∀(i:Nat) (x:α) (y:β),l[i]?=some x->m[i]?=some y->R x y)->fS R l m
 | [],[],_,_=> .nil
 | x::l,y::m,hl,h=> .cons (h 0 x y rfl rfl) (FX (by simpa using hl) λ i a b ha hb=>h (i+1) a b TaK (by simpa using hb))
 | [],_::_,hl,_=>by simp at hl
 | _::_,[],hl,_=>by simp at hl
section
variable {H:Type} {enc:TypeId×Value->H} {w:World} {base:Nat} {spare:Nat->Bool} {held:Bool}
theorem bulk_one (d:DataW H):1<=Rows.uptoBulk d:=by
 cases d with
 | lit l=>cases l <;> simp[Rows.uptoBulk]
 | nil=>exact Zgg
 | ptr d=>exact Zgg
 | slice elems spare=>exact Zgg
 | agg parts=>exact Zgg
 | iface t d=>exact Zgg
 | map entries=>exact Zgg
 | held h=>exact Zgg
theorem BK:∀l:List (DataW H),Rows.uptoBulkAll l=(l.map Rows.uptoBulk).sum
 | []=>by simp[Rows.uptoBulkAll]
 | d::l=>by simp only[Rows.uptoBulkAll,map_cons,sum_cons,BK l]
theorem VU {l:List (DataW H)} {d:DataW H}(h:d∈l):Rows.uptoBulk d<=Rows.uptoBulkAll l:=by
 induction l with
 | nil=>cases h
 | cons x l ih=>
   simp only[Rows.uptoBulkAll];rcases List.mem_cons.1 h with rfl | h
   ·omega
   ·have:=ih h;omega
theorem NH:∀l:List Nat,(∀n∈l,1<=n)->l.length<=l.sum
 | [],_=>by simp
 | n::l,h=>by
   have:=NH l λ m hm=>h m (by simp[hm])
   have:=h n Tae;simp only[length_cons,sum_cons];omega
theorem QJ {α:Type}(E:El α)(P:α->Nat->Prop) {T e:TypeId}(hT:Tryz.prog.underlying T=some (.slice e))(hc:Tryz.prog.cellsOf e=E.size)(hK:0 < E.size) {fuel:Nat} {cs:List Value} {x:DataW H×List MemPlace}
  (Fb:∀m,m < fuel->∀cs x,DataW.trod enc Tryz.prog w base spare held m e cs=some x->Rows.uptoBulk x.1<=1048576->∃a y,cs=E.f y/\E.rel w (QI w) a y/\P a (Rows.uptoBulk x.1)) (h:DataW.trod enc Tryz.prog w base spare held fuel T cs=some x) (hw:Rows.uptoBulk x.1<=1048576):
  ∃(s:Sl) (l:List α) (ns:List Nat),cs=[eU s]/\s.n=l.length/\E.sl w (QI w) s l/\fS P l ns/\ns.sum+1<=Rows.uptoBulk x.1/\l.length<=1048576:=by
 rcases DataW.trod_slice hT h with ⟨hcs,_⟩|⟨ad,len,cap,elems,rest,n,hn,hcs,hx,_,hl,hm,hlen,he,_,_⟩
 ·exact⟨⟨none,0,0⟩,[],[],hcs,rfl,E.kV _ _,.nil,by simpa using bulk_one _,by simp⟩
 ·subst hx hcs;replace hw:Rows.uptoBulk (DataW.slice (elems.map (·.1)) (rest.map (·.1)))<=1048576:=hw;have ub:Rows.uptoBulkAll (elems.map (·.1))+1<=Rows.uptoBulk (DataW.slice (elems.map (·.1)) (rest.map (·.1))):=by simp only[Rows.uptoBulk];omega
  have akB:len<=1048576:=by
   have:=NH ((elems.map (·.1)).map Rows.uptoBulk) (by
    intro n hn
    simp only[mem_map] at hn
    obtain⟨d,_,rfl⟩:=hn
    exact bulk_one _)
   rw[<- BK] at this;simp only[length_map] at this;omega
  rcases Nat.eq_zero_or_pos len with h0 | h0
  ·subst h0;refine⟨⟨some ad,0,cap⟩,[],[],rfl,rfl,⟨rfl,[],.inl rfl,.nil⟩,.nil,by simpa using bulk_one _,by simp⟩
  have rv:∀i,i < len->∃p:α×E.β,(E.rel w (QI w) p.1 p.2/\(∀d,(elems.map (·.1))[i]?=some d->P p.1 (Rows.uptoBulk d)))/\∀j,j < E.size->w.cell? ((ad.add (i*E.size)).add j)=(E.f p.2)[j]?:=by intro i hi;have h1:=he i hi;rw[getElem?_eq_getElem Taa,hc] at h1;obtain⟨cs,h2,h3⟩:=Option.bind_eq_some_iff.1 h1;have rj:=VU (l:=elems.map (·.1)) (List.mem_map.2 ⟨_,getElem_mem (by omega:i < elems.length),rfl⟩);obtain⟨a,y,rfl,hr,ha⟩:=Fb n Taa cs _ h3 Taa;refine⟨(a,y),⟨hr,λ d hd=>?_⟩,(Zd h2).2⟩;rw[getElem?_map,getElem?_eq_getElem Taa] at hd;injection hd with hd;rw[<- hd];exact ha
  obtain⟨a0,_,hc0⟩:=rv 0 h0;have hsome:∃u,(E.f a0.2)[0]?=some u:=⟨(E.f a0.2)[0]'(by rw[E.hf];exact hK),getElem?_eq_getElem _⟩;obtain⟨u0,Rm⟩:=hsome;have hlt:=aaG ((hc0 0 hK).trans Rm);obtain⟨b,off,spot⟩:=ad;have hs:spot=none:=by have:=hlt.2;simpa [Addr.add] using this
  subst hs;have hbl:b < w.heap.size:=by have:=hlt.1;simpa [Addr.add] using this
  obtain⟨l,hll,hp⟩:=VT len (P:=λ(i:Nat) (p:α×E.β)=>(E.rel w (QI w) p.1 p.2/\(∀d,(elems.map (·.1))[i]?=some d->P p.1 (Rows.uptoBulk d)))/\∀j,j < E.size->w.cell? ⟨b,off+i*E.size+j,none⟩=(E.f p.2)[j]?) λ i hi=>by obtain⟨a,ha,hca⟩:=rv i hi;refine⟨a,ha,λ j hj=>?_⟩;have:=hca j hj;simp only[afT] at this;exact this
  subst hll;refine⟨⟨some ⟨b,off,none⟩,l.length,cap⟩,l.map (·.1),(elems.map (·.1)).map Rows.uptoBulk,rfl,by simp,⟨by simp,l.map (·.2),.inr ⟨b,off,rfl,hbl,λ i y j u hy hu=>?_⟩,?_⟩,?_,by rw[<- BK];exact ub,by simpa using akB⟩
  ·obtain⟨p,hp1,rfl⟩:∃p,l[i]?=some p/\p.2=y:=by simpa [getElem?_map] using hy
   have hj:j < E.size:=by
    rcases Nat.lt_or_ge j E.size with h' | h'
    ·exact h'
    ·rw[getElem?_eq_none (by rw[E.hf];exact h')] at hu;cases hu
   rw[(hp i p hp1).2 j hj];exact hu
  ·refine FX Tae λ i x y hx hy=>?_
   obtain⟨p,hp1,rfl⟩:∃p,l[i]?=some p/\p.1=x:=by simpa [getElem?_map] using hx
   have e:p.2=y:=by simpa [getElem?_map,hp1] using hy
   rw[<- e];exact(hp i p hp1).1.1
  ·refine FX (by simp[hlen]) λ i x y hx hy=>?_
   obtain⟨p,hp1,rfl⟩:∃p,l[i]?=some p/\p.1=x:=by simpa [getElem?_map] using hx
   obtain⟨d,hd,rfl⟩:∃d,(elems.map (·.1))[i]?=some d/\Rows.uptoBulk d=y:=by rw[getElem?_map] at hy;exact Option.map_eq_some_iff.1 hy
   exact(hp i p hp1).1.2 d hd
theorem VV (s:ByteArray):Rows.uptoBulk (DataW.lit (H:=H) (.string s.data.toList))=s.size+1:=by exact Zgg
theorem Jv {fuel:Nat} {cs:List Value} {x:DataW H×List MemPlace}(h:DataW.trod enc Tryz.prog w base spare held fuel 9 cs=some x):∃s:ByteArray,cs=[.string s]/\s.size+1<=Rows.uptoBulk x.1:=by obtain⟨s,q,z,_⟩:=DataW.trod_string Tryz.underlying9 h;refine⟨s,q,?_⟩;have e:=congrArg (λ y=>Rows.uptoBulk y.1) z;simp only[VV] at e;omega
theorem VW {fuel:Nat} {cs:List Value} {x:DataW H×List MemPlace}(h:DataW.trod enc Tryz.prog w base spare held fuel 32 cs=some x):∃a:Val,cs=fg a/\(a.Ok/\0<=a.k/\a.k<=255)/\a.s.size<=Rows.uptoBulk x.1:=by
 obtain⟨y0,y1,y2,n,hx,hl,t0,t1,t2⟩:=Deep.trod_struct3 Tryz.underlying32 h;rw[Ju] at hl
 match cs,hl with
 | [c0,c1,c2],_=>simp only[DY,K6,VR,drop_succ_cons,drop_zero,take_succ_cons,take_zero] at t0 t1 t2;obtain⟨n0,q0,_,f0⟩:=DataW.trod_int Tryz.underlying5 t0;obtain⟨n1,q1,_,f1⟩:=DataW.trod_int Tryz.underlying2 t1;obtain⟨s,q2,z2⟩:=Jv t2;simp at q0 q1 q2;subst q0 q1 q2;refine⟨⟨n0,n1,s⟩,rfl,⟨K7 f1,akA f0⟩,?_⟩;subst hx;simp only[Rows.uptoBulk,Rows.uptoBulkAll];show s.size<=_;omega
theorem VX:∀(fuel:Nat) (cs:List Value) (x:DataW H×List MemPlace),DataW.trod enc Tryz.prog w base spare held fuel 36 cs=some x->Rows.uptoBulk x.1<=1048576->∃(t:Tr) (y:Ex),cs=aL y/\t.at_ w (QI w) y/\t.big (Rows.uptoBulk x.1):=by
 intro fuel
 induction fuel using Nat.strongRecOn with
 | _ fuel ih=>
   intro cs x h hw;obtain⟨xs,n,hn,hx,hl,hlen,hf⟩:=DataW.trod_struct Tryz.underlying36 h;rw[NG] at hl;subst hx
   match xs,hlen with
   | [y0,y1,y2,y3,y4],_=>
   match cs,hl with
   | [c0,c1,c2,c3,c4,c5,c6],_=>
     have t0:DataW.trod enc Tryz.prog w base spare held n 5 (([c0,c1,c2,c3,c4,c5,c6].drop 0).take (Tryz.prog.cellsOf 5))=some y0:=(hf 0 _ rfl);rw[K6] at t0;have t1:DataW.trod enc Tryz.prog w base spare held n 32 (([c0,c1,c2,c3,c4,c5,c6].drop 1).take (Tryz.prog.cellsOf 32))=some y1:=(hf 1 _ rfl);rw[Ju] at t1;have t2:DataW.trod enc Tryz.prog w base spare held n 9 (([c0,c1,c2,c3,c4,c5,c6].drop 4).take (Tryz.prog.cellsOf 9))=some y2:=(hf 2 _ rfl);rw[DY] at t2;have t3:DataW.trod enc Tryz.prog w base spare held n 2 (([c0,c1,c2,c3,c4,c5,c6].drop 5).take (Tryz.prog.cellsOf 2))=some y3:=(hf 3 _ rfl);rw[VR] at t3;have t4:DataW.trod enc Tryz.prog w base spare held n 24 (([c0,c1,c2,c3,c4,c5,c6].drop 6).take (Tryz.prog.cellsOf 24))=some y4:=(hf 4 _ rfl);rw[VS] at t4;simp only[drop_succ_cons,drop_zero,take_succ_cons,take_zero] at t0 t1 t2 t3 t4;have eb:Rows.uptoBulk (DataW.agg (List.map (λ x=>x.1) [y0,y1,y2,y3,y4]))=Rows.uptoBulk y0.1+(Rows.uptoBulk y1.1+(Rows.uptoBulk y2.1+(Rows.uptoBulk y3.1+(Rows.uptoBulk y4.1+(0)))))+1:=by simp only[map_cons,map_nil,Rows.uptoBulk,Rows.uptoBulkAll]
     dsimp only at hw ⊢;rw[eb] at hw ⊢;have hb0:=bulk_one y0.1;have hb1:=bulk_one y1.1;have hb2:=bulk_one y2.1;have hb3:=bulk_one y3.1;have hb4:=bulk_one y4.1;obtain⟨n0,q0,_,f0⟩:=DataW.trod_int Tryz.underlying5 t0;obtain⟨a,qa,⟨ha,yu,hk2⟩,has⟩:=VW t1;obtain⟨s,q2,z2⟩:=Jv t2;obtain⟨n3,q3,_,f3⟩:=DataW.trod_int Tryz.underlying2 t3;obtain⟨sl,l,ns,q4,X5,ja,h2,aqS,hll⟩:=QJ eJ Tr.big Tryz.underlying24 NG Tac (λ m hm cs x h1 h2=>by
      obtain⟨t,y,r1,r2,r3⟩:=ih m Taa cs x h1 h2
      exact⟨t,y,r1,r2,r3⟩) t4 Taa
     unfold fg at qa;simp at q0 qa q2 q3 q4;obtain⟨rfl,rfl,rfl⟩:=qa;subst q0 q2 q3 q4;have rj:=h2.mem;have akC:=Ze id (λ x n (h:Tr.big x n)=>h.2.2) h2;rw[map_id] at akC;obtain⟨_,ys,hR,hA⟩:=ja;have hwd:=K7 f3;refine⟨.mk n0 a s n3 l,⟨n0,a,s,n3,sl.A,sl.n,sl.c⟩,rfl,?_,?_,?_,?_⟩
     ·unfold Tr.at_;exact⟨rfl,rfl,rfl,rfl,X5,ys,hR,sR.1 hA⟩
     ·unfold Tr.fine;exact⟨⟨ha,by omega,by omega,hwd.1,hwd.2⟩,Ie _ λ t ht=>by obtain⟨n,_,hb⟩:=rj t ht;exact hb.1⟩
     ·unfold Tr.thin;exact⟨by omega,Dw _ λ t ht=>by obtain⟨n,_,hb⟩:=rj t ht;exact hb.2.1⟩
     ·unfold Tr.nodes;omega
end
end Go.Proofs.YtehhdlgjfdnafaaGreatDoor
