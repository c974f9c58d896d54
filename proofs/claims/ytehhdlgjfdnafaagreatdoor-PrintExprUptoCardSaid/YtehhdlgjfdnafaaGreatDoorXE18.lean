/- Parts of the proof. -/
import Derived.Test.YtehhdlgjfdnafaaGreatDoorXE11
namespace Go.Proofs.YtehhdlgjfdnafaaGreatDoor
variable{p:Prop}
set_option maxHeartbeats 90000000
set_option maxRecDepth 100000
open Go.Lib (hid)
open Go.ChangeShapes Go.WideShapes Go.ChangeAt Go.RowKit List
set_option linter.unusedVariables false
set_option linter.unusedSimpArgs false
def orC (y:Ex×Bool):List Value:=aL y.1++ [.bool y.2]
def mQ (B:Nat)(v:Value)(w:World):Nat->Prop:=λ b=>B<=b/\b < w.heap.size/\some b≠v.ownBlock
variable{B:Nat}{v:Value}{w w':World}
theorem nO{g:Nat}  (h:w.grownBy w' (some g))(hg:g < B):∀b,mQ B v w b->(∀o,w'.cell? ⟨b,o,none⟩=w.cell? ⟨b,o,none⟩)/\mQ B v w' b:=λ b hb=>
 ⟨cell_of_heap (h.block b hb.2.1 (λ e=>by injection e with e;have:=hb.1;omega)),hb.1,Nat.lt_of_lt_of_le hb.2.1 h.size,hb.2.2⟩
theorem fl(h:Below w.heap.size w w'):∀b,mQ B v w b->(∀o,w'.cell? ⟨b,o,none⟩=w.cell? ⟨b,o,none⟩)/\mQ B v w' b:=λ b hb=>
 ⟨cell_of_heap (h.block b hb.2.1),hb.1,Nat.lt_of_lt_of_le hb.2.1 h.size,hb.2.2⟩
variable{v':Value}
theorem sk(h:w.grownBy w' v.ownBlock)(hv:v'.ownBlock=v.ownBlock\/v'.ownBlock=some w.heap.size):∀b,mQ B v w b->(∀o,w'.cell? ⟨b,o,none⟩=w.cell? ⟨b,o,none⟩)/\mQ B v' w' b:=λ b hb=>
 ⟨cell_of_heap (h.block b hb.2.1 hb.2.2),hb.1,Nat.lt_of_lt_of_le hb.2.1 h.size,λ e=>by
   rcases hv with hv | hv
   ·exact hb.2.2 (e.trans hv)
   ·rw[hv] at e;injection e with e;have:=hb.2.1;omega⟩
variable{B':Nat}
theorem Be(hB:B'<=B)(hv:∀g,v.ownBlock=some g->g < B):∀b,ep B w b->(∀o,w.cell? ⟨b,o,none⟩=w.cell? ⟨b,o,none⟩)/\mQ B' v w b:=λ b hb=>
 ⟨λ _=>rfl,Nat.le_trans hB hb.1,hb.2,λ e=>by have:=hv b e.symm;have:=hb.1;omega⟩
theorem Bf(hB:B'<=B):∀b,mQ B v w b->(∀o,w.cell? ⟨b,o,none⟩=w.cell? ⟨b,o,none⟩)/\ep B' w b:=λ b hb=>⟨λ _=>rfl,Nat.le_trans hB hb.1,hb.2.1⟩
structure iX {α:Type} (E:El α) (T:TypeId) (w:World) (B:Nat) (v:Value) (l:List α):Prop where
 has:∃ys:List E.β,cz E.f T E.size w B v ys/\fS (E.rel w (mQ B v w)) l ys
section
variable {α:Type} {E:El α} {T:TypeId} {w w':World} {B g:Nat} {v:Value} {l:List α}
theorem iX.later (h:iX E T w B v l)(hb:Below w.heap.size w w'):iX E T w' B v l:=by obtain⟨ys,h1,h2⟩:=h.has;exact⟨ys,h1.later hb,h2.imp λ x y=>E.keep (fl hb)⟩
theorem iX.Fw (h:iX E T w B v l) {G:Nat}(hG:v.ownBlock=some G):B<=G/\G < w.heap.size:=by obtain⟨ys,h1,h2⟩:=h.has;exact⟨(h1.lt hG).2.1,(h1.lt hG).1⟩
theorem iX.grown (h:iX E T w B v l)(hb:w.grownBy w' (some g))(hg:g < B):iX E T w' B v l:=by obtain⟨ys,h1,h2⟩:=h.has;exact⟨ys,h1.grown hb (λ e=>by have:=(h1.lt e).2.1;omega),h2.imp λ x y=>E.keep (nO hb hg)⟩
theorem iX.sl (h:iX E T w B v l) {B':Nat}(hB:B'<=B):∃y:Sl,v=eU y/\y.n=l.length/\E.sl w (ep B' w) y l:=by obtain⟨ys,h1,h2⟩:=h.has;obtain⟨A,c,hv,hr⟩:=KN E.hf h1 (S:=ep B' w) (λ g h3 h4=>⟨by omega,h4⟩);refine⟨⟨A,l.length,c⟩,?_,rfl,rfl,ys,hr,h2.imp λ x y=>E.keep (Bf hB)⟩;rw[hv,h2.len];rfl
theorem iX.nil (E:El α)(T:TypeId)(w:World)(B:Nat):iX E T w B (.slice none 0 0) []:=⟨[],cz.nil,.nil⟩
end
theorem xt:(Tryz.prog.info? 51).map (λ i=>(i.zero,i.size,i.bytes))=some (some (.agg #[.int .u8 0,.int .u8 0,.int .i64 0,.string ⟨#[]⟩,.string ⟨#[]⟩,.int .i64 0,.slice none 0 0,.string ⟨#[]⟩]),8,104):=by kernel_rfl
variable{α:Type}
def ZW(E:El α)(lng:α->Bool)(ρ:bj)(p:Ps α)(σ:dO)(big:Bool)(y:E.β)(w w':World):Prop:=∃x:α,E.rel w' (ep w.heap.size w') x y/\gP ρ w w' (eG p σ) (big || lng x)/\pG p σ x
variable{E:El α}{T:TypeId}{lng:α->Bool}{ρ:bj}{σ:dO}{big:Bool}{w0 wr w1 eD w2 W:World}{acc:List α}
theorem Lq{p:Ps α}       {y:E.β}(hB:w0.heap.size<=B)(hg:ρ.g < w0.heap.size)(hR:iX E T wr B v acc)(hBr:B<=wr.heap.size)(hD:gP ρ w0 wr σ big)(tO:af wr w1)(hp:ZW E lng ρ p σ big y w1 eD)(hl2:af eD w2)(kD:w2.grownBy W v.ownBlock)
  (ys:List E.β) (nV:cz E.f T E.size W B v' (ys++ [y])) (hys:fS (E.rel wr (mQ B v wr)) acc ys) (hv:v'.ownBlock=v.ownBlock\/v'.ownBlock=some w2.heap.size):
  ∃x:α,iX E T W B v' (acc++ [x])/\gP ρ w0 W (eG p σ) (big || lng x)/\pG p σ x:=by
 obtain⟨x,hx,hd,hgv⟩:=hp;have hgB:ρ.g < B:=by omega
 have own:∀G,v.ownBlock=some G->B<=G/\G < wr.heap.size:=λ G hG=>hR.Fw hG
 refine⟨x,⟨ys++ [y],nV,fS.append ?_ (.one ?_)⟩,?_,hgv⟩
 ·exact hys.imp λ a b hab=>E.keep (sk kD hv) (E.keep (fl hl2) (E.keep (nO hd.grown hgB) (E.keep (fl tO) hab)))
 ·refine E.keep (sk kD hv) (E.keep (Be (B:=w1.heap.size) (B':=B) (Nat.le_trans hBr tO.size) λ G hG=>?_) (E.keep (fE hl2) hx));exact Nat.lt_of_lt_of_le (own G hG).2 tO.size
 ·exact(((hD.later tO).trans hd).later hl2).own hg kD λ G hG=>by have:=(own G hG).1;omega
variable{q:Nat}
theorem sq(hq:q < B)(i:Nat)(u:Value):∀b,mQ B v w b->(∀o,(w.setCell ⟨q,i,none⟩ u).cell? ⟨b,o,none⟩=w.cell? ⟨b,o,none⟩)/\mQ B v (w.setCell ⟨q,i,none⟩ u) b:=λ b hb=>
 ⟨cell_of_heap (Below.heap_setCell w ⟨q,i,none⟩ u b Ta8),hb.1,by simpa [World.setCell] using hb.2.1,hb.2.2⟩
variable{l:List α}
theorem iX.far(h:iX E T w B v l)(hq:q < B)(i:Nat)(u:Value):iX E T (w.setCell ⟨q,i,none⟩ u) B v l:=by
 have CE:=λ G hG=>(h.Fw (G:=G) hG).1
 obtain⟨ys,h1,h2⟩:=h.has;exact⟨ys,h1.keep λ g hg=>Below.heap_setCell w ⟨q,i,none⟩ u g (by have:=CE g hg;simp;omega),h2.imp λ x y=>E.keep (sq hq i u)⟩
variable{S:Nat->Prop}{G:Nat}{y:Ex}
theorem Tk{x:Tr} (h:av w G 36 (aL y).toArray)(hS:S G)(hx:x.at_ w S y):eJ.sl w S ⟨some ⟨G,0,none⟩,1,1⟩ [x]:=
 ⟨rfl,[y],uj (f:=aL) qi (by show av w G _ (aL y++ []).toArray;rw[append_nil];exact h) hS,.one hx⟩
def Cp (y:Ex×ByteArray):List Value:=aL y.1++ [.string y.2]
def itV (y:Ex×ByteArray):Value:=.agg (Cp y).toArray
variable{a b c d e f g:Value}
theorem iU{i:Value}(h:av w q T #[a,b,c,d,e,f,g,i]):
  w.cell? ⟨q,0,none⟩=some a/\w.cell? ⟨q,1,none⟩=some b/\w.cell? ⟨q,2,none⟩=some c/\w.cell? ⟨q,3,none⟩=some d/\w.cell? ⟨q,4,none⟩=some e/\w.cell? ⟨q,5,none⟩=some f/\w.cell? ⟨q,6,none⟩=some g/\w.cell? ⟨q,7,none⟩=some i:=
 ⟨h.cell 0,h.cell 1,h.cell 2,h.cell 3,h.cell 4,h.cell 5,h.cell 6,h.cell 7⟩
variable{cs:Array Value}
theorem qC(h:av w q T cs):
  w.frozen? ⟨q,0,none⟩=false/\w.frozen? ⟨q,1,none⟩=false/\w.frozen? ⟨q,2,none⟩=false/\w.frozen? ⟨q,3,none⟩=false/\w.frozen? ⟨q,4,none⟩=false/\w.frozen? ⟨q,5,none⟩=false/\w.frozen? ⟨q,6,none⟩=false/\w.frozen? ⟨q,7,none⟩=false:=
 ⟨h.frozen 0,h.frozen 1,h.frozen 2,h.frozen 3,h.frozen 4,h.frozen 5,h.frozen 6,h.frozen 7⟩
def Fh (w:World)(q:Nat)(y:Ex)(v:Value):World:=(fZ w q y).setCell ⟨q,7,none⟩ v
theorem gP.Fh(h:gP ρ W w σ big)(hW:ρ.g < W.heap.size)(hq:W.heap.size<=q)(y:Ex)(v:Value):gP ρ W (Fh w q y v) σ big:=(h.fZ hW hq y).far hW hq 7 v
variable{t:Tr}
theorem Tr.at_.Fh(h:t.at_ w (ep B w) y)(hq:q < B)(z:Ex)(v:Value):t.at_ (Fh w q z v) (ep B (Go.Proofs.YtehhdlgjfdnafaaGreatDoor.Fh w q z v)) y:=(h.fZ hq z).set hq 7 v
theorem Tm{i:Value}(h:av w q T #[a,b,c,d,e,f,g,i])(y:Ex)(v:Value):av (Fh w q y v) q T (aL y++ [v]).toArray:=by have:=((((((((h.cr 0 (.int .u8 y.op)).cr 1 (.int .u8 y.v.k)).cr 2 (.int .i64 y.v.n)).cr 3 (.string y.v.s)).cr 4 (.string y.name)).cr 5 (.int .i64 y.width)).cr 6 (.slice y.A y.n y.c)).cr 7 v);exact Zdf
def itZ:Obj:=.cells #[.int .u8 0,.int .u8 0,.int .i64 0,.string ⟨#[]⟩,.string ⟨#[]⟩,.int .i64 0,.slice none 0 0,.string ⟨#[]⟩] 51
theorem qF (m:fX):(bI m).toArray.size=28:=rfl
theorem Lr (m:fX):(bI m).toArray.all (·.oneCell')=true:=by simp[bI,jE,fg,eU,Value.oneCell']
theorem qG:(Tryz.prog.info? 34).map (·.size)=some 28:=by kernel_rfl
theorem aiZ (b o j:Nat):(Addr.add ⟨b,o,none⟩ j)=⟨b,o+j,none⟩:=by unfold Addr.add;split <;> simp_all
variable{size:Nat}
theorem Iu{f:α->List Value} (hf:∀x,(f x).length=size)(h0:0 < size):∀(l:List α) (j:Nat) (u:Value),(l.flatMap f)[j]?=some u->∃k r x,j=k*size+r/\l[k]?=some x/\(f x)[r]?=some u
 | [],j,u,h=>by simp at h
 | y::l,j,u,h=>by
   rw[flatMap_cons] at h;by_cases hj:j < size
   ·rw[getElem?_append_left (by rw[hf];exact hj)] at h;exact⟨0,j,y,by omega,rfl,h⟩
   ·rw[getElem?_append_right (by rw[hf];omega),hf] at h;obtain⟨k,r,x,h1,h2,h3⟩:=Iu hf h0 l _ u h;exact⟨k+1,r,x,by rw[Nat.succ_mul];omega,by simpa using h2,h3⟩
theorem E0:∀ys:List Ex,(ys.flatMap aL).length=ys.length*7
 | []=>rfl
 | y::ys=>by rw[flatMap_cons,length_append,E0 ys,qi,length_cons];omega
variable{A:Option Addr}{ys:List Ex}
theorem Ug(h:RL aL 7 w S A ys) (hS:∀b,S b->b < B):Reads w B 7 A ys.length (ys.flatMap aL):=by
 refine⟨E0 ys,λ hn=>?_⟩;rcases h with h |⟨b,off,hA,hb,hc⟩
 ·subst h;simp at hn
 ·refine⟨⟨b,off,none⟩,hA,hS b hb,λ j u hu=>?_⟩;obtain⟨k,r,x,rfl,h2,h3⟩:=Iu qi Taa ys j u hu;rw[aiZ,<- Nat.add_assoc];exact hc k x r u h2 h3
theorem Uh:∀(ys:List Ex),∀u∈ys.flatMap aL,u.oneCell'=true:=by intro ys u hu;obtain⟨y,_,hu⟩:=List.mem_flatMap.1 hu;simp[aL] at hu;exact Zg3
structure yJ (w:World) (S:Nat->Prop) (v:Value) (wr:World) (acc:List Tr):Prop where
 has:∃ys:List Ex,cz aL 36 7 wr w.heap.size v ys/\fS (λ t y=>Tr.at_ w S t y) acc ys
 below:Below w.heap.size w wr
section
variable {w wr wr':World} {S:Nat->Prop} {v v':Value} {acc l:List Tr} {B:Nat}
theorem yJ.start (w:World)(S:Nat->Prop):yJ w S (.slice none 0 0) w []:=⟨⟨[],cz.nil,.nil⟩,Below.refl _ _⟩
theorem yJ.later (h:yJ w S v wr acc)(hb:Below wr.heap.size wr wr'):yJ w S v wr' acc:=by obtain⟨ys,h1,h2⟩:=h.has;exact⟨⟨ys,h1.later hb,h2⟩,af.then h.below hb⟩
theorem yJ.len (h:yJ w S v wr acc):∃A c,v=.slice A acc.length c:=by obtain⟨ys,h1,h2⟩:=h.has;obtain⟨A,c,hv,_⟩:=h1.reads;exact⟨A,c,by rw[hv,h2.len]⟩
theorem yJ.far (h:yJ w S v wr acc)(hg:wr.grownBy wr' v.ownBlock) {q:Nat} {t:TypeId} {cs:Array Value}(hq:av wr q t cs)(ht:t≠36):av wr' q t cs:=by obtain⟨ys,h1,h2⟩:=h.has;exact hq.Gf h1 ht hg
theorem yJ.sl (h:yJ w S v wr acc)(hS:∀b,S b->b < w.heap.size):∃y:Sl,v=eU y/\y.n=acc.length/\eJ.sl wr (ep 0 wr) y acc:=by obtain⟨ys,h1,h2⟩:=h.has;obtain⟨A,c,hv,hr⟩:=KN eJ.hf h1 (S:=ep 0 wr) (λ g h3 h4=>⟨by omega,h4⟩);have hs:=h.below.size;have e:v=.slice A (List.length (α:=Ex) ys) c:=hv;refine⟨⟨A,acc.length,c⟩,by rw[e,h2.len];rfl,rfl,rfl,ys,hr,h2.imp λ t y ht=>?_⟩;exact Tr.at_.keep (λ b hb=>⟨cell_of_heap (h.below.block b (hS b hb)),Nat.zero_le _,Nat.lt_of_lt_of_le (hS b hb) hs⟩) _ _ ht
def Ui (w:World)(S:Nat->Prop)(v:Value)(wr:World)(acc l:List Tr)(v':Value)(w':World):Prop:=yJ w S v' w' (acc++l)/\wr.grownBy w' v.ownBlock
theorem jA (t ty:TypeId)(ht:Tryz.prog.underlying t=some (.slice 36))(h:yJ w S v wr acc) {A:Option Addr} {n c:Nat}(hl:eJ.sl w S ⟨A,n,c⟩ l)(hS:∀b,S b->b < w.heap.size)(hlen:acc.length+l.length<=1000000):
  ∃v' w',(Builtin.append_ #[t,t] ty #[v,.slice A n c]).run Tryz.prog wr=.ok v' w'/\Ui w S v wr acc l v' w':=by
 obtain⟨hn,(zs:List Ex),hr,ha⟩:=hl;have ha:fS (λ t y=>Tr.at_ w S t y) l zs:=ha;replace hn:n=l.length:=hn;obtain⟨ys,h1,h2⟩:=h.has;have hr2:=Ug hr hS;have hr3:=(hr2.below h.below).more h.below.size;obtain⟨i0,mm,hz0,hz1,hz2⟩:=info_parts Fg;have hzl:=ha.len;have hyl:=h2.len;obtain⟨v',w',hrun,h3,h4,h5⟩:=np (P:=Tryz.prog) wr w.heap.size t ty 36 i0 _ 7 88 ht mm hz0 hz1 hz2 rfl Taa v ys.length (ys.flatMap aL) h1 wr.heap.size A zs.length c (zs.flatMap aL) hr3 (Uh _) TaH Taa h.below.size;rw[hzl,<- hn] at hrun;refine⟨v',w',hrun,⟨⟨ys++zs,?_,fS.append h2 ha⟩,?_⟩,h4⟩
 ·unfold cz;rw[length_append,flatMap_append];exact h3
 ·exact h.below.trans (mU h1 h4 h.below.size)
theorem oU (t ty:TypeId)(ht:Tryz.prog.underlying t=some (.slice 36))(h:yJ w S v wr acc) {g:Nat} {y:Ex} {x:Tr}(hg:av wr g 36 (aL y).toArray)(hx:Tr.at_ w S x y)(hlen:acc.length+1<=1000000):
  ∃v' w',(Builtin.append_ #[t,t] ty #[v,.slice (some ⟨g,0,none⟩) 1 1]).run Tryz.prog wr=.ok v' w'/\Ui w S v wr acc [x] v' w':=by obtain⟨ys,h1,h2⟩:=h.has;have hyl:=h2.len;obtain⟨v',w',hr,ho,ha⟩:=jZ (P:=Tryz.prog) (w:=wr) t ty _ 88 ht Fg rfl Taa qi (y:=y) (by intro u hu;exact Uh [y] u (by simpa using hu)) h1 g hg Taa Taa h.below.size;exact⟨v',w',hr,⟨⟨ys++ [y],ho,fS.append h2 (.one hx)⟩,h.below.trans (mU h1 ha.grown h.below.size)⟩,ha.grown⟩
theorem zif.KcN(h:p:=by exact h v' w' hp):p:=h
theorem Cu {o:Oper} {a:Act} {K:Act->World->Prop} {Q:Exit->Act->World->Prop}(s x:Operand)(t:TypeId)
  (ho:o.op=.call { callee:=.builtin .append,args:= #[s,x],argTypes:= #[t,t] }) {P:Value->World->Prop} {xv:Value} (hs:a.eval s=v) (hx:a.eval x=xv)
  (hr:∃v' w',(Builtin.append_ #[t,t] o.type #[v,xv]).run Tryz.prog wr=.ok v' w'/\P v' w') (h:∀v' w',P v' w'->K (a.put o.dst v') w'):o.wp Tryz.prog a wr K Q:=by obtain⟨v',w',hrun,hp⟩:=hr;open zif in exact Zg8
theorem fR {ops:Array Oper} {rest:List Oper} {o:Oper} {a:Act} {Q:Exit->Act->World->Prop}(hgd:o.guard=none)(s x:Operand)(t:TypeId)
  (ho:o.op=.call { callee:=.builtin .append,args:= #[s,x],argTypes:= #[t,t] }) {P:Value->World->Prop} {xv:Value} (hs:a.eval s=v) (hx:a.eval x=xv)
  (hr:∃v' w',(Builtin.append_ #[t,t] o.type #[v,xv]).run Tryz.prog wr=.ok v' w'/\P v' w') (h:∀v' w',P v' w'->wpList Tryz.prog ops Q rest (a.put o.dst v') w'):wpList Tryz.prog ops Q (o::rest) a wr:=
 wpList_plain hgd λ _ hK=>Cu s x t ho hs hx hr λ v' w' hp=>hK _ _ (h v' w' hp)
end
variable{β:Type}{R:α->β->Prop}{m:List β}
theorem su(h:fS R l m):∀ {i:Nat} {x:α} {y:β},l[i]?=some x->m[i]?=some y->R x y:=by
 induction h with
 | nil=>intro i x y hx;simp at hx
 | cons h1 h2 ih=>
   intro i x y hx hy
   match i with
   | 0=>simp at hx hy;subst hx hy;exact h1
   | i+1=>exact ih TaJ Ta4
variable{i:Nat}
theorem DG{l:List (List α)}  {r:List α}(h:l[i]?=some r):(l.take (i+1)).flatten=(l.take i).flatten++r:=by rw[take_add_one,h];simp
theorem Yb{l:List (List α)}  {r:List α}(h:l[i]?=some r):(l.take i).flatten.length+r.length<=l.flatten.length:=by
 have e:=DG h;have h2:(l.take (i+1)).flatten++(l.drop (i+1)).flatten=l.flatten:=by rw[<- flatten_append,take_append_drop]
 rw[<- h2,e];simp only[length_append];omega
theorem Bg{x:α}(f:α->β)(h:l[i]?=some x):(l.take (i+1)).map f=(l.take i).map f++ [f x]:=by rw[take_add_one,h];simp
def exJ (w:World)(S:Nat->Prop)(q:Nat)(cs:Array Value)(v0:Value)(acc l1 l2 l3:List Tr):List Value->World->Prop
 | [],wr=>yJ w S v0 wr acc/\av wr q 28 cs
 | [a],wr=>yJ w S a wr (acc++l1)/\av wr q 28 cs
 | [_,b],wr=>yJ w S b wr (acc++l1++l2)/\av wr q 28 cs
 | [_,_,c],wr=>yJ w S c wr (acc++l1++l2++l3)/\av wr q 28 cs
 | _,_=>False
theorem Un (w:World)(S:Nat->Prop)(q:Nat)(cs:Array Value)(v0:Value)(acc l1 l2 l3:List Tr):∀vs wr,exJ w S q cs v0 acc l1 l2 l3 vs wr->exJ w S q cs v0 acc l1 l2 l3 vs wr.drew
 | [],wr,h=>⟨h.1.later (af.drew wr),h.2.drew⟩
 | [a],wr,h=>⟨h.1.later (af.drew wr),h.2.drew⟩
 | [_,b],wr,h=>⟨h.1.later (af.drew wr),h.2.drew⟩
 | [_,_,c],wr,h=>⟨h.1.later (af.drew wr),h.2.drew⟩
 | _::_::_::_::_,wr,h=>h.elim
variable{u1 u2 u3:Value}
theorem PQ(w:World)(S:Nat->Prop)(q:Nat)(cs:Array Value)(v0:Value)(acc l1 l2 l3:List Tr) (h1:cs[3]?=some u1)(h2:cs[4]?=some u2)(h3:cs[5]?=some u3):∀vs wr,exJ w S q cs v0 acc l1 l2 l3 vs wr->wr.cell? ⟨q,3,none⟩=some u1/\wr.cell? ⟨q,4,none⟩=some u2/\wr.cell? ⟨q,5,none⟩=some u3:=by
 intro vs wr h
 have hb:av wr q 28 cs:=by
  match vs,h with
  | [],h=>exact h.2
  | [a],h=>exact h.2
  | [_,b],h=>exact h.2
  | [_,_,c],h=>exact h.2
  | _::_::_::_::_,h=>exact h.elim
 exact⟨(hb.cell 3).trans h1,(hb.cell 4).trans h2,(hb.cell 5).trans h3⟩
theorem zga.KbS(h:p:=by
 go_loopw [3,8] (λ v iv wr=>∃(i:Nat),i<=d.query.order.length/\iv=.int .i64 i/\yJ w S v wr (Lv++(d.query.order.take i).map (λ x=>x.1))/\av wr q 28 #[.slice y.query.items.A y.query.items.n y.query.items.c,.string y.query.aN,.bool y.query.only,.slice y.query.aP.A y.query.aP.n y.query.aP.c,.slice y.query.group.A y.query.group.n y.query.group.c,.slice y.query.having.A y.query.having.n y.query.having.c,.slice y.query.order.A y.query.order.n y.query.order.c,.slice y.query.aQ.A y.query.aQ.n y.query.aQ.c]) (λ _ iv _=>d.query.order.length - (intOf iv).toNat);case atStart=>exact⟨0,Nat.zero_le _,rfl,by rw[take_zero,map_nil,append_nil];exact Ut.out,Wy.out⟩
 case round=>
  obtain⟨i,hi,rfl,hX,yt⟩:=hrel;clear Ut Wy;have PR:=iO.out.query.order.1;obtain⟨(zs:List (Ex×Bool)),tS,FC⟩:=iO.out.query.order.2;have ja:(zs:List (Ex×Bool)).length=d.query.order.length:=FC.len;have xl:wr.cell? ⟨q,6,none⟩=some (.slice y.query.order.A y.query.order.n y.query.order.c):=yt.cell 6;have rh:=hid hX;have rY:=hid yt;have ZL:=yt.lt;clear hX yt;rw[PR] at xl;have hls:d.query.order.length<=1000000:=by have:=HN.out;omega
  by_cases hlt:i < d.query.order.length
  ·obtain⟨r,hr⟩:∃r,d.query.order[i]?=some r:=⟨_,getElem?_eq_getElem hlt⟩;obtain⟨z,hz⟩:∃z,zs[i]?=some z:=⟨_,getElem?_eq_getElem Ta1⟩;have Uo:=(su FC hr hz).1;have Ww:=hid (Bg (λ x=>x.1) hr);rcases tS with h0 |⟨b,off,mr,lH,hc⟩
   ·have h0:zs=([]:List (Ex×Bool)):=h0;exact Zfs
   have hcell:=λ j u hu=>(rh.out.below.cell (p:=⟨b,off+i*8+j,none⟩) (HS.out b lH)).trans (hc i z j u hz hu)
   have xx:(Lv++(d.query.order.take i).map (λ x=>x.1)).length<=Lv.length+i:=by simp;omega
   obtain⟨⟨Up,zv,sy,zw,zA,zl,zc⟩,zn⟩:=z;have k0:=hcell 0 _ rfl;have k1:=hcell 1 _ rfl;have k2:=hcell 2 _ rfl;have k3:=hcell 3 _ rfl;have k4:=hcell 4 _ rfl;have k5:=hcell 5 _ rfl;have k6:=hcell 6 _ rfl;simp only[Nat.add_zero] at k0;have X8:=hid Uo;have HAL:=hid xx;clear xx Uo hcell hc hr hz;generalize nZ:Lv++(d.query.order.take i).map (λ x=>x.1)=acc at*;have PS:=hid nZ;clear nZ;obtain⟨A3,c3,hv3⟩:=rh.out.len;subst hv3;have IC:=rh.out.later (aa wr (.cells (aL ⟨Up,zv,sy,zw,zA,zl,zc⟩).toArray 36));have tD:=hid (λ(ty:TypeId)=>oU 24 ty Tryz.underlying24 IC (av.new wr 36 (aL ⟨Up,zv,sy,zw,zA,zl,zc⟩).toArray) X8.out (by have:=HAL.out;have:=HN.out;have:=PT.out;have:=Us.out;have:=Yc.out;have:=ajh.out;omega));have HBN:=hid (rY.out.alloc (.cells (aL ⟨Up,zv,sy,zw,zA,zl,zc⟩).toArray 36));have oq:=hid IC;rw[mr] at xl;clear mr PR FC ja IC;go_wp2_with (first
    |(at_builtin
      refine fR rfl (.tmp 78) (.tmp 85) 24 rfl rfl rfl (tD.out _) ?_
      rintro v' w9 ⟨Cv,pP⟩
      have Wx:=hid Cv
      have X9:=hid (oq.out.far pP HBN.out Tac)
      clear Cv pP))
   exact ZbQ
  obtain rfl:i=d.query.order.length:=by omega
  have Uq:=rh.out;rw[take_length] at Uq;clear rh;have xx:(Lv++d.query.order.map (λ x=>x.1)).length=Lv.length+d.query.order.length:=by simp
  have rh:=hid Uq;clear FC tS Uq;obtain⟨A3,c3,hv3⟩:=rh.out.len;subst hv3;have aji:=hid (show Lv++d.query.order.map (λ x=>x.1)=d.exprs by rw[<- aeL.out,<- aeK.out,<- aeJ.out,<- aeI.out,<- aeF.out];simp[St.exprs,Qu.exprs]);go_wp2_with fail;go_ret;obtain⟨sl,h1,h2,h3⟩:=rh.out.sl HS.out;rw[aji.out] at h2 h3;exact⟨sl,congrArg Ending.returned h1,h2,h3,rh.out.below⟩):p:=h
theorem IB (w:World)(d:St)(y:fX)(S:Nat->Prop)(hS:∀b,S b->b < w.heap.size)(h:d.at_ w S y)(hlen:d.exprs.length<=1000000)(hr0:d.rows.length<=1048576):
  Calls Tryz.prog 17 #[mC y] w λ e w'=>∃sl:Sl,e=.returned (eU sl)/\sl.n=d.exprs.length/\eJ.sl w' (ep 0 w') sl d.exprs/\Below w.heap.size w w':=by
 have iO:=hid h;have HS:=hid hS;have hn:(d.rows.flatten.length+d.bF.length+d.aP.length)+(d.query.items.length+d.query.aP.length+d.query.group.length+d.query.having.length+d.query.order.length)<=1000000:=by simp only[St.exprs,Qu.exprs,length_append,length_map] at hlen;omega
 have HN:=hid hn;have hb:=aa w (.cells (bI y).toArray 34);have hB:=av.new w 34 (bI y).toArray;have HX:=hid ((yJ.start w S).later hb);have hst:=qF y;unfold mC;clear h hS hn hlen;go_enter Tryz.func17,Tryz.ntmps17;go_wp2_with fail;generalize w.alloc _=W1 at*;have hs1:w.heap.size+1<=W1.heap.size:=hB.lt;clear hst;go_loopw [3,4] (λ v iv wr=>∃(i:Nat),i<=d.rows.length/\iv=.int .i64 i/\yJ w S v wr (d.rows.take i).flatten/\av wr w.heap.size 34 (bI y).toArray) (λ _ iv _=>d.rows.length - (intOf iv).toNat);case atStart=>exact⟨0,Nat.zero_le _,rfl,HX.out,hB⟩
 case round=>
  obtain⟨i,hi,rfl,hX,yt⟩:=hrel;have PR:=iO.out.rows.1;obtain⟨(sls:List Sl),tS,FC⟩:=iO.out.rows.2;have ja:(sls:List Sl).length=d.rows.length:=FC.len;have x19:wr.cell? ⟨w.heap.size,19,none⟩=some (.slice y.rows.A y.rows.n y.rows.c):=yt.cell 19;have rh:=hid hX;have rY:=hid yt;have ZL:=yt.lt;clear hX yt HX hB;rw[PR] at x19;by_cases hlt:i < d.rows.length
  ·obtain⟨r,hr⟩:∃r,d.rows[i]?=some r:=⟨_,getElem?_eq_getElem hlt⟩;obtain⟨z,hz⟩:∃z,sls[i]?=some z:=⟨_,getElem?_eq_getElem Ta1⟩;have Uo:eJ.lies w S z.A z.n r:=su FC hr hz;have QO:=Yb hr;have Ww:=hid (DG hr);rcases tS with h0 |⟨b,off,mr,lH,hc⟩
   ·have h0:sls=([]:List Sl):=h0;exact Zfs
   have hcell:wr.cell? ⟨b,off+i*1+0,none⟩=some (.slice z.A z.n z.c):=(rh.out.below.cell (p:=⟨b,off+i*1+0,none⟩) (HS.out b lH)).trans (hc i z 0 _ hz rfl);simp only[Nat.mul_one,Nat.add_zero] at hcell;have X8:=hid Uo;have HNX:=hid QO;have hap:=λ(v:Value) (hX:yJ w S v wr (d.rows.take i).flatten) (ty:TypeId)=>jA 24 ty Tryz.underlying24 hX (c:=z.c) X8.out HS.out (by have:=HNX.out;have:=HN.out;omega)
   have tD:=hid hap;clear QO;generalize nZ:(d.rows.take i).flatten=acc at*;have PS:=hid nZ;clear nZ;obtain⟨A3,c3,hv3⟩:=rh.out.len;subst hv3;rw[mr] at x19;clear hr hz Uo hc hap PR FC ja;go_wp2_with (first
    |(at_builtin
      refine fR rfl (.tmp 16) (.tmp 21) 24 rfl rfl rfl (tD.out _ rh.out _) ?_
      rintro v' w' ⟨Cv,pP⟩
      have Wx:=hid Cv
      have X9:=hid (rh.out.far pP rY.out Tac)
      clear Cv pP))
   go_roundw;case rel=>exact⟨i+1,hlt,by go_num,by rw[Ww.out];exact Wx.out,X9.out⟩
   case measure=>exact Zcj
  obtain rfl:i=d.rows.length:=by omega
  have HX1:=hid (show yJ w S _ wr d.rows.flatten by have:=rh.out;rw[take_length] at this;exact this);clear rh FC tS;obtain⟨A3,c3,hv3⟩:=HX1.out.len;subst hv3;generalize E2:d.rows.flatten=Lt at*;have aeF:=hid E2;clear E2;go_wp2_with fail;clear hi hlt x19 ja PR;go_loopw [3,5] (λ v iv wr=>∃(i:Nat),i<=d.bF.length/\iv=.int .i64 i/\yJ w S v wr (Lt++(d.bF.take i).map (λ x=>x.2))/\av wr w.heap.size 34 (bI y).toArray) (λ _ iv _=>d.bF.length - (intOf iv).toNat);case atStart=>exact⟨0,Nat.zero_le _,rfl,by rw[take_zero,map_nil,append_nil];exact HX1.out,rY.out⟩
  case round=>
   obtain⟨i,hi,rfl,hX,yt⟩:=hrel;clear HX1 rY;have PR:=iO.out.bF.1;obtain⟨(zs:List (ByteArray×Ex)),tS,FC⟩:=iO.out.bF.2;have ja:(zs:List (ByteArray×Ex)).length=d.bF.length:=FC.len;have xl:wr.cell? ⟨w.heap.size,20,none⟩=some (.slice y.bF.A y.bF.n y.bF.c):=yt.cell 20;have rh:=hid hX;have rY:=hid yt;have ZL:=yt.lt;clear hX yt;rw[PR] at xl;have hls:d.bF.length<=1000000:=by have:=HN.out;omega
   by_cases hlt:i < d.bF.length
   ·obtain⟨r,hr⟩:∃r,d.bF[i]?=some r:=⟨_,getElem?_eq_getElem hlt⟩;obtain⟨z,hz⟩:∃z,zs[i]?=some z:=⟨_,getElem?_eq_getElem Ta1⟩;have Uo:=(su FC hr hz).2;have Ww:=hid (Bg (λ x=>x.2) hr);rcases tS with h0 |⟨b,off,mr,lH,hc⟩
    ·have h0:zs=([]:List (ByteArray×Ex)):=h0;exact Zfs
    have hcell:=λ j u hu=>(rh.out.below.cell (p:=⟨b,off+i*8+j,none⟩) (HS.out b lH)).trans (hc i z j u hz hu)
    have xx:(Lt++(d.bF.take i).map (λ x=>x.2)).length<=Lt.length+i:=by simp;omega
    obtain⟨zn,⟨Up,zv,sy,zw,zA,zl,zc⟩⟩:=z;have k0:=hcell 1 _ rfl;have k1:=hcell 2 _ rfl;have k2:=hcell 3 _ rfl;have k3:=hcell 4 _ rfl;have k4:=hcell 5 _ rfl;have k5:=hcell 6 _ rfl;have k6:=hcell 7 _ rfl;have X8:=hid Uo;have HAL:=hid xx;clear xx Uo hcell hc hr hz;generalize nZ:Lt++(d.bF.take i).map (λ x=>x.2)=acc at*;have PS:=hid nZ;clear nZ;obtain⟨A3,c3,hv3⟩:=rh.out.len;subst hv3;have IC:=rh.out.later (aa wr (.cells (aL ⟨Up,zv,sy,zw,zA,zl,zc⟩).toArray 36));have tD:=hid (λ(ty:TypeId)=>oU 24 ty Tryz.underlying24 IC (av.new wr 36 (aL ⟨Up,zv,sy,zw,zA,zl,zc⟩).toArray) X8.out (by have:=HAL.out;have:=HN.out;omega));have HBN:=hid (rY.out.alloc (.cells (aL ⟨Up,zv,sy,zw,zA,zl,zc⟩).toArray 36));have oq:=hid IC;rw[mr] at xl;clear mr PR FC ja IC;go_wp2_with (first
     |(at_builtin
       refine fR rfl (.tmp 30) (.tmp 37) 24 rfl rfl rfl (tD.out _) ?_
       rintro v' w9 ⟨Cv,pP⟩
       have Wx:=hid Cv
       have X9:=hid (oq.out.far pP HBN.out Tac)
       clear Cv pP))
    exact ZbQ
   obtain rfl:i=d.bF.length:=by omega
   have Uq:=rh.out;rw[take_length] at Uq;clear rh;have xx:(Lt++d.bF.map (λ x=>x.2)).length=Lt.length+d.bF.length:=by simp
   have rh:=hid Uq;clear FC tS Uq;obtain⟨A3,c3,hv3⟩:=rh.out.len;subst hv3;generalize E3:Lt++d.bF.map (λ x=>x.2)=Y0 at*;have aeI:=hid E3;have PT:=hid xx;have hww:=iO.out.aP;have tD:=hid (λ(ty:TypeId)=>jA 24 ty Tryz.underlying24 rh.out (c:=y.aP.c) hww HS.out (by have:=PT.out;have:=HN.out;omega));have x21:wr.cell? ⟨w.heap.size,21,none⟩=some (.slice y.aP.A y.aP.n y.aP.c):=rY.out.cell 21;clear E3 xx hww;go_wp2_with (first
    |(at_builtin
      refine fR rfl (.tmp 39) (.tmp 41) 24 rfl rfl rfl (tD.out _) ?_
      rintro v' w9 ⟨Cv,pP⟩
      have Ur:=rh.out.far pP rY.out Tac
      obtain⟨A4,c4,hv4⟩:=Cv.len
      subst hv4
      have Us:=hid (show(Y0++d.aP).length=Y0.length+d.aP.length by simp)
      generalize E4:Y0++d.aP=Lu at*
      have aeJ:=hid E4
      have Wx:=hid Cv
      have ajf:=hid Ur
      have q7:w9.cell? ⟨w.heap.size,7,none⟩=some (.slice y.query.items.A y.query.items.n y.query.items.c):=Ur.cell 7
      have q8:w9.cell? ⟨w.heap.size,8,none⟩=some (.string y.query.aN):=Ur.cell 8
      have q9:w9.cell? ⟨w.heap.size,9,none⟩=some (.bool y.query.only):=Ur.cell 9
      have q10:w9.cell? ⟨w.heap.size,10,none⟩=some (.slice y.query.aP.A y.query.aP.n y.query.aP.c):=Ur.cell 10
      have q11:w9.cell? ⟨w.heap.size,11,none⟩=some (.slice y.query.group.A y.query.group.n y.query.group.c):=Ur.cell 11
      have q12:w9.cell? ⟨w.heap.size,12,none⟩=some (.slice y.query.having.A y.query.having.n y.query.having.c):=Ur.cell 12
      have q13:w9.cell? ⟨w.heap.size,13,none⟩=some (.slice y.query.order.A y.query.order.n y.query.order.c):=Ur.cell 13
      have q14:w9.cell? ⟨w.heap.size,14,none⟩=some (.slice y.query.aQ.A y.query.aQ.n y.query.aQ.c):=Ur.cell 14
      have uG:=Ur.lt
      clear Cv pP Ur E4))
   clear x21 tD rh;have HQ:=hid (av.new w9 28 (jE y.query).toArray);have HXQ:=hid (Wx.out.later (aa w9 (.cells (jE y.query).toArray 28)));clear Wx ajf q7 q8 q9 q10 q11 q12 q13 q14 rY;unfold jE eU at HQ HXQ;generalize w9.alloc _=W9 at*;generalize w9.heap.size=q at*;clear uG;go_loopw [3,7] (λ v iv wr=>∃(i:Nat),i<=d.query.items.length/\iv=.int .i64 i/\yJ w S v wr (Lu++(d.query.items.take i).map (λ x=>x.1))/\av wr q 28 #[.slice y.query.items.A y.query.items.n y.query.items.c,.string y.query.aN,.bool y.query.only,.slice y.query.aP.A y.query.aP.n y.query.aP.c,.slice y.query.group.A y.query.group.n y.query.group.c,.slice y.query.having.A y.query.having.n y.query.having.c,.slice y.query.order.A y.query.order.n y.query.order.c,.slice y.query.aQ.A y.query.aQ.n y.query.aQ.c]) (λ _ iv _=>d.query.items.length - (intOf iv).toNat);case atStart=>exact⟨0,Nat.zero_le _,rfl,by rw[take_zero,map_nil,append_nil];exact HXQ.out,HQ.out⟩
   case round=>
    obtain⟨i,hi,rfl,hX,yt⟩:=hrel;clear HXQ HQ;have PR:=iO.out.query.items.1;obtain⟨(zs:List (Ex×ByteArray)),tS,FC⟩:=iO.out.query.items.2;have ja:(zs:List (Ex×ByteArray)).length=d.query.items.length:=FC.len;have xl:wr.cell? ⟨q,0,none⟩=some (.slice y.query.items.A y.query.items.n y.query.items.c):=yt.cell 0;have rh:=hid hX;have rY:=hid yt;have ZL:=yt.lt;clear hX yt;rw[PR] at xl;have hls:d.query.items.length<=1000000:=by have:=HN.out;omega
    by_cases hlt:i < d.query.items.length
    ·obtain⟨r,hr⟩:∃r,d.query.items[i]?=some r:=⟨_,getElem?_eq_getElem hlt⟩;obtain⟨z,hz⟩:∃z,zs[i]?=some z:=⟨_,getElem?_eq_getElem Ta1⟩;have Uo:=(su FC hr hz).1;have Ww:=hid (Bg (λ x=>x.1) hr);rcases tS with h0 |⟨b,off,mr,lH,hc⟩
     ·have h0:zs=([]:List (Ex×ByteArray)):=h0;exact Zfs
     have hcell:=λ j u hu=>(rh.out.below.cell (p:=⟨b,off+i*8+j,none⟩) (HS.out b lH)).trans (hc i z j u hz hu)
     have xx:(Lu++(d.query.items.take i).map (λ x=>x.1)).length<=Lu.length+i:=by simp;omega
     obtain⟨⟨Up,zv,sy,zw,zA,zl,zc⟩,zn⟩:=z;have k0:=hcell 0 _ rfl;have k1:=hcell 1 _ rfl;have k2:=hcell 2 _ rfl;have k3:=hcell 3 _ rfl;have k4:=hcell 4 _ rfl;have k5:=hcell 5 _ rfl;have k6:=hcell 6 _ rfl;simp only[Nat.add_zero] at k0;have X8:=hid Uo;have HAL:=hid xx;clear xx Uo hcell hc hr hz;generalize nZ:Lu++(d.query.items.take i).map (λ x=>x.1)=acc at*;have PS:=hid nZ;clear nZ;obtain⟨A3,c3,hv3⟩:=rh.out.len;subst hv3;have IC:=rh.out.later (aa wr (.cells (aL ⟨Up,zv,sy,zw,zA,zl,zc⟩).toArray 36));have tD:=hid (λ(ty:TypeId)=>oU 24 ty Tryz.underlying24 IC (av.new wr 36 (aL ⟨Up,zv,sy,zw,zA,zl,zc⟩).toArray) X8.out (by have:=HAL.out;have:=HN.out;have:=PT.out;have:=Us.out;omega));have HBN:=hid (rY.out.alloc (.cells (aL ⟨Up,zv,sy,zw,zA,zl,zc⟩).toArray 36));have oq:=hid IC;rw[mr] at xl;clear mr PR FC ja IC;go_wp2_with (first
      |(at_builtin
        refine fR rfl (.tmp 52) (.tmp 59) 24 rfl rfl rfl (tD.out _) ?_
        rintro v' w9 ⟨Cv,pP⟩
        have Wx:=hid Cv
        have X9:=hid (oq.out.far pP HBN.out Tac)
        clear Cv pP))
     exact ZbQ
    obtain rfl:i=d.query.items.length:=by omega
    have Uq:=rh.out;rw[take_length] at Uq;clear rh;have xx:(Lu++d.query.items.map (λ x=>x.1)).length=Lu.length+d.query.items.length:=by simp
    have rh:=hid Uq;clear FC tS Uq;obtain⟨A3,c3,hv3⟩:=rh.out.len;subst hv3;have Yc:=hid xx;clear xx;generalize E5:Lu++d.query.items.map (λ x=>x.1)=PU at*;have aeK:=hid E5;clear E5;have x3:=rY.out.cell 3;have x4:=rY.out.cell 4;have x5:=rY.out.cell 5;simp only[Uaa] at x3 x4 x5;go_upto_region 16 with fail;clear hi hlt xl PR hls;have hwa:=iO.out.query.aP;have hga:=iO.out.query.group;have hha:=iO.out.query.having;have HWA:=hid hwa;have HGA:=hid hga;have HHA:=hid hha;clear hwa hga hha x3 x4 x5;refine IA (P:=Tryz.prog) (J:=exJ w S q (#[.slice y.query.items.A y.query.items.n y.query.items.c,.string y.query.aN,.bool y.query.only,.slice y.query.aP.A y.query.aP.n y.query.aP.c,.slice y.query.group.A y.query.group.n y.query.group.c,.slice y.query.having.A y.query.having.n y.query.having.c,.slice y.query.order.A y.query.order.n y.query.order.c,.slice y.query.aQ.A y.query.aQ.n y.query.aQ.c]) (.slice A3 PU.length c3) PU d.query.aP d.query.group d.query.having) (q:=6) (s:=3) (d0:=61) (d1:=62) (d2:=63) (d3:=64) (d4:=65) (d5:=66) (d6:=67) (d7:=68) (d8:=69) (d9:=70) (pq:=.pointer (some ⟨q,0,none⟩)) (v0:=.slice A3 PU.length c3) (p1:=.pointer (some ⟨q,3,none⟩)) (p2:=.pointer (some ⟨q,4,none⟩)) (p3:=.pointer (some ⟨q,5,none⟩)) (s1:=.slice y.query.aP.A y.query.aP.n y.query.aP.c) (s2:=.slice y.query.group.A y.query.group.n y.query.group.c) (s3:=.slice y.query.having.A y.query.having.n y.query.having.c) (A1:=⟨q,3,none⟩) (A2:=⟨q,4,none⟩) (A3:=⟨q,5,none⟩) 24 (Un _ _ _ _ _ _ _ _ _) ⟨rh.out,rY.out⟩ Tab Tab Tab Tab Tab rfl rfl ?_ ?_ ?_ ?_ (PQ _ _ _ _ _ _ _ _ _ rfl rfl rfl) ?_ ?_ ?_ ?_ ?_ ?_ ?_ ?_ ?_ ?_
    ·exact ZcF
    ·exact ZcF
    ·exact ZcF
    ·exact ZcF
    ·exact ZcL
    ·exact ZcL
    ·exact ZcL
    ·exact Zgp
    ·exact Zgp
    ·exact Zgp
    ·rintro w5 ⟨hx,hq⟩;obtain⟨v',w',hrun,Cv,pP⟩:=jA 24 24 Tryz.underlying24 hx (c:=y.query.aP.c) HWA.out HS.out (by have:=Yc.out;have:=Us.out;have:=PT.out;have:=HN.out;omega);exact ZfL
    ·rintro a w5 ⟨hx,hq⟩;obtain⟨v',w',hrun,Cv,pP⟩:=jA 24 24 Tryz.underlying24 hx (c:=y.query.group.c) HGA.out HS.out TaE;exact ZfL
    ·rintro a b w5 ⟨hx,hq⟩;obtain⟨v',w',hrun,Cv,pP⟩:=jA 24 24 Tryz.underlying24 hx (c:=y.query.having.c) HHA.out HS.out TaE;exact ZfL
    rintro va vb vc W7 ⟨hX7,hB7⟩;have Ut:=hid hX7;have Wy:=hid hB7;clear hX7 hB7 rh rY HWA HGA HHA;have ajh:=hid (show(PU++d.query.aP++d.query.group++d.query.having).length=PU.length+d.query.aP.length+d.query.group.length+d.query.having.length by simp only[length_append]);generalize E6:PU++d.query.aP++d.query.group++d.query.having=Lv at*;have aeL:=hid E6;clear E6;obtain⟨A8,c8,hv8⟩:=Ut.out.len;subst hv8;open zga in exact Zd8
theorem ID (w:World)(d:St)(y:fX)(S:Nat->Prop)(hS:∀b,S b->b < w.heap.size)(h:d.at_ w S y)(hlen:d.exprs.length<=100000)(hr0:d.rows.length<=64):
 Calls Tryz.prog 17 #[mC y] w λ e w'=>∃sl:Sl,e=.returned (eU sl)/\sl.n=d.exprs.length/\eJ.sl w' (ep 0 w') sl d.exprs/\Below w.heap.size w w':=IB w d y S hS h Taa Taa
def lM (s:ByteArray)(w:World)(e:Ending)(w':World):Prop:=
 match kU s.data.toList with
 | .error (p,x)=>e=.returned (.tuple #[mC {},.int .i64 p,.int .i64 x])/\Below w.heap.size w w'
 | .ok d=>∃y:fX,e=.returned (.tuple #[mC y,.int .i64 0,.int .i64 0])/\d.at_ w' (ep w.heap.size w') y/\Below w.heap.size w w'
variable{x:Nat}
theorem PV{r:List UInt8} (h:dF r=.error x):x=2\/x=30:=by
 match r with
 | []=>injection h with h;exact .inr h.symm
 | c::r=>
   simp only[dF] at h;split at h
   ·split at h
    ·cases h
    ·injection h with h;exact .inl h.symm
   split at h
   ·exact Zcr
   split at h
   ·exact Zcr
   ·exact Zcr
theorem DI (n:Nat):∀(f:Nat) (r:List UInt8) (p x:Nat),pW n f r=.error (p,x)->x=2\/x=30
 | 0,r,p,x,h=>by injection h with h;injection h with h1 h2;exact .inr h2.symm
 | f+1,r,p,x,h=>by
   simp only[pW] at h;split at h
   ·cases h
   ·split at h
    ·rename_i e he;injection h with h;injection h with h1 h2;subst h2;exact PV he
    ·split at h
     ·rename_i y hy;injection h with h;subst h;exact DI n f _ _ _ hy
     ·cases h
variable{s:List UInt8}
theorem PX{p:Nat}(h:kP s=.error (p,x)):x=2\/x=30:=by
 unfold kP at h;split at h
 ·injection h with h;injection h with h1 h2;exact .inl h2.symm
 ·exact DI _ _ _ _ _ h
variable{gl:Nat}
theorem bj.start{c:Nat} {l:List mA}(uK:gl < w.heap.size)(hc:∀k t,l[k]?=some t->w.cell? ⟨gl,k*4,none⟩=some (.int .u8 t.w.k)/\w.cell? ⟨gl,k*4+1,none⟩=some (.string ⟨t.w.s.toArray⟩)/\w.cell? ⟨gl,k*4+2,none⟩=some (.int .i64 t.w.n)/\w.cell? ⟨gl,k*4+3,none⟩=some (.int .i64 t.p))
  (he:iG (l.map (·.w))) (hlen:l.length<=4097) (hwd:∀t∈l,Ul t.w):
  (⟨w.heap.size,gl,c,l⟩:bj).at (w.alloc (.cells #[.slice (some ⟨gl,0,none⟩) l.length c,.int .i64 0,.int .i64 (-1),.bool false] 125)) (.good (l.map (·.w))) false:=by
 have hb:=av.new w 125 #[.slice (some ⟨gl,0,none⟩) l.length c,.int .i64 0,.int .i64 (-1),.bool false];refine⟨?_,uK,?_,⟨suffix_refl _,he⟩,?_,λ t ht=>(hwd t ht).1⟩
 ·have e:(⟨w.heap.size,gl,c,l⟩:bj).cells (.good (l.map (·.w))) false= #[.slice (some ⟨gl,0,none⟩) l.length c,.int .i64 0,.int .i64 (-1),.bool false]:=by simp[bj.cells,bj.n,bj.bad,dO.left]
  rw[e];exact hb
 ·intro k t hk;have c:=λ o=>World.cell?_alloc_lt w (.cells #[.slice (some ⟨gl,0,none⟩) l.length c,.int .i64 0,.int .i64 (-1),.bool false] 125) ⟨gl,o,none⟩ uK
  obtain⟨h1,h2,h3,h4⟩:=hc k t hk;exact Zc6
 ·show l.length<=5000;omega
theorem IE(w:World)(o:Obj)(cs:Array Value):∀b,ep B w b->(∀i,((w.alloc o).setRow w.heap.size cs).cell? ⟨b,i,none⟩=w.cell? ⟨b,i,none⟩)/\ep B ((w.alloc o).setRow w.heap.size cs) b:=λ b hb=>
 ⟨cell_of_heap ((setRow_other _ w.heap.size b cs (by have:=hb.2;omega)).trans (Below.heap_alloc w o b hb.2)),hb.1,by rw[size_setRow];have:=hb.2;simp;omega⟩
variable{r:aF}
theorem Lm{t:Wd} (ht:fW s t=true)(ρ:bj)(w:World)(h:ρ.at w (.good (t::r)) false)(b:Nat)(hb:av w b 9 (aK [s]))(hbg:ρ.g≠b):
  Calls Tryz.prog 131 #[ρ.ptr,.slice (some ⟨b,0,none⟩) 1 1] w (AB ρ w (.good r) false):=by have:=Pa ρ w (.good (t::r)) false h [s] b 1 rfl hb hbg Taa;rw[AA,rU (show(dO.good (t::r)).head s=true from ht)] at this;exact this
structure QY (ρ:bj) (w:World) (q qx:Nat) (wr:World) (l:aF) (t:Tr) (y:Ex):Prop where
 did:gP ρ w wr (.good l) false
 blk:av wr qx 36 (aL y).toArray
 res:av wr q 36 #[.int .u8 0,.int .u8 0,.int .i64 0,.string ⟨#[]⟩,.string ⟨#[]⟩,.int .i64 0,.slice none 0 0]
 tr:t.at_ wr (Bx (q+1) qx wr) y
variable{W2:World}{qx:Nat}
theorem QY.more{l:aF}  (A:QY ρ w q qx wr l t y)(d:gP ρ wr W2 (.good l) false)(h1:ρ.g < q)(h2:q+1<=qx):QY ρ w q qx W2 l t y:=
 ⟨A.did.trans d,d.blk A.blk Taa,d.blk A.res Taa,Tr.at_.keep (ik d.grown Taa) _ _ A.tr⟩
variable{u:Wd}
theorem zgs.KbY(h:p:=by
 have HP:=gJ dY.out y;have HR:=dV HP;unfold fZ at HR;obtain⟨r0,r1,r2,r3,r4,r5,r6⟩:=HR;refine bodyPost_ret (v:=dA y) Zb8 rfl ?_
 ·exact Zf1):p:=h
theorem za1.Kag(h:p:=by open zgs in exact Zeh):p:=h
theorem zia.KcL(h:p:=by
 have TX:=AG 3 3 rfl Tae tk;rw[aiE.out] at TX;have e1:(ρ.n:Int) - (dO.good (tk.w::r)).left+1=(ρ.n:Int) - r.length:=by simp only[dO.left,length_cons];omega
 have uy:=hid e1;have aes:=HA.out.did.at_.left;clear hpl hg eY yG hp hr2 e1;open za1 in exact Zaj):p:=h
theorem zdP.KaX(h:p:=by
 have V5:=gY ρ W _ false A.did.at_ ⟨#[105,115]⟩ his;have aiE:=hid hop;clear hop his;refine V5.mono ?_;rintro e w1 ⟨rfl,d1⟩;replace A:=A.more d1 Taa Taa;clear d1 V5;go_wp2_with fail;have HA:=hid A;clear A;go_loopg [] 0 (λ k wr=>wr=w1);case atStart=>rfl
 case round=>subst hrel;obtain⟨tk,pl,bd,hpl,hlt,V0,yG,eY,hg,xY,uA,hp⟩:=HA.out.did.at_.lp;open zia in exact Zg6):p:=h
theorem zcr.Kaw(h:p:=by open zdP in exact ZbA):p:=h
theorem aep{l:aF}  (his:ar kH (u::r)=false)(hop:vM 3 u=0)(H:fk 4 l t (u::r)):fk 3 l t (u::r):=by intro ρ w h;have H1:=H;clear H;have aZ:=h.mE;have hb:=aa w uT;have h0:=h.later hb;open zcr in exact ZaO
theorem zdQ.KaX(h:p:=by
 have V5:=vN ρ W (.good (u::v::r)) false A.did.at_ ⟨#[105,115]⟩ his;have Wo:=λ W' h'=>gY ρ W' (.good (v::r)) false h' ⟨#[110,111,116]⟩ hn
 have HV:=hid hv;clear hn his hv;have HA:=hid A;clear A;refine V5.mono ?_;rintro e w1 ⟨rfl,d1⟩;go_wp2_with (first
  |(go_at_call 77;refine(Wo _ d1.at_).mono ?_;rintro e w3 ⟨rfl,d3⟩)
  |(go_at_call 131;refine(Lm HV.out ρ _ (d3.at_.later (aa w3 (.cells (aK [bE]) 9))) w3.heap.size (av.new _ _ _) (by have:=d3.lt;omega)).mono ?_;rintro e w4 ⟨rfl,d4⟩;have dd:=(d1.trans (d3.later (aa w3 (.cells (aK [bE]) 9)))).trans d4;have h1:=d1.size;have hx:=HA.out.blk.lt;have B0:=dd.blk HA.out.blk Taa;have R0:=dd.blk HA.out.res Taa;have R1:=R0.alloc (Ds y);unfold Ds at R1;obtain⟨x0,x1,x2,x3,x4,x5,x6⟩:=dV B0;obtain⟨z0,z1,z2,z3,z4,z5,z6⟩:=gI R1;obtain⟨y0,y1,y2,y3,y4,y5,y6⟩:=cf R1;have HR1:=hid R1;have oq:=hid R0.lt;clear B0 R0 R1;unfold aL at z0 z1 z2 z3 z4 z5 z6 y0 y1 y2 y3 y4 y5 y6))
 have hx2:=oq.out;have HP:=gJ HR1.out (rK 18 w4.heap.size 1);have HR:=dV HP;unfold fZ rK rJ aL at HR;obtain⟨r0,r1,r2,r3,r4,r5,r6⟩:=HR;refine bodyPost_ret (v:=dA (rK 18 w4.heap.size 1)) Zb8 rfl ?_
 ·exact Nd.put aZ (Nat.le_refl _) ((HA.out.did.trans dd).later (aa w4 _)) (wJ 18 (av.new w4 36 (aL y).toArray) ⟨by omega,by simp⟩ (Tr.at_.keep (jF (Nat.le_refl _)) _ _ (Tr.at_.keep (gB (aa w4 _)) _ _ (Tr.at_.keep (ik dd.grown Taa) _ _ HA.out.tr))))):p:=h
theorem zcs.Kaw(h:p:=by open zdQ in exact ZbA):p:=h
theorem aet{l:aF} {v:Wd} (his:fW kH u=true)(hn:fW dT v=false)(hv:fW bE v=true)(H:fk 4 l t (u::v::r)):fk 3 l (mB 18 [t]) r:=by intro ρ w h;have H1:=H;clear H;have aZ:=h.mE;have hb:=aa w uT;have h0:=h.later hb;open zcs in exact ZaO
end Go.Proofs.YtehhdlgjfdnafaaGreatDoor
