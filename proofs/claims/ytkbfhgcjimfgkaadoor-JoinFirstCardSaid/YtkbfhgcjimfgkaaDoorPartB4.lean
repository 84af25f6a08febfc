/- A slice of the call's own that may begin within its row: many elements more. No condition. -/
import Derived.Test.YtkbfhgcjimfgkaaDoorPartA4
import Derived.Test.YtkbfhgcjimfgkaaDoorPartB3
import Derived.Test.YtkbfhgcjimfgkaaDoorPartA7
import Derived.Deep.MidRow
set_option linter.unusedVariables false
set_option linter.unusedSimpArgs false
set_option linter.unusedSimpArgs false
namespace Go.Proofs.YtkbfhgcjimfgkaaDoor
open Go.RowKit
structure Mk where
 anchor:Int
 head:Int
instance:Rep Mk where
 n:=2
 rd:=fun _ _ x cs=>cs=[.int .i64 x.anchor,.int .i64 x.head]∧I64 x.anchor∧I64 x.head
 len:=fun h=>by rw[h.1];rfl
 mono:=fun _ h=>h
 one:=fun h=>by rw[h.1];simp[Value.oneCell']
 pos:=by decide
structure Sd where
 peer:Int
 joined:Bool
 e:Ed
 l:Lk
def Ed.fits (e:Ed):Prop:=I64 e.sent∧I64 e.heard
abbrev sdCells (s:Sd)(a:Option Addr)(c:Nat)(sa:Option Addr)(sc:Nat)(qa:Option Addr)(qc:Nat):List Value:=
 [.int .i64 s.peer,.bool s.joined,.int .i64 s.e.sent,.int .i64 s.e.heard,.slice a s.e.pending.length c,.int .i64 s.l.epoch,.int .i64 s.l.next,.slice sa s.l.sent.length sc,.slice qa s.l.queue.length qc,.int .i64 s.l.heard]
instance:Rep Sd where
 n:=10
 rd:=fun A w s cs=>∃a c sa sc qa qc,cs=sdCells s a c sa sc qa qc∧RdS A w s.e.pending a s.e.pending.length c∧RdS A w s.l.sent sa s.l.sent.length sc∧RdS A w s.l.queue qa s.l.queue.length qc∧I64 s.peer∧s.e.fits∧s.l.fits
 len:=fun⟨_,_,_,_,_,_,h,_⟩=>by rw[h];rfl
 mono:=fun h ⟨a,c,sa,sc,qa,qc,e,h1,h2,h3,h4⟩=>⟨a,c,sa,sc,qa,qc,e,h1.mono h,h2.mono h,h3.mono h,h4⟩
 one:=fun⟨_,_,_,_,_,_,h,_⟩=>by rw[h];simp[Value.oneCell']
 pos:=by decide
structure Nd where
 me:Int
 epoch:Int
 up:Int
 ready:Bool
 text:Str
 sides:List Sd
 undo:List Op
 marks:List Mk
def Nd.fits (n:Nd):Prop:=I64 n.me∧I64 n.epoch∧I64 n.up∧n.text.size≤strMax
structure Po where
 dest:Int
 p:Pkt
instance:Rep Po where
 n:=10
 rd:=fun A w x cs=>∃a c,cs=[.int .i64 x.dest,.int .i64 x.p.epoch,.int .i64 x.p.number,.bool x.p.bare,.int .i64 x.p.ack,.int .i64 x.p.f.kind,.int .i64 x.p.f.heard,.int .i64 x.p.f.epoch,.slice a x.p.f.op.length c,.string x.p.f.text]∧RdS A w x.p.f.op a x.p.f.op.length c∧I64 x.dest∧I64 x.p.epoch∧I64 x.p.number∧I64 x.p.ack∧x.p.f.fits
 len:=fun⟨_,_,h,_⟩=>by rw[h];rfl
 mono:=fun h ⟨a,c,e,h1,h2⟩=>⟨a,c,e,h1.mono h,h2⟩
 one:=fun⟨_,_,h,_⟩=>by rw[h];simp[Value.oneCell']
 pos:=by decide
structure Tn where
 node:Nd
 posts:List Po
 recs:List Rec
abbrev tnCells (t:Tn)(us:Nat→Value):Array Value:=
 #[.int .i64 t.node.me,.int .i64 t.node.epoch,.int .i64 t.node.up,.bool t.node.ready,.string t.node.text,us 0,us 1,us 2,us 3,us 4]
def TnVal (A:Nat→Prop)(t:Tn)(v:Value)(w:World):Prop:=∃us,v=.agg (tnCells t us)∧t.node.fits∧(∃a c,us 0=.slice a t.node.sides.length c∧RdS A w t.node.sides a t.node.sides.length c)∧(∃a c,us 1=.slice a t.node.undo.length c∧RdS A w t.node.undo a t.node.undo.length c)∧
 (∃a c,us 2=.slice a t.node.marks.length c∧RdS A w t.node.marks a t.node.marks.length c)∧(∃a c,us 3=.slice a t.posts.length c∧RdS A w t.posts a t.posts.length c)∧(∃a c,us 4=.slice a t.recs.length c∧RdS A w t.recs a t.recs.length c)
theorem touch_setCells (w:World)(r k:Nat)(vs:List Value):Touch (fun z=>z=r) w (w.setCells r k vs):=
 ⟨World.os_setCells w r k vs,tape_setCells r vs k w,World.output_setCells w r k vs,by rw[size_setCells'];exact Nat.le_refl _,fun q hq hs=>World.heap_setCells_other w r k vs hq hs⟩
theorem blk_setL (g T:Nat):∀(vs pre post:List Value)(w:World),post.length=vs.length→Blk g (.cells (pre++post).toArray T (0,0)) w→Blk g (.cells (pre++vs).toArray T (0,0)) (w.setCells g pre.length vs)
 |[],pre,[],w,_,h=>h
 |v::vs,pre,p::post,w,hl,h=>by
  have h1:=h.set pre.length v;have e:(pre++p::post).toArray.setIfInBounds pre.length v=((pre++[v])++post).toArray:=by
   rw[List.setIfInBounds_toArray,List.set_append_right _ _ (Nat.le_refl _),Nat.sub_self,List.set_cons_zero];simp
  rw[e]at h1;have h2:=blk_setL g T vs (pre++[v]) post _ (by simpa using hl) h1;have e2:(pre++[v])++vs=pre++v::vs:=by simp
  rw[e2]at h2;have e3:(pre++[v]).length=pre.length+1:=by simp
  rw[e3]at h2;exact h2
 |[],_,_::_,_,hl,_=>by simp at hl
 |_::_,_,[],_,hl,_=>by simp at hl
abbrev set10w (W:World)(g:Nat)(v0 v1 v2 v3 v4 v5 v6 v7 v8 v9:Value):World:=(((((((((W.setCell ⟨g,0,none⟩ v0).setCell ⟨g,1,none⟩ v1).setCell ⟨g,2,none⟩ v2).setCell ⟨g,3,none⟩ v3).setCell ⟨g,4,none⟩ v4).setCell ⟨g,5,none⟩ v5).setCell ⟨g,6,none⟩ v6).setCell ⟨g,7,none⟩ v7).setCell ⟨g,8,none⟩ v8).setCell ⟨g,9,none⟩ v9
theorem blk_set10 {w:World}{g T:Nat}{c0 c1 c2 c3 c4 c5 c6 c7 c8 c9:Value}(h:Blk g (.cells #[c0,c1,c2,c3,c4,c5,c6,c7,c8,c9] T (0,0)) w)(v0 v1 v2 v3 v4 v5 v6 v7 v8 v9:Value):Blk g (.cells #[v0,v1,v2,v3,v4,v5,v6,v7,v8,v9] T (0,0)) (set10w w g v0 v1 v2 v3 v4 v5 v6 v7 v8 v9):=
 blk_setL g T [v0,v1,v2,v3,v4,v5,v6,v7,v8,v9] [] [c0,c1,c2,c3,c4,c5,c6,c7,c8,c9] w rfl h
theorem touch10 (w:World)(g:Nat)(v0 v1 v2 v3 v4 v5 v6 v7 v8 v9:Value):Touch (fun z=>z=g) w (set10w w g v0 v1 v2 v3 v4 v5 v6 v7 v8 v9):=
 (((((((((touch1 v0).trans (touch1 v1)).trans (touch1 v2)).trans (touch1 v3)).trans (touch1 v4)).trans (touch1 v5)).trans (touch1 v6)).trans (touch1 v7)).trans (touch1 v8)).trans (touch1 v9)
theorem blk10_cells {g:Nat}{x0 x1 x2 x3 x4 x5 x6 x7 x8 x9:Value}{T:Nat}{W:World}(h:Blk g (.cells #[x0,x1,x2,x3,x4,x5,x6,x7,x8,x9] T (0,0)) W):
 W.cell? ⟨g,0,none⟩=some x0∧W.cell? ⟨g,1,none⟩=some x1∧W.cell? ⟨g,2,none⟩=some x2∧W.cell? ⟨g,3,none⟩=some x3∧W.cell? ⟨g,4,none⟩=some x4∧W.cell? ⟨g,5,none⟩=some x5∧W.cell? ⟨g,6,none⟩=some x6∧W.cell? ⟨g,7,none⟩=some x7∧W.cell? ⟨g,8,none⟩=some x8∧W.cell? ⟨g,9,none⟩=some x9:=
 ⟨h.cell 0,h.cell 1,h.cell 2,h.cell 3,h.cell 4,h.cell 5,h.cell 6,h.cell 7,h.cell 8,h.cell 9⟩
abbrev zeroTn:Array Value:=#[.int .i64 0,.int .i64 0,.int .i64 0,.bool false,.string ⟨#[]⟩,.slice none 0 0,.slice none 0 0,.slice none 0 0,.slice none 0 0,.slice none 0 0]
theorem zero_turn {b:Nat}{w W:World}(hb:w.heap.size≤b)(x:Blk b (.cells zeroTn 35 (0,0)) W)(h:Below w.heap.size w W):
 Blk b (.cells zeroTn 35 (0,0)) (set10w W b (.int .i64 0) (.int .i64 0) (.int .i64 0) (.bool false) (.string ⟨#[]⟩) (.slice none 0 0) (.slice none 0 0) (.slice none 0 0) (.slice none 0 0) (.slice none 0 0))∧Below w.heap.size w (set10w W b (.int .i64 0) (.int .i64 0) (.int .i64 0) (.bool false) (.string ⟨#[]⟩) (.slice none 0 0) (.slice none 0 0) (.slice none 0 0) (.slice none 0 0) (.slice none 0 0)):=
 ⟨blk_set10 x _ _ _ _ _ _ _ _ _ _,h.trans ((touch10 W b _ _ _ _ _ _ _ _ _ _).toBelow h.size (fun k hk=>by omega))⟩
theorem RdS.elem {α:Type} [Rep α] {A:Nat→Prop}{w:World}{l:List α}{a:Option Addr}{n c:Nat}(h:RdS A w l a n c)(i:Nat)(hi:i<l.length):
 ∃b off xs,a=some ⟨b,off,none⟩∧A b∧b<w.heap.size∧Rep.rd A w l[i] xs∧∀j v,xs[j]?=some v→w.cell? ⟨b,off+i*Rep.n α+j,none⟩=some v:=by
 obtain⟨b,off,e,hA,hb,he⟩:=h.2.2.2.2 (by have:=h.1;omega);obtain⟨xs,h1,h2⟩:=he i l[i] (List.getElem?_eq_getElem hi);exact⟨b,off,xs,e,hA,hb,h1,h2⟩
end Go.Proofs.YtkbfhgcjimfgkaaDoor
set_option linter.unusedSimpArgs false
namespace Go.Proofs.YtkbfhgcjimfgkaaDoor
open Go.RowKit
def Mine (g:Nat)(vs:Nat→Value)(z:Nat):Prop:=z=g∨∃i,i<5∧(vs i).ownBlock=some z
def WX (base g:Nat)(vs:Nat→Value)(z:Nat):Prop:=z<base∨Mine g vs z
def NM (g:Nat)(vs:Nat→Value)(w:World)(z:Nat):Prop:=z<w.heap.size∧¬Mine g vs z
def rowOk (base:Nat)(X:Nat→Prop)(t:Tn)(j:Nat)(v:Value)(w:World):Prop:=match j with
 |0=>OwnO X base v t.node.sides w
 |1=>OwnO X base v t.node.undo w
 |2=>OwnO X base v t.node.marks w
 |3=>OwnO X base v t.posts w
 |4=>OwnO X base v t.recs w
 |_=>True
structure WkG (base g:Nat) (t:Tn) (us vs:Nat→Value) (w:World):Prop where
 box:Blk g (.cells (tnCells t us) 82 (0,0)) w
 rows:∀j,j<5→rowOk base (WX base g vs) t j (vs j) w
 gb:base≤g
 ne:∀i,i<5→∀z,(vs i).ownBlock=some z→z≠g
 di:∀i j,i<5→j<5→i≠j→∀z,(vs i).ownBlock=some z→(vs j).ownBlock≠some z
 fit:t.node.fits
 g2:2≤base
abbrev WkM (base g:Nat)(t:Tn)(vs:Nat→Value)(w:World):Prop:=WkG base g t vs vs w
section
variable {base g j:Nat} {t:Tn} {us vs:Nat→Value} {v:Value} {w w':World} {X X':Nat→Prop}
theorem rowOk.lt (hj:j<5)(h:rowOk base X t j v w):∀k,v.ownBlock=some k→base≤k∧k<w.heap.size:=by
 match j,hj with
 |0,_=>exact OwnO.rowlt h
 |1,_=>exact OwnO.rowlt h
 |2,_=>exact OwnO.rowlt h
 |3,_=>exact OwnO.rowlt h
 |4,_=>exact OwnO.rowlt h
theorem rowOk.keep (h:rowOk base X t j v w)(hs:w.heap.size≤w'.heap.size)(hk:∀k,k<w.heap.size→(¬X k∨v.ownBlock=some k)→w'.heap[k]?=w.heap[k]?)(hX:∀k,k<w.heap.size→X' k→X k∨v.ownBlock=some k):rowOk base X' t j v w':=by
 have key:∀{α:Type} [Rep α] {l:List α},OwnO X base v l w→OwnO X' base v l w':=by
  intro α _ l ho;rcases ho.row with⟨a,hv,hl,h2⟩|⟨q,off,cap,hv,h1,h2,h3,h4,h5,h6⟩
  ·exact⟨.inl ⟨a,hv,hl,fun k hk=>⟨(h2 k hk).1,Nat.lt_of_lt_of_le (h2 k hk).2 hs⟩⟩⟩
  ·have hq:=hk q h2 (.inr (by rw[hv];rfl));refine⟨.inr ⟨q,off,cap,hv,h1,Nat.lt_of_lt_of_le h2 hs,h3,h4,fun i hi=>?_,fun i x hx=>?_⟩⟩
   ·obtain⟨h7,h8⟩:=h5 i hi;exact⟨by rw[cell_keep hq];exact h7,(World.frozen?_of_block (a:=⟨q,off+i,none⟩) hq).trans h8⟩
   ·obtain⟨xs,r1,r2⟩:=h6 i x hx;refine⟨xs,Rep.mono (fun b hb=>⟨⟨Nat.lt_of_lt_of_le hb.1 hs,fun hx'=>?_,hb.2.2⟩,hk b hb.1 (.inl hb.2.1)⟩) r1,fun i u hu=>(cell_keep hq).trans (r2 i u hu)⟩;rcases hX b hb.1 hx' with h9|h9
    ·exact hb.2.1 h9
    ·rw[hv]at h9;exact hb.2.2 (by simpa[Value.ownBlock]using h9.symm)
 match j with
 |0=>exact key h
 |1=>exact key h
 |2=>exact key h
 |3=>exact key h
 |4=>exact key h
 |j+5=>trivial
theorem WkG.lt (h:WkG base g t us vs w):g<w.heap.size:=h.box.lt
theorem WkG.mine (h:WkG base g t us vs w):∀z,Mine g vs z→base≤z∧z<w.heap.size:=by
 rintro z (rfl|⟨i,hi,hz⟩)
 ·exact⟨h.gb,h.lt⟩
 ·exact rowOk.lt hi (h.rows i hi) z hz
theorem WkG.keep (h:WkG base g t us vs w)(hs:w.heap.size≤w'.heap.size)(hk:∀k,k<w.heap.size→base≤k→w'.heap[k]?=w.heap[k]?):WkG base g t us vs w':=
 ⟨(hk g h.lt h.gb).trans h.box,fun j hj=>(h.rows j hj).keep hs (fun k hk' hx=>hk k hk' (by
  rcases hx with hx|hx
  ·exact Nat.le_of_not_lt fun hlt=>hx (.inl hlt)
  ·exact(rowOk.lt hj (h.rows j hj) k hx).1)) (fun k _ hx=>.inl hx),h.gb,h.ne,h.di,h.fit,h.g2⟩
theorem WkG.go (h:WkG base g t us vs w)(hb:Below w.heap.size w w'):WkG base g t us vs w':=h.keep hb.size fun k hk _=>hb.block k hk
theorem WkG.grow {t':Tn}{v':Value}(h:WkG base g t us vs w)(hj:j<5)(hg:w.grownBy w' (vs j).ownBlock)(hv:∀k,v'.ownBlock=some k→(vs j).ownBlock=some k∨w.heap.size≤k)(hn:rowOk base (WX base g vs) t' j v' w')
 (hr:∀i,i≠j→∀X v W,rowOk base X t i v W→rowOk base X t' i v W) (hc:tnCells t' us=tnCells t us) (hf:t'.node.fits):WkG base g t' us (fun q=>if q=j then v' else vs q) w':=by
 have hlt:=h.lt;have hX:∀k,k<w.heap.size→WX base g (fun q=>if q=j then v' else vs q) k→WX base g vs k:=by
  rintro k hk (h1|h1|⟨i,hi,h1⟩)
  ·exact .inl h1
  ·exact .inr (.inl h1)
  ·by_cases e:i=j
   ·subst e;simp only[if_true]at h1;rcases hv k h1 with h2|h2
    ·exact .inr (.inr ⟨i,hi,h2⟩)
    ·omega
   ·simp only[if_neg e]at h1;exact .inr (.inr ⟨i,hi,h1⟩)
 refine⟨?_,fun i hi=>?_,h.gb,fun i hi z hz=>?_,fun i k hi hk hik z hz e=>?_,hf,h.g2⟩
 ·rw[hc];exact h.box.grown hg (fun e=>h.ne j hj g e.symm rfl)
 ·by_cases e:i=j
  ·subst e;simp only[if_true];refine hn.keep (Nat.le_refl _) (fun _ _ _=>rfl) (fun k hk hx=>?_);rcases hx with h1|h1|⟨q,hq,h1⟩
   ·exact .inl (.inl h1)
   ·exact .inl (.inr (.inl h1))
   ·by_cases e:q=i
    ·subst e;simp only[if_true]at h1;exact .inr h1
    ·simp only[if_neg e]at h1;exact .inl (.inr (.inr ⟨q,hq,h1⟩))
  ·simp only[if_neg e];refine(hr i e _ _ _ (h.rows i hi)).keep hg.size (fun k hk hx=>hg.block k hk fun e'=>?_) (fun k hk hx=>.inl (hX k hk hx));rcases hx with hx|hx
   ·exact hx (.inr (.inr ⟨j,hj,e'.symm⟩))
   ·exact h.di i j hi hj e k hx e'.symm
 ·by_cases e:i=j
  ·subst e;simp only[if_true]at hz;rcases hv z hz with e'|e'
   ·exact h.ne i hi z e'
   ·omega
  ·simp only[if_neg e]at hz;exact h.ne i hi z hz
 ·by_cases e1:i=j
  ·subst e1;have e2:k≠i:=fun e'=>hik e'.symm;simp only[if_true]at hz;simp only[if_neg e2]at e;rcases hv z hz with e'|e'
   ·exact h.di i k hi hk hik z e' e
   ·have:=(rowOk.lt hk (h.rows k hk) z e).2;omega
  ·simp only[if_neg e1]at hz;by_cases e2:k=j
   ·subst e2;simp only[if_true]at e;rcases hv z e with e'|e'
    ·exact h.di i k hi hk e1 z hz e'
    ·have:=(rowOk.lt hi (h.rows i hi) z hz).2;omega
   ·simp only[if_neg e2]at e;exact h.di i k hi hk hik z hz e
theorem WkG.put {t':Tn}{us':Nat→Value}(h:WkG base g t us vs w)(ht:Touch (fun z=>z=g) w w')(hb:Blk g (.cells (tnCells t' us') 82 (0,0)) w')(hr:∀i X v W,rowOk base X t i v W→rowOk base X t' i v W)(hf:t'.node.fits):WkG base g t' us' vs w':=
 ⟨hb,fun j hj=>(hr j _ _ _ (h.rows j hj)).keep ht.size (fun k hk hx=>ht.block k hk fun e=>by
  subst e;rcases hx with hx|hx
  ·exact hx (.inr (.inl rfl))
  ·exact h.ne j hj k hx rfl) (fun k _ hx=>.inl hx),h.gb,h.ne,h.di,hf,h.g2⟩
end
def WkS (base g:Nat)(t':Tn)(vs:Nat→Value)(w w':World):Prop:=∃vs',WkM base g t' vs' w'∧Touch (Mine g vs) w w'∧∀z,Mine g vs' z→Mine g vs z∨w.heap.size≤z
section
variable {base g:Nat} {t t':Tn} {vs vs':Nat→Value} {w w' w2:World}
theorem WkM.stay (h:WkM base g t vs w):WkS base g t vs w w:=⟨vs,h,Touch.refl _ _,fun _ h=>.inl h⟩
theorem WkM.stayB (h:WkM base g t vs w)(hb:Below w.heap.size w w'):WkS base g t vs w w':=⟨vs,h.go hb,⟨hb.os,hb.tape,hb.output,hb.size,fun k hk _=>hb.block k hk⟩,fun _ h=>.inl h⟩
theorem Good.wk (hg:Good w)(h:WkM base g t vs w)(ht:Touch (Mine g vs) w w'):Good w':=
 hg.keep ht.size fun b hb=>ht.block b (by have:=h.gb;have:=h.g2;have:=h.lt;omega) (fun hm=>by have:=(h.mine b hm).1;have:=h.g2;omega)
theorem RdS.wk {α:Type} [Rep α] {l:List α}{a:Option Addr}{n c:Nat}(h:RdS (NM g vs w) w l a n c)(ht:Touch (Mine g vs) w w')(hm:∀z,Mine g vs' z→Mine g vs z∨w.heap.size≤z):RdS (NM g vs' w') w' l a n c:=
 h.mono fun z hz=>⟨⟨Nat.lt_of_lt_of_le hz.1 ht.size,fun h'=>by
  rcases hm z h' with h1|h1
  ·exact hz.2 h1
  ·have:=hz.1;omega⟩,ht.block z hz.1 hz.2⟩
theorem WkS.trans (ht:Touch (Mine g vs) w w')(hm:∀z,Mine g vs' z→Mine g vs z∨w.heap.size≤z)(h2:WkS base g t' vs' w' w2):WkS base g t' vs w w2:=by
 obtain⟨vs3,k1,k2,k3⟩:=h2;refine⟨vs3,k1,⟨k2.os.trans ht.os,k2.tape.trans ht.tape,k2.output.trans ht.output,Nat.le_trans ht.size k2.size,fun k hk hn=>?_⟩,fun z hz=>?_⟩
 ·refine(k2.block k (Nat.lt_of_lt_of_le hk ht.size) fun h'=>?_).trans (ht.block k hk hn);rcases hm k h' with h1|h1
  ·exact hn h1
  ·omega
 ·rcases k3 z hz with h1|h1
  ·exact hm z h1
  ·exact .inr (Nat.le_trans ht.size h1)
end
end Go.Proofs.YtkbfhgcjimfgkaaDoor
set_option linter.unusedSimpArgs false
namespace Go.Proofs.YtkbfhgcjimfgkaaDoor
open Go.RowKit
theorem Elems.cells {α:Type} [Rep α] {A:Nat→Prop}{w:World}{b:Nat}:∀(ls:List α)(off:Nat),Elems A w b off ls→∃ys:List Value,ys.length=ls.length*Rep.n α∧(∀u∈ys,u.oneCell'=true)∧(∀j u,ys[j]?=some u→w.cell? ⟨b,off+j,none⟩=some u)∧
 ∀i x,ls[i]?=some x→∃zs,Rep.rd A w x zs∧∀j u,zs[j]?=some u→ys[i*Rep.n α+j]?=some u
 |[],_,_=>⟨[],by simp,by simp,by simp,by simp⟩
 |x::ls,off,h=>by
  obtain⟨zs,h1,h2⟩:=h 0 x rfl;have hz:=Rep.len h1;obtain⟨ys,y1,y2,y3,y4⟩:=Elems.cells ls (off+Rep.n α) (fun i q hq=>by
   obtain⟨qs,q1,q2⟩:=h (i+1) q hq;refine⟨qs,q1,fun j u hu=>?_⟩;have:=q2 j u hu;rwa[show off+(i+1)*Rep.n α+j=off+Rep.n α+i*Rep.n α+j by rw[Nat.add_mul];omega]at this)
  refine⟨zs++ys,?_,?_,?_,?_⟩
  ·rw[List.length_append,hz,y1,List.length_cons,Nat.add_mul];omega
  ·intro u hu;rcases List.mem_append.1 hu with hu|hu
   ·exact Rep.one h1 u hu
   ·exact y2 u hu
  ·intro j u hu;by_cases hj:j<zs.length
   ·rw[List.getElem?_append_left hj]at hu;have:=h2 j u hu;rwa[Nat.zero_mul,Nat.add_zero]at this
   ·rw[List.getElem?_append_right (by omega)]at hu;have:=y3 _ u hu;rwa[show off+Rep.n α+(j-zs.length)=off+j by omega]at this
  ·intro i q hq;cases i with
   |zero=>
    simp at hq;subst hq;refine⟨zs,h1,fun j u hu=>?_⟩;have hj:=(List.getElem?_eq_some_iff.1 hu).1;rw[Nat.zero_mul,Nat.zero_add,List.getElem?_append_left hj];exact hu
   |succ i=>
    obtain⟨qs,q1,q2⟩:=y4 i q hq;refine⟨qs,q1,fun j u hu=>?_⟩;have:=q2 j u hu;rw[List.getElem?_append_right (by rw[hz,Nat.add_mul];omega)];rwa[show(i+1)*Rep.n α+j-zs.length=i*Rep.n α+j by rw[hz,Nat.add_mul];omega]
theorem OwnO.appendMany {α:Type} [Rep α] {P:Program}{X:Nat→Prop}{base:Nat}{v:Value}{l ls:List α}{w:World}(h:OwnO X base v l w)(hbase:base≤w.heap.size)
 (t ty e:TypeId) (i:TypeInfo) (z:Value) (bytes:Nat) (ht:P.underlying t=some (.slice e)) (hi:P.info? e=some i) (hz:i.zero=some z) (hsize:i.size=Rep.n α) (hby:i.bytes=bytes) (hzs:z.cells.size=Rep.n α)
 (ad:Addr) (c:Nat) (ys:List Value) (hyl:ys.length=ls.length*Rep.n α) (hyo:∀u∈ys,u.oneCell'=true) (hnews:∀j u,ys[j]?=some u→w.cell? (ad.add j)=some u)
 (hy:∀i x,ls[i]?=some x→∃zs,Rep.rd (fun b=>b<w.heap.size∧¬X b∧v.ownBlock≠some b) w x zs∧∀j u,zs[j]?=some u→ys[i*Rep.n α+j]?=some u)
 (hpos:0<ls.length) (h63:l.length+ls.length≤maxLen) (hbytes:(l.length+ls.length)*bytes≤140737488355328):
 ∃g off cap w',(Builtin.append_ #[t,t] ty #[v,.slice (some ad) ls.length c]).run P w=.ok (.slice (some ⟨g,off,none⟩) (l.length+ls.length) cap) w'∧OwnO X base (.slice (some ⟨g,off,none⟩) (l.length+ls.length) cap) (l++ls) w'∧w.grownBy w' v.ownBlock∧(v.ownBlock=some g∨w.heap.size≤g)∧g<w'.heap.size:=by
 have hl1:(l++ls).length=l.length+ls.length:=by simp
 have key:∀v' w' (xs:List Value),w'.ownsRow w.heap.size e (Rep.n α) v' (l.length+ls.length) (xs++ys)→w.grownBy w' none→xs.length=l.length*Rep.n α→
  (∀i x,l[i]?=some x→∃zs,Rep.rd (fun b=>b<w.heap.size∧¬X b) w x zs∧∀j u,zs[j]?=some u→xs[i*Rep.n α+j]?=some u)→
  ∃g off cap,v'=.slice (some ⟨g,off,none⟩) (l.length+ls.length) cap∧OwnO X base v' (l++ls) w'∧w.heap.size≤g∧g<w'.heap.size:=by
  intro v' w' xs ho hg hxl hx;rcases ho.2 with⟨_,h0⟩|⟨g,cap,cur,hv,hb,hh,hnc,hcm,hsz,htk⟩
  ·omega
  ·have hblk:Blk g (.cells cur e (0,0)) w':=hh;have hcs:=fun j u hu=>ho.cells (g:=g) (by rw[hv];rfl) j u hu;refine⟨g,0,cap,hv,⟨.inr ⟨g,0,cap,by rw[hl1];exact hv,by omega,hblk.lt,by rw[hl1];exact hnc,hcm,fun j hj=>⟨?_,hblk.frozen _⟩,fun i x hi=>?_⟩⟩,hb,hblk.lt⟩
   ·rw[hblk.cell,Array.getElem?_eq_getElem (by omega)];rfl
   ·have hgo:∀b,(b<w.heap.size∧¬X b)→(b<w'.heap.size∧¬X b∧b≠g)∧w'.heap[b]?=w.heap[b]?:=fun b hb2=>
     ⟨⟨Nat.lt_of_lt_of_le hb2.1 hg.size,hb2.2,by omega⟩,hg.block b hb2.1 (by simp)⟩
    by_cases hil:i<l.length
    ·rw[List.getElem?_append_left hil]at hi;obtain⟨zs,r1,r2⟩:=hx i x hi;refine⟨zs,Rep.mono hgo r1,fun j u hu=>?_⟩;have h3:=r2 j u hu;have:=hcs (i*Rep.n α+j) u (by rw[List.getElem?_append_left (List.getElem?_eq_some_iff.1 h3).1];exact h3);rw[Addr.add_lit,Nat.zero_add]at this;rw[Nat.zero_add];exact this
    ·rw[List.getElem?_append_right (by omega)]at hi;obtain⟨zs,r1,r2⟩:=hy _ x hi;refine⟨zs,Rep.mono (fun b hb2=>hgo b ⟨hb2.1,hb2.2.1⟩) r1,fun j u hu=>?_⟩;have h3:=r2 j u hu;have hmm:i*Rep.n α=l.length*Rep.n α+(i-l.length)*Rep.n α:=by rw[←Nat.add_mul];congr 1;omega
     have:=hcs (i*Rep.n α+j) u (by rw[List.getElem?_append_right (by omega),hxl,show i*Rep.n α+j-l.length*Rep.n α=(i-l.length)*Rep.n α+j by omega];exact h3);rw[Addr.add_lit,Nat.zero_add]at this;rw[Nat.zero_add];exact this
 rcases h.row with⟨a,hv,hl,h2⟩|⟨g,off,cap,hv,h1,h2,h3,h4,h5,h6⟩
 ·subst hl hv;cases a with
  |none=>
   obtain⟨v',w',hrun,r1,r2,_⟩:=run_append_own (P:=P) w w.heap.size t ty e i z (Rep.n α) bytes ht hi hz hsize hby hzs Rep.pos (.slice none 0 0) 0 [] (World.ownsRow_nil _ _ _ _) ad ls.length c ys hyl hnews hyo (by simpa using h63) (by simpa using hbytes) (Nat.le_refl _);have r2':w.grownBy w' none:=r2;obtain⟨g,off,cap,rfl,k1,k2,k5⟩:=key v' w' [] (by simpa using r1) r2' (by simp) (fun i x hi=>by simp at hi);exact⟨g,off,cap,w',hrun,k1,r2,.inr k2,k5⟩
  |some a'=>
   obtain⟨v',w',hrun,r1,r2⟩:=run_append_arg_grows (P:=P) (w:=w) t ty e i z (Rep.n α) bytes ht hi hz hsize hby hzs Rep.pos a' 0 0 [] (by simp) (by intro _ _ h';simp at h') ad ls.length c ys hyl hnews (by omega) (by simpa using h63) (by simpa using hbytes);obtain⟨g,off,cap,rfl,k1,k2,k5⟩:=key v' w' [] (by simpa using r1) r2 (by simp) (fun i x hi=>by simp at hi);exact⟨g,off,cap,w',hrun,k1,⟨r2.os,r2.tape,r2.output,r2.size,fun k hk _=>r2.block k hk (by simp)⟩,.inr k2,k5⟩
 ·subst hv;by_cases hr:l.length+ls.length≤cap
  ·have hmul:l.length*Rep.n α+ls.length*Rep.n α≤cap*Rep.n α:=by
    have:=Nat.mul_le_mul_right (Rep.n α) hr;rwa[Nat.add_mul]at this
   have hrun:=run_append_room_cells (P:=P) (w:=w) t ty e i ht hi g off l.length cap ad ls.length c ys (by rw[hsize];exact hyl) hnews hyo hr
    (fun j hj=>by rw[hsize,Nat.add_assoc];exact(h5 _ (by omega)).1) (fun j hj=>by rw[hsize,Nat.add_assoc];exact(h5 _ (by omega)).2)
   rw[hsize]at hrun;have hgr:=grownBy_setCells w g (off+l.length*Rep.n α) ys;have hsome:∀j,j<ys.length→(w.cell? ⟨g,off+l.length*Rep.n α+j,none⟩).isSome=true:=fun j hj=>by rw[Nat.add_assoc];exact(h5 _ (by omega)).1
   refine⟨g,off,cap,_,hrun,⟨.inr ⟨g,off,cap,by rw[hl1],h1,by rw[size_setCells'];exact h2,by rw[hl1];exact hr,h4,fun j hj=>?_,fun i' x hi'=>?_⟩⟩,hgr,.inl rfl,by rw[size_setCells'];exact h2⟩
   ·refine⟨?_,by rw[World.frozen?_setCells];exact(h5 j hj).2⟩;by_cases hin:l.length*Rep.n α≤j∧j<l.length*Rep.n α+ys.length
    ·have:=World.cell?_setCells_in g ys (off+l.length*Rep.n α) w hsome (j-l.length*Rep.n α) (by omega);rw[show off+l.length*Rep.n α+(j-l.length*Rep.n α)=off+j from by omega]at this;rw[this];rfl
    ·rw[World.cell?_setCells_out g ys _ w ⟨g,off+j,none⟩ (fun _ _=>by show off+j<_∨_≤off+j;omega)];exact(h5 j hj).1
   ·have hgo:∀b,(b<w.heap.size∧¬X b∧b≠g)→(b<(w.setCells g (off+l.length*Rep.n α) ys).heap.size∧¬X b∧b≠g)∧(w.setCells g (off+l.length*Rep.n α) ys).heap[b]?=w.heap[b]?:=fun b hb2=>
     ⟨⟨by rw[size_setCells'];exact hb2.1,hb2.2⟩,World.heap_setCells_other w g _ ys hb2.1 hb2.2.2⟩
    by_cases hil:i'<l.length
    ·rw[List.getElem?_append_left hil]at hi';obtain⟨zs,r1,r2⟩:=h6 i' x hi';refine⟨zs,Rep.mono hgo r1,fun j u hu=>?_⟩;have hjl:j<Rep.n α:=by have:=(List.getElem?_eq_some_iff.1 hu).1;have:=Rep.len r1;omega
     have hmm:i'*Rep.n α+Rep.n α≤l.length*Rep.n α:=by
      have:=Nat.mul_le_mul_right (Rep.n α) (show i'+1≤l.length from hil);rwa[Nat.add_mul,Nat.one_mul]at this
     rw[World.cell?_setCells_out g ys _ w ⟨g,off+i'*Rep.n α+j,none⟩ (fun _ _=>.inl (by show off+i'*Rep.n α+j<_;omega))];exact r2 j u hu
    ·rw[List.getElem?_append_right (by omega)]at hi';obtain⟨zs,r1,r2⟩:=hy _ x hi';refine⟨zs,Rep.mono (fun b hb2=>hgo b ⟨hb2.1,hb2.2.1,fun e'=>hb2.2.2 (by rw[e'];rfl)⟩) r1,fun j u hu=>?_⟩;have h7:=r2 j u hu;have hj:=(List.getElem?_eq_some_iff.1 h7).1;have hmm:i'*Rep.n α=l.length*Rep.n α+(i'-l.length)*Rep.n α:=by rw[←Nat.add_mul];congr 1;omega
     have:=World.cell?_setCells_in g ys (off+l.length*Rep.n α) w hsome _ hj;rw[show off+i'*Rep.n α+j=off+l.length*Rep.n α+((i'-l.length)*Rep.n α+j)by omega,this,←h7,List.getElem?_eq_getElem hj]
  ·have hcell:∀j,j<l.length*Rep.n α→∃u,w.cell? ⟨g,off+j,none⟩=some u:=fun j hj=>by
    have hle:l.length*Rep.n α≤cap*Rep.n α:=Nat.mul_le_mul_right _ h3;have:=(h5 j (by omega)).1;exact Option.isSome_iff_exists.1 this
   have hlist:∃olds:List Value,olds.length=l.length*Rep.n α∧∀j,j<l.length*Rep.n α→w.cell? ⟨g,off+j,none⟩=olds[j]?:=by
    refine⟨(List.range (l.length*Rep.n α)).map fun j=>(w.cell? ⟨g,off+j,none⟩).getD undef,by simp,fun j hj=>?_⟩;obtain⟨u,hu⟩:=hcell j hj;rw[List.getElem?_map,List.getElem?_range hj];simp[hu]
   obtain⟨olds,ho1,ho2⟩:=hlist;obtain⟨v',w',hrun,r1,r2⟩:=run_append_arg_grows (P:=P) (w:=w) t ty e i z (Rep.n α) bytes ht hi hz hsize hby hzs Rep.pos ⟨g,off,none⟩ l.length cap olds ho1 (fun j u hu=>by rw[Addr.add_lit,ho2 j (by have:=(List.getElem?_eq_some_iff.1 hu).1;omega)];exact hu) ad ls.length c ys hyl hnews (by omega) h63 hbytes;obtain⟨g2,off2,cap2,rfl,k1,k2,k5⟩:=key v' w' olds r1 r2 ho1 (fun i x hi'=>by
    obtain⟨zs,q1,q2⟩:=h6 i x hi';refine⟨zs,Rep.mono (fun b hb2=>⟨⟨hb2.1,hb2.2.1⟩,rfl⟩) q1,fun j u hu=>?_⟩;have hjl:j<Rep.n α:=by have:=(List.getElem?_eq_some_iff.1 hu).1;have:=Rep.len q1;omega
    have hil:=(List.getElem?_eq_some_iff.1 hi').1;have hmm:i*Rep.n α+Rep.n α≤l.length*Rep.n α:=by
     have:=Nat.mul_le_mul_right (Rep.n α) (show i+1≤l.length from hil);rwa[Nat.add_mul,Nat.one_mul]at this
    rw[←ho2 _ (by omega),←Nat.add_assoc];exact q2 j u hu)
   exact⟨g2,off2,cap2,w',hrun,k1,⟨r2.os,r2.tape,r2.output,r2.size,fun k hk _=>r2.block k hk (by simp)⟩,.inr k2,k5⟩
theorem wpList_append_manyO {α:Type} [Rep α] {P:Program}{X:Nat→Prop}{w:World}{ops:Array Oper}{rest:List Oper}{o:Oper}{a:Act}{Q:Exit→Act→World→Prop}(hgd:o.guard=none)(s x:Operand)(t:TypeId)
 (ho:o.op=.call {callee:=.builtin .append,args:=#[s,x],argTypes:=#[t,t]})
 (base:Nat) (e:TypeId) (i:TypeInfo) (z:Value) (bytes:Nat) (ht:P.underlying t=some (.slice e)) (hi:P.info? e=some i) (hz:i.zero=some z)
 (hsize:i.size=Rep.n α) (hby:i.bytes=bytes) (hzs:z.cells.size=Rep.n α)
 (v:Value) (l ls:List α) (hs:a.eval s=v) (hown:OwnO X base v l w)
 (gb off c:Nat) (hx:a.eval x=.slice (some ⟨gb,off,none⟩) ls.length c) (hrd:Elems (fun b=>b<w.heap.size∧¬X b∧v.ownBlock≠some b) w gb off ls)
 (hpos:0<ls.length) (h63:l.length+ls.length≤maxLen) (hbytes:(l.length+ls.length)*bytes≤140737488355328) (hbase:base≤w.heap.size)
 (h:∀g off cap w',OwnO X base (.slice (some ⟨g,off,none⟩) (l.length+ls.length) cap) (l++ls) w'→w.grownBy w' v.ownBlock→(v.ownBlock=some g∨w.heap.size≤g)→g<w'.heap.size→wpList P ops Q rest (a.put o.dst (.slice (some ⟨g,off,none⟩) (l.length+ls.length) cap)) w'):wpList P ops Q (o::rest) a w:=by
 refine wpList_plain hgd fun K hK'=>?_;obtain⟨ys,y1,y2,y3,y4⟩:=Elems.cells ls off hrd;obtain⟨g,off',cap,w',hrun,r1,r2,r3,r4⟩:=hown.appendMany (P:=P) hbase t o.type e i z bytes ht hi hz hsize hby hzs ⟨gb,off,none⟩ c ys y1 y2 (fun j u hu=>by rw[Addr.add_lit];exact y3 j u hu) y4 hpos h63 hbytes;unfold Oper.wp;simp[execOp,ho,resolve,invoke,builtin,hs,hx,hrun,Result.andThen];exact hK' _ _ (h g off' cap w' r1 r2 r3 r4)
end Go.Proofs.YtkbfhgcjimfgkaaDoor
