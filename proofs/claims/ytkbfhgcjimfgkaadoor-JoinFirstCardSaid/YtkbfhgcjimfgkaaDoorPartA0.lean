/- What the walks ask of the world: the tables of package unicode/utf8 lie there. -/
import Derived.WalkKit
import Derived.WalkSpells
import Derived.WalkLawsBesides
import Derived.Deep.Draws
import Derived.Shelf.Unicode.DecodeSlow
set_option linter.unusedVariables false
set_option linter.unusedSimpArgs false
namespace Go.Proofs.YtkbfhgcjimfgkaaDoor
open Go.RowKit
abbrev Str:=ByteArray
structure Part where
 kind:Int
 n:Int
 text:Str
abbrev Op:=List Part
def emptyS (s:Str):Bool:=s.toList.isEmpty
def strMax:Nat:=140737488355328
def I64 (x:Int):Prop:= -9223372036854775808≤x∧x≤9223372036854775807
class Rep (α:Type) where
 n:Nat
 rd:(Nat→Prop)→World→α→List Value→Prop
 len:∀{A w x cs},rd A w x cs→cs.length=n
 mono:∀{A A':Nat→Prop}{w w':World}{x cs},(∀b,A b→A' b∧w'.heap[b]?=w.heap[b]?)→rd A w x cs→rd A' w' x cs
 one:∀{A w x cs},rd A w x cs→∀v∈cs,v.oneCell'=true
 pos:0<n
instance:Rep Int where
 n:=1
 rd:=fun _ _ x cs=>cs=[.int .i64 x]∧I64 x
 len:=fun h=>by rw[h.1];rfl
 mono:=fun _ h=>h
 one:=fun h=>by rw[h.1];simp[Value.oneCell']
 pos:=by decide
instance:Rep Part where
 n:=3
 rd:=fun _ _ x cs=>cs=[.int .i64 x.kind,.int .i64 x.n,.string x.text]∧I64 x.kind∧I64 x.n∧x.text.size≤strMax
 len:=fun h=>by rw[h.1];rfl
 mono:=fun _ h=>h
 one:=fun h=>by rw[h.1];simp[Value.oneCell']
 pos:=by decide
def Elems {α:Type} [Rep α] (A:Nat→Prop)(w:World)(b off:Nat)(l:List α):Prop:=
 ∀i x,l[i]?=some x→∃xs,Rep.rd A w x xs∧∀j v,xs[j]?=some v→w.cell? ⟨b,off+i*Rep.n α+j,none⟩=some v
def RdS {α:Type} [Rep α] (A:Nat→Prop)(w:World)(l:List α)(a:Option Addr)(n c:Nat):Prop:=
 n=l.length∧n≤c∧c≤maxLen∧(a=none→c=0)∧
 (0<n→∃b off,a=some ⟨b,off,none⟩∧A b∧b<w.heap.size∧Elems A w b off l)
theorem cell_keep {w w':World}{b o:Nat}(h:w'.heap[b]?=w.heap[b]?):w'.cell? ⟨b,o,none⟩=w.cell? ⟨b,o,none⟩:=
 World.cell?_of_block (a:=⟨b,o,none⟩) h
theorem Elems.mono {α:Type} [Rep α] {A A':Nat→Prop}{w w':World}{b off:Nat}{l:List α}(hb:A b)(h:∀b,A b→A' b∧w'.heap[b]?=w.heap[b]?)
 (he:Elems A w b off l):Elems A' w' b off l:=by
 intro i x hx;obtain⟨xs,h1,h2⟩:=he i x hx;exact⟨xs,Rep.mono h h1,fun j v hv=>(cell_keep (h b hb).2).trans (h2 j v hv)⟩
theorem RdS.mono {α:Type} [Rep α] {A A':Nat→Prop}{w w':World}{l:List α}{a:Option Addr}{n c:Nat}(h:∀b,A b→A' b∧w'.heap[b]?=w.heap[b]?)
 (hr:RdS A w l a n c):RdS A' w' l a n c:=by
 obtain⟨h1,h2,h3,h4,h6⟩:=hr;refine⟨h1,h2,h3,h4,fun hn=>?_⟩;obtain⟨b,off,e,hA,hb,he⟩:=h6 hn;refine⟨b,off,e,(h b hA).1,?_,he.mono hA h⟩;rcases Nat.lt_or_ge b w'.heap.size with hlt|hge
 ·exact hlt
 ·exfalso;have h7:=(h b hA).2;rw[Array.getElem?_eq_none hge,Array.getElem?_eq_getElem hb]at h7;cases h7
instance {α:Type} [Rep α]:Rep (List α) where
 n:=1
 rd:=fun A w l cs=>∃a n c,cs=[.slice a n c]∧RdS A w l a n c
 len:=fun⟨_,_,_,h,_⟩=>by rw[h];rfl
 mono:=fun h ⟨a,n,c,e,hr⟩=>⟨a,n,c,e,hr.mono h⟩
 one:=fun⟨_,_,_,h,_⟩=>by rw[h];simp[Value.oneCell']
 pos:=by decide
theorem RdS.below {α:Type} [Rep α] {A:Nat→Prop}{w w':World}{l:List α}{a:Option Addr}{n c:Nat}(hr:RdS A w l a n c)(hA:∀b,A b→b<w.heap.size)(hb:Below w.heap.size w w'):
 RdS A w' l a n c:=hr.mono fun b h=>⟨h,hb.block b (hA b h)⟩
theorem RdS.of_row {α:Type} [Rep α] {A:Nat→Prop}{w:World}{base:Nat}{e:TypeId}{l:List α}{v:Value}{xs:List Value}(hown:w.ownsRow base e (Rep.n α) v l.length xs)(hA:∀b,v.ownBlock=some b→A b)
 (hx:∀i x,l[i]?=some x→∃ys,Rep.rd A w x ys∧∀j u,ys[j]?=some u→xs[i*Rep.n α+j]?=some u):
 ∃a n c,v=.slice a n c∧RdS A w l a n c:=by
 rcases hown.2 with⟨hv,h0⟩|⟨g,cap,cur,hv,hg,hh,hnc,hcm,_,_⟩
 ·refine⟨none,0,0,hv,?_⟩;have hl:l=[]:=List.eq_nil_of_length_eq_zero h0;subst hl;exact⟨rfl,by omega,by unfold maxLen;omega,fun _=>rfl,fun h=>absurd h (by omega)⟩
 ·refine⟨some ⟨g,0,none⟩,l.length,cap,hv,rfl,hnc,hcm,(fun h=>by cases h),fun _=>?_⟩;have hlt:g<w.heap.size:=(Array.getElem?_eq_some_iff.1 hh).1;refine⟨g,0,rfl,hA g (by rw[hv];rfl),hlt,fun i x hi=>?_⟩;obtain⟨ys,hr,hy⟩:=hx i x hi;refine⟨ys,hr,fun j u hu=>?_⟩;have hc:=hown.cells (g:=g) (by rw[hv];rfl) _ u (hy j u hu);have e:(⟨g,0,none⟩:Addr).add (i*Rep.n α+j)=⟨g,i*Rep.n α+j,none⟩:=by
   unfold Addr.add;split
   ·rename_i h0;rw[h0]
   ·simp
  rw[e]at hc;simpa using hc
theorem RdS.part {A:Nat→Prop}{w:World}{l:List Part}{a:Option Addr}{n c:Nat}(hr:RdS A w l a n c)(hn:0<n):
 ∃b off,a=some ⟨b,off,none⟩∧A b∧b<w.heap.size∧∀i (h:i<l.length),I64 l[i].kind∧I64 l[i].n∧l[i].text.size≤strMax∧
  w.cell? ⟨b,off+i*3,none⟩=some (.int .i64 l[i].kind)∧w.cell? ⟨b,off+i*3+1,none⟩=some (.int .i64 l[i].n)∧w.cell? ⟨b,off+i*3+2,none⟩=some (.string l[i].text):=by
 obtain⟨b,off,e,hA,hb,he⟩:=hr.2.2.2.2 hn;refine⟨b,off,e,hA,hb,fun i h=>?_⟩;obtain⟨xs,⟨rfl,h1,h2,h3⟩,h4⟩:=he i l[i] (List.getElem?_eq_getElem h);exact⟨h1,h2,h3,h4 0 _ rfl,h4 1 _ rfl,h4 2 _ rfl⟩
theorem bcell {W w1:World}(hb:Below W.heap.size W w1):(∀b o,b<W.heap.size→w1.cell? ⟨b,o,none⟩=W.cell? ⟨b,o,none⟩)∧(∀b o,b<W.heap.size→w1.frozen? ⟨b,o,none⟩=W.frozen? ⟨b,o,none⟩):=
 ⟨fun b o h=>hb.cell (p:=⟨b,o,none⟩) h,fun b o h=>hb.frozen (p:=⟨b,o,none⟩) h⟩
theorem below_drewN {B:Nat}{a w:World}(h:Below B a w)(n:Nat):Below B a (w.drewN n):=⟨h.os,h.tape,h.output,h.size,h.block⟩
theorem ret_int {k:IntKind}{a b:Int}(h:a=b):Ending.returned (.int k a)=.returned (.int k b):=by rw[h]
end Go.Proofs.YtkbfhgcjimfgkaaDoor
namespace Go.Proofs.YtkbfhgcjimfgkaaDoor
open Go.RowKit
structure Good (w:World):Prop where
 size:2≤w.heap.size
 tabs:Lib.Utf8Tabs 0 1 w
theorem Good.keep {w w':World}(h:Good w)(hs:w.heap.size≤w'.heap.size)(hk:∀b,b<2→w'.heap[b]?=w.heap[b]?):Good w':=by
 have h2:=h.size;refine⟨by omega,fun c hc=>(cell_keep (hk _ (by decide))).trans (h.tabs.1 c hc),fun i hi=>⟨(cell_keep (hk _ (by decide))).trans (h.tabs.2 i hi).1,(cell_keep (hk _ (by decide))).trans (h.tabs.2 i hi).2⟩⟩
theorem Good.below {w w':World}{B:Nat}(h:Good w)(hb:Below B w w')(hB:2≤B):Good w':=h.keep hb.size fun b hb2=>hb.block b (by omega)
theorem Good.below' {w w':World}(h:Good w)(hb:Below w.heap.size w w'):Good w':=h.below hb h.size
end Go.Proofs.YtkbfhgcjimfgkaaDoor
