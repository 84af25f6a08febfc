/- The walk of node.side. -/
import Derived.RangeFuncNested
import Derived.RangeFuncBound
import Derived.RangeFuncCalls
import Derived.RangeFuncLeaves
import Derived.RangeFuncBox
import Derived.Shelf.Abstract
import Derived.Shelf.RegionOpen
import Derived.WalkKit
import Derived.OwnWalkIn
import Derived.TacticsInMore
import Derived.LoopNIn
import Derived.LoopIn
import Derived.Test.YtkbfhgcjimfgkaaDoorPartB4
import Derived.Test.YtkbfhgcjimfgkaaDoorPartA2
import Derived.RangeFuncFrom
import Derived.Test.YtkbfhgcjimfgkaaDoorPartB7
set_option linter.unusedVariables false
set_option linter.unusedSimpArgs false
set_option linter.unusedSimpArgs false
namespace Go.Proofs.YtkbfhgcjimfgkaaDoor
open Go.RowKit Go.Shelf
attribute [local go_sem] Oper.semAt_some
def upTo {α:Type}(f:Nat→α)(k:Nat):List α:=(List.range k).map f
theorem upTo_succ {α:Type}(f:Nat→α)(k:Nat):upTo f (k+1)=upTo f k++[f k]:=by simp[upTo,List.range_succ]
theorem upTo_length {α:Type}(f:Nat→α)(k:Nat):(upTo f k).length=k:=by simp[upTo]
def KeepB (n₀ Bs:Nat)(W W':World):Prop:=Below n₀ W W'∧W'.heap[Bs]?=W.heap[Bs]?
theorem keepB_t {n₀ Bs:Nat}{A B C:World}(h:KeepB n₀ Bs A B)(k:KeepB n₀ Bs B C):KeepB n₀ Bs A C:=⟨h.1.trans k.1,k.2.trans h.2⟩
theorem keepB_b {n₀ Bs:Nat}{w:World}(hn:n₀≤w.heap.size)(hB:Bs<w.heap.size)(W:World)(l:Nat)(o o':Obj)(hl:w.heap.size≤l)(h:W.heap[l]?=some o)(h1:o.isCells=false)(h2:o.isWalk=false):KeepB n₀ Bs W (W.putObj l o'):=
 ⟨belowK_b hn W l o o' hl h h1 h2,(grownBy_putObj' W l o').block Bs (by have:=(Array.getElem?_eq_some_iff.1 h).1;omega) (by simp;omega)⟩
theorem KeepsOthers.of_below {W W':World}(h:Below W.heap.size W W'):KeepsOthers W W':=⟨h.size,fun k o hk _=>(h.block k (Array.getElem?_eq_some_iff.1 hk).1).trans hk⟩
set_option maxRecDepth 100000 in
set_option maxHeartbeats 2000000 in
theorem back1_in {α:Type}(f:Nat→α)(enc:α→Array Value)(vs:Nat→Value)(F:Fence)(n:Nat)(h7:F.fn 72)(hro:F.round=none)(hn:1≤n)(l Bs n₀ b off len cap:Nat)(hcap:len≤cap)(hreach:cap≤maxLen)(hb:b<n₀)(J Jx:List α→World→Prop)
 (henc:∀k,k<len→enc (f k)=#[.int .i64 ((len-1-k:Nat):Int),vs k])
 (hY:∀pre x W,J pre W→pre.length<len→YieldAt F (n-1) Tryd.prog l (enc x) W fun e W'=>
  (e=.returned (.bool true)∧J (pre++[x]) W'∧KeepB n₀ Bs W W')∨(e=.returned (.bool false)∧Jx (pre++[x]) W'))
 (W:World) (hBs:W.cell? ⟨Bs,0,none⟩=some (.slice (some ⟨b,off,none⟩) len cap)) (hc:∀k,k<len→W.cell? ⟨b,off+(len-1-k),none⟩=some (vs k)) (h0:J [] W):
 CallsIn F n Tryd.prog 72 #[.func (.yield l) #[] #[],.pointer (some ⟨Bs,0,none⟩)] W fun e W'=>(∃v,e=.returned v)∧
  ((∃ys,ys=upTo f len∧J ys W')∨(∃pre,(∃k,k≤len∧pre=upTo f k)∧Jx pre W')):=by
 unfold maxLen at hreach;refine callsIn_of_wp Tryd.func72 rfl h7 ?_ hro;simp only[Tryd.ntmps72,List.size_toArray,List.length_cons,List.length_nil,Nat.reduceAdd,Nat.reduceSub,Array.replicate_succ,Array.replicate_zero,List.push_toArray,List.append_toArray,List.nil_append,List.cons_append]
 gi_wp2
 gi_loopw [3] (fun i wr=>∃k:Nat,k≤len∧i=.int .i64 ((len:Int)-1-(k:Int))∧J (upTo f k) wr∧KeepB n₀ Bs W wr)
  (fun i _=>(intOf i+1).toNat)
 case atStart=>exact⟨0,Nat.zero_le _,by simp,h0,Below.refl _ _,rfl⟩
 case round=>
  obtain⟨k,hk,rfl,hJs,hnx⟩:=hrel;have hbs:=(cell_keep hnx.2).trans hBs;by_cases hlt:k<len
  ·obtain⟨fn,tmps,assign,body,hy,hR⟩:=hY _ (f k) wr hJs (by rw[upTo_length];exact hlt);have hcx':=(hnx.1.cell (p:=⟨b,off+(len-1-k),none⟩) hb).trans (hc k hlt);rw[henc k hlt]at hy;obtain⟨q,hq⟩:∃q:Nat,q=len-1-k:=⟨_,rfl⟩;have hq':(len:Int)-1-(k:Int)=(q:Int):=by omega
   rw[←hq]at hy hcx';rw[hq'];have hq0:(0:Int)≤(q:Int):=by omega
   have hql:(q:Int)<(len:Int):=by omega
   have hqc:(q:Int)<(cap:Int):=by omega
   have hqp:(q:Int)-1=(len:Int)-1-((k+1:Nat):Int):=by omega
   have Hqp:=Lib.hid hqp;have Hq':=Lib.hid hq';have Hq:=Lib.hid hq;clear hqp hq hq'
   gi_wp2
   refine hR.mono ?_;rintro e W3 (⟨rfl,hJ3,hk3⟩|⟨rfl,hJx3⟩)
   ·gi_wp2
    go_roundw
    case rel=>exact⟨k+1,by omega,by rw[Hqp.out],by rw[upTo_succ];exact hJ3,keepB_t hnx hk3⟩
    case measure=>
     have:=Hq'.out;simp[intOf]
   ·gi_wp2
    refine bodyPost_ret (results_none rfl _ _ _) rfl ?_;exact⟨⟨_,rfl⟩,.inr ⟨_,⟨k+1,by omega,(upTo_succ _ _).symm⟩,hJx3⟩⟩
  ·obtain rfl:k=len:=by omega
   have hm:(k:Int)-1-(k:Int)= -1:=by omega
   rw[hm]
   gi_wp2
   go_end0;exact⟨⟨_,rfl⟩,.inl ⟨_,rfl,hJs⟩⟩
set_option maxRecDepth 100000 in
set_option maxHeartbeats 1000000 in
theorem back1_nil_in {α:Type}(F:Fence)(n:Nat)(h7:F.fn 72)(hro:F.round=none)(l Bs:Nat)(a:Option Addr)(cap:Nat)(J:List α→World→Prop)(W:World)(hBs:W.cell? ⟨Bs,0,none⟩=some (.slice a 0 cap))(h0:J [] W):
 CallsIn F n Tryd.prog 72 #[.func (.yield l) #[] #[],.pointer (some ⟨Bs,0,none⟩)] W fun e W'=>(∃v,e=.returned v)∧J [] W':=by
 refine callsIn_of_wp Tryd.func72 rfl h7 ?_ hro;simp only[Tryd.ntmps72,List.size_toArray,List.length_cons,List.length_nil,Nat.reduceAdd,Nat.reduceSub,Array.replicate_succ,Array.replicate_zero,List.push_toArray,List.append_toArray,List.nil_append,List.cons_append]
 gi_wp2
 gi_loopw [3] (fun i wr=>i=.int .i64 (-1)∧J [] wr) (fun _ _=>0)
 case atStart=>exact⟨rfl,h0⟩
 case round=>
  obtain⟨rfl,hJs⟩:=hrel
  gi_wp2
  go_end0;exact⟨⟨_,rfl⟩,hJs⟩
set_option maxHeartbeats 1000000 in
theorem back_in (F:Fence)(n:Nat)(h5:F.fn 52)(hro:F.round=none)(a:Option Addr)(len cap:Nat)(w:World):
 CallsIn F n Tryd.prog 52 #[.slice a len cap] w fun e w'=>e=.returned (.func (.func 72) #[] #[.pointer (some ⟨w.heap.size,0,none⟩)])∧w'=w.alloc (.cells #[.slice a len cap] 28):=by
 refine callsIn_of_wp Tryd.func52 rfl h5 ?_ hro;simp only[Tryd.ntmps52,List.size_toArray,List.length_cons,List.length_nil,Nat.reduceAdd,Nat.reduceSub,Array.replicate_succ,Array.replicate_zero,List.push_toArray,List.append_toArray,List.nil_append,List.cons_append]
 gi_wp2
 go_ret
 exact⟨rfl,rfl⟩
theorem small_nil:Small []:=by unfold Small;simp
structure Seen (w0:World) where
 i:Nat
 o:Op
 a:Option Addr
 c:Nat
 rd:RdS (· <w0.heap.size) w0 o a o.length c
 sm:Small o
def Seen.enc {w0:World}(x:Seen w0):Array Value:=#[.int .i64 (x.i:Int),.slice x.a x.o.length x.c]
theorem back_stops (F:Fence)(n:Nat)(h7:F.fn 72)(hro:F.round=none)(hn:1≤n)(w0 w:World)(Bs:Nat)(l:List Op)(a:Option Addr)(c:Nat)(hr:RdS (· <w0.heap.size) w0 l a l.length c)(hsm:∀o∈l,Small o)(hb:Below w0.heap.size w0 w)(hBs:w0.heap.size≤Bs)(hBw:Bs<w.heap.size)(hc:w.cell? ⟨Bs,0,none⟩=some (.slice a l.length c)):
 SeqStopsK F n Tryd.prog 72 #[.pointer (some ⟨Bs,0,none⟩)] (Seen.enc (w0:=w0)) (KeepB w0.heap.size Bs) (fun ys=>ys.map Seen.o=l.reverse) (fun pre=>pre.map Seen.o<+:l.reverse) l.length w:=fun lb J Jx W hW _ _ hY h0=>by
 have hc':=(hW.cell (p:=⟨Bs,0,none⟩) hBw).trans hc;by_cases hz:l.length=0
 ·have hnil:l=[]:=List.eq_nil_of_length_eq_zero hz;subst hnil;exact(back1_nil_in F n h7 hro lb Bs a c J W hc' h0).mono fun e W' ⟨he,hj⟩=>⟨he,.inl ⟨[],rfl,hj⟩⟩
 ·obtain⟨b,off,rfl,hA,hbl,hcl⟩:=hr.rowO (by omega);have hex:∀k:Nat,∃x:Seen w0,k<l.length→x.i=l.length-1-k∧l[l.length-1-k]?=some x.o∧w0.cell? ⟨b,off+(l.length-1-k),none⟩=some (.slice x.a x.o.length x.c):=by
   intro k;by_cases hk:k<l.length
   ·obtain⟨a',n',c',h1,h2⟩:=hcl (l.length-1-k) (by omega);have h3:=h1.1;subst h3;exact⟨⟨l.length-1-k,l[l.length-1-k],a',c',h1,hsm _ (List.getElem_mem _)⟩,fun _=>⟨rfl,List.getElem?_eq_getElem _,h2⟩⟩
   ·exact⟨⟨0,[],none,0,RdS.nil _ _,small_nil⟩,fun h=>absurd h hk⟩
  have hf:=fun k=>Classical.choose_spec (hex k);generalize hff:(fun k=>Classical.choose (hex k))=f at*;have hf':∀k,k<l.length→(f k).i=l.length-1-k∧l[l.length-1-k]?=some (f k).o∧w0.cell? ⟨b,off+(l.length-1-k),none⟩=some (.slice (f k).a (f k).o.length (f k).c):=fun k hk=>by rw[←hff];exact hf k hk
  have hup:∀k,k≤l.length→(upTo f k).map Seen.o=l.reverse.take k:=by
   intro k
   induction k with
   |zero=>intro _;rfl
   |succ k ih=>
    intro hk;rw[upTo_succ,List.map_append,ih (by omega),List.map_cons,List.map_nil,List.take_succ_eq_append_getElem (by simp;omega)];congr 2;have:=(hf' k (by omega)).2.1;rw[List.getElem_reverse];obtain⟨_,h⟩:=List.getElem?_eq_some_iff.1 this;exact h.symm
  refine(back1_in f Seen.enc (fun k=>.slice (f k).a (f k).o.length (f k).c) F n h7 hro hn lb Bs w0.heap.size b off l.length c hr.2.1 hr.2.2.1 hbl J Jx (fun k hk=>by unfold Seen.enc;rw[(hf' k hk).1]) hY W hc' (fun k hk=>((hW.cell (p:=⟨b,off+(l.length-1-k),none⟩) (Nat.lt_of_lt_of_le hbl hb.size)).trans (hb.cell (p:=⟨b,off+(l.length-1-k),none⟩) hbl)).trans (hf' k hk).2.2) h0).mono ?_;rintro e W' ⟨he,⟨ys,rfl,hj⟩|⟨pre,⟨k,hk,rfl⟩,hj⟩⟩
  ·exact⟨he,.inl ⟨_,by show(upTo f l.length).map Seen.o=_;rw[hup _ (Nat.le_refl _),List.take_of_length_le (by simp)],hj⟩⟩
  ·exact⟨he,.inr ⟨_,by show(upTo f k).map Seen.o<+:_;rw[hup k hk];exact List.take_prefix _ _,hj⟩⟩
end Go.Proofs.YtkbfhgcjimfgkaaDoor
set_option linter.unusedSimpArgs false
namespace Go.Proofs.YtkbfhgcjimfgkaaDoor
open Go.RowKit Go.Shelf
attribute [local go_sem] Oper.semAt_some
def undoFrom (x:Int):List Op→Bool
 |[]=>true
 |o::r=>if check o≠0 then false else if sumF o≠x then false else undoFrom (sumT o) r
def undoOk (n:Nd):Bool:=undoFrom (rc n.text) n.undo.reverse&&decide (n.undo.length≤12)
def undoAt (x:Int):List Op→Int
 |[]=>x
 |o::r=>undoAt (sumT o) r
theorem undoFrom_snoc:∀(l:List Op)(x:Int)(o:Op)(r:List Op),undoFrom x l=true→undoFrom x (l++o::r)=undoFrom (undoAt x l) (o::r)
 |[],_,_,_,_=>rfl
 |p::l,x,o,r,h=>by
  unfold undoFrom at h
  show undoFrom x (p::(l++o::r))=undoFrom (undoAt (sumT p) l) (o::r)
  by_cases h1:check p=0
  ·rw[if_neg (by simpa using h1)]at h;by_cases h2:sumF p=x
   ·rw[if_neg (by simpa using h2)]at h;rw[undoFrom,if_neg (by simpa using h1),if_neg (by simpa using h2)];exact undoFrom_snoc l (sumT p) o r h
   ·rw[if_pos h2]at h;cases h
  ·rw[if_pos h1]at h;cases h
theorem undoAt_snoc:∀(l:List Op)(x:Int)(o:Op),undoAt x (l++[o])=sumT o
 |[],_,_=>rfl
 |p::l,x,o=>undoAt_snoc l (sumT p) o
set_option maxRecDepth 100000 in
set_option maxHeartbeats 4000000 in
theorem undo_any (n:Nd)(a:Option Addr)(c:Nat)(ua:Option Addr)(uc:Nat)(ma:Option Addr)(mc:Nat)(w:World)(hg:Good w)(hn:n.text.size≤strMax)(hr:RdS (· <w.heap.size) w n.undo ua n.undo.length uc)(hsm:∀o∈n.undo,Small o):
 Calls Tryd.prog 29 #[.agg #[.int .i64 n.me,.int .i64 n.epoch,.int .i64 n.up,.bool n.ready,.string n.text,.slice a n.sides.length c,.slice ua n.undo.length uc,.slice ma n.marks.length mc]] w
  fun e w'=>e=.returned (.bool (undoOk n))∧Below w.heap.size w w':=by
 refine(callsIn_wide (n:=5)).1 ?_;refine callsIn_of_wp_marks Tryd.func29 rfl trivial ?_ rfl;simp only[Tryd.ntmps29,List.size_toArray,List.length_cons,List.length_nil,Nat.reduceAdd,Nat.reduceSub,Array.replicate_succ,Array.replicate_zero,List.push_toArray,List.append_toArray,List.nil_append,List.cons_append];have HR:=fun W=>rc_any n.text W hn;obtain⟨cn,hcn⟩:∃cn:Obj,cn=.cells #[.int .i64 n.me,.int .i64 n.epoch,.int .i64 n.up,.bool n.ready,.string n.text,.slice a n.sides.length c,.slice ua n.undo.length uc,.slice ma n.marks.length mc] 31 (0,0):=⟨_,rfl⟩;have U0:Hid (Below w.heap.size w ((w.alloc cn).alloc (.cells #[.bool false] 4))):=by unfold Hid;(repeat (first|exact Below.refl _ _|assumption|(refine Below.drew ?_)|(refine below_drewN ?_ _)|(refine Below.alloc ?_ (by first|(simp;done)|(simp;omega)|omega) _)|(refine Below.setCell ?_ (by first|(simp;done)|(simp;omega)|omega) _)|(refine Below.trans ?_ (Below.mono (by assumption) (by first|(simp;done)|(simp;omega)|omega)))))
 have X0:Hid (Blk w.heap.size cn ((w.alloc cn).alloc (.cells #[.bool false] 4))):=(Blk.new w _).alloc _;have Y0:Hid (Blk (w.heap.size+1) (.cells #[.bool false] 4 (0,0)) ((w.alloc cn).alloc (.cells #[.bool false] 4))):=Blk.at (w.alloc cn) _ _ (by simp)
 gi_wp2
 refine⟨trivial,?_⟩;rw[←hcn];refine(callsIn_wide.2 (HR _)).mono ?_;rintro e w1 ⟨rfl,b1⟩;have B1:Below w.heap.size w w1:=up U0.out b1;have X1:=X0.out.go b1;have Y1:=Y0.out.go b1;rw[hcn]at X1;have q6:w1.cell? ⟨w.heap.size,6,none⟩=some (.slice ua n.undo.length uc):=X1.cell 6;have hx1:=Y1.lt;have hx0:=X1.lt;have HB1:=Lib.hid B1;have HX1:=Lib.hid X1;have HY1:=Lib.hid Y1;clear U0 X0 Y0 b1 B1 X1 Y1
 gi_wp2
 refine⟨trivial,?_⟩;refine(back_in Fence.wide 4 trivial rfl _ _ _ _).mono ?_;rintro e w2 ⟨rfl,hw2⟩;obtain⟨W0,hW0⟩:∃W0,W0=w2:=⟨_,rfl⟩;have hsz:W0.heap.size=w1.heap.size+1+1:=by rw[hW0,hw2];simp
 have hA0:Hid (Blk w1.heap.size (.cells #[.int .i64 (rc n.text)] 3 (0,0)) W0):=by rw[hW0,hw2];exact(Blk.new w1 _).alloc _
 have hC0:Hid (Blk (w1.heap.size+1) (.cells #[.slice ua n.undo.length uc] 28 (0,0)) W0):=by rw[hW0,hw2];exact Blk.at (w1.alloc _) _ _ (by simp)
 have hB01:Below w1.heap.size w1 W0:=by rw[hW0,hw2];exact((Below.refl _ _).alloc (Nat.le_refl _) _).alloc (by simp) _
 have HB0:=Lib.hid (up HB1.out hB01);have HX0:=Lib.hid (HX1.out.go hB01);have HY0:=Lib.hid (HY1.out.go hB01);rw[←hW0];clear hW0 hw2 hB01
 gi_wp2
 refine wpIn_rangeFunc_ownF rfl (by omega) (gf:=72) (lb:=#[.pointer (some ⟨w1.heap.size+1,0,none⟩)]) rfl trivial (enters_of Tryd.func72 (by kernel_rfl) rfl)
  (back_stops Fence.wide 4 trivial rfl (by omega) w W0 (w1.heap.size+1) n.undo ua uc hr hsm HB0.out (by omega) (by omega) (hC0.out.cell 0)) keepB_t (keepB_b HB0.out.size (by omega)) (Below.refl _ _) (fun _=>rfl)
  (fun pre W=>undoFrom (rc n.text) (pre.map Seen.o)=true∧Blk w1.heap.size (.cells #[.int .i64 (undoAt (rc n.text) (pre.map Seen.o))] 3 (0,0)) W∧Touch (fun z=>z=w1.heap.size) W0 W)
  (fun co pre W=>co=.ret∧(∀r,undoFrom (rc n.text) (pre.map Seen.o++r)=false)∧Blk (w.heap.size+1) (.cells #[.bool false] 4 (0,0)) W∧Touch (fun z=>z=w1.heap.size∨z=w.heap.size+1) W0 W)
  ?hI ?hIx ?h0
  (fun x=>{tmps:=#[.agg #[.int .i64 n.me,.int .i64 n.epoch,.int .i64 n.up,.bool n.ready,.string n.text,.slice a n.sides.length c,.slice ua n.undo.length uc,.slice ma n.marks.length mc],.pointer (some ⟨w.heap.size,0,none⟩),.pointer (some ⟨w.heap.size+1,0,none⟩),.pointer (some ⟨w1.heap.size,0,none⟩),undef,.slice x.a x.o.length x.c,undef,undef,.pointer (some ⟨w.heap.size,4,none⟩),.string n.text,.int .i64 (rc n.text),.pointer (some ⟨w.heap.size,6,none⟩),.slice ua n.undo.length uc,.func (.func 72) #[] #[.pointer (some ⟨w1.heap.size+1,0,none⟩)],.int .i64 (x.i:Int),.slice x.a x.o.length x.c,undef,undef,undef,undef,undef,undef,undef,undef,undef,undef,undef,undef,undef,undef,undef,undef,undef,undef],defers:=[]}) ?assign ?body ?done ?stop
 case hI=>
  rintro s W W' row ⟨k1,k2,k3⟩ hg hrow;exact⟨k1,k2.grown hg (fun e=>by have:=(hrow _ e.symm).1;omega),k3.grown hg (fun k e=>.inr (hrow k e).1)⟩
 case hIx=>
  rintro co s W W' row ⟨k0,k1,k2,k3⟩ hg hrow;exact⟨k0,k1,k2.grown hg (fun e=>by have:=(hrow _ e.symm).1;omega),k3.grown hg (fun k e=>.inr (hrow k e).1)⟩
 case h0=>exact⟨rfl,hA0.out,Touch.refl _ _⟩
 case assign=>
  intro l x W K hK;simp only[Seen.enc]
  gi_wp2
  exact hK
 case body=>
  rintro l pre x W ⟨k1,k2,k3⟩ hlt;have hbW:Below w.heap.size w W:=HB0.out.trans (k3.toBelow HB0.out.size (fun z hz=>by omega));have hgW:Good W:=hg.below hbW hg.size;have hsn:=undoFrom_snoc (pre.map Seen.o) (rc n.text) x.o;have hms:(pre++[x]).map Seen.o=pre.map Seen.o++[x.o]:=by simp
  have hat:=undoAt_snoc (pre.map Seen.o) (rc n.text) x.o;generalize undoAt (rc n.text) (pre.map Seen.o)=A1 at*;have hrx:=Lib.hid x.rd;have hsx:=Lib.hid x.sm;have HK1:=Lib.hid k1;have HK2:=Lib.hid k2;have HK3:=Lib.hid k3;have HW:=Lib.hid hbW;have HGW:=Lib.hid hgW;have Hsn:=Lib.hid hsn;have Hms:=Lib.hid hms;have Hat:=Lib.hid hat;have hz0:=k2.lt;clear k1 k2 k3 hbW hgW hsn hms hat
  gi_wp2
  refine⟨trivial,?_⟩;refine(CallsIn.inRound l (callsIn_wide.2 (lengths_any (· <W.heap.size) x.o x.a _ x.c W (hrx.out.go HW.out) hsx.out))).mono ?_;rintro e W2 ⟨rfl,b2⟩;have hW2:=Lib.hid (up HW.out b2);have B2:=Lib.hid b2;clear b2
  gi_wp2
  refine⟨trivial,?_⟩;refine(CallsIn.inRound l (callsIn_wide.2 (check_any (· <W2.heap.size) x.o x.a _ x.c W2 (HGW.out.go B2.out) (fun _ h=>h) (hrx.out.go hW2.out)))).mono ?_;rintro e W3 ⟨rfl,b3⟩;have B3:=Lib.hid (up B2.out b3);have X3:Blk w1.heap.size (.cells #[.int .i64 A1] 3 (0,0)) W3:=HK2.out.go B3.out;have T3:Hid (Touch (fun z=>z=w1.heap.size) W0 W3):=HK3.out.trans (Touch.of_below B3.out);have Y3:Blk (w.heap.size+1) (.cells #[.bool false] 4 (0,0)) W3:=HY0.out.touch T3.out (by omega);have p3:W3.cell? ⟨w1.heap.size,0,none⟩=some (.int .i64 A1):=X3.cell 0;have f3:W3.frozen? ⟨w1.heap.size,0,none⟩=false:=X3.frozen 0;have hz3:=X3.lt;have r3:W3.cell? ⟨w.heap.size+1,0,none⟩=some (.bool false):=Y3.cell 0;have g3:W3.frozen? ⟨w.heap.size+1,0,none⟩=false:=Y3.frozen 0;have hy3:=Y3.lt;have HX3:=Lib.hid X3;have HY3:=Lib.hid Y3;have KO:Hid (KeepsOthers W W3):=KeepsOthers.of_below B3.out;clear b3 X3 Y3;by_cases hc0:check x.o=0
  ·by_cases hc1:sumF x.o=A1
   ·have hb1:(sumF x.o==A1)=true:=by simpa using hc1
    have hb1':(sumF x.o !=A1)=false:=by simpa using hc1
    have hun:undoFrom (rc n.text) ((pre++[x]).map Seen.o)=true:=by
     rw[Hms.out,Hsn.out [] HK1.out];unfold undoFrom;rw[if_neg (by simpa using hc0),if_neg (by simpa using hc1)];rfl
    have Hun:=Lib.hid hun;have HN:Hid (KeepsOthers W (W3.setCell ⟨w1.heap.size,0,none⟩ (.int .i64 (sumT x.o)))∧KeepB w.heap.size (w1.heap.size+1) W (W3.setCell ⟨w1.heap.size,0,none⟩ (.int .i64 (sumT x.o)))∧Blk w1.heap.size (.cells #[.int .i64 (undoAt (rc n.text) ((pre++[x]).map Seen.o))] 3 (0,0)) (W3.setCell ⟨w1.heap.size,0,none⟩ (.int .i64 (sumT x.o)))∧Touch (fun z=>z=w1.heap.size) W0 (W3.setCell ⟨w1.heap.size,0,none⟩ (.int .i64 (sumT x.o)))):=by
     have ht:=touch1 (w:=W3) (g:=w1.heap.size) (i:=0) (.int .i64 (sumT x.o));refine⟨KO.out.trans (KeepsOthers.setCell _ _ _),⟨?_,?_⟩,?_,T3.out.trans ht⟩
     ·exact(Touch.of_below (S:=fun z=>w.heap.size≤z) B3.out|>.trans (ht.mono fun z _ hz=>by omega)).toBelow (by have:=HW.out.size;omega) (fun z hz=>hz)
     ·have hC:=hC0.out.touch HK3.out (by omega);have hC3:=hC.go B3.out;exact((ht.block _ hC3.lt (by omega)).trans hC3).trans hC.symm
     ·rw[Hms.out,Hat.out];exact HX3.out.set 0 _
    clear hun hc1
    gi_wp2
    exact⟨HN.out.1,HN.out.2.1,Hun.out,HN.out.2.2⟩
   ·have hb1:(sumF x.o==A1)=false:=by simpa using hc1
    have hb1':(sumF x.o !=A1)=true:=by simpa using hc1
    have hr4:=touch1 (w:=W3) (g:=w.heap.size+1) (i:=0) (.bool false);have HX:Hid (KeepsOthers W (W3.setCell ⟨w.heap.size+1,0,none⟩ (.bool false))∧(∀r,undoFrom (rc n.text) ((pre++[x]).map Seen.o++r)=false)∧Blk (w.heap.size+1) (.cells #[.bool false] 4 (0,0)) (W3.setCell ⟨w.heap.size+1,0,none⟩ (.bool false))∧Touch (fun z=>z=w1.heap.size∨z=w.heap.size+1) W0 (W3.setCell ⟨w.heap.size+1,0,none⟩ (.bool false))):=by
     refine⟨KO.out.trans (KeepsOthers.setCell _ _ _),fun r=>?_,HY3.out.set 0 _,(T3.out.mono fun z _ hz=>.inl hz).trans (hr4.mono fun z _ hz=>.inr hz)⟩;rw[Hms.out,List.append_assoc,List.singleton_append,Hsn.out r HK1.out];unfold undoFrom;rw[if_neg (by simpa using hc0),if_pos hc1]
    clear hr4;clear hc1
    gi_wp2
    exact⟨HX.out.1,rfl,HX.out.2⟩
  ·have hb0:(check x.o !=0)=true:=by simpa using hc0
   have hr4:=touch1 (w:=W3) (g:=w.heap.size+1) (i:=0) (.bool false);have HX:Hid (KeepsOthers W (W3.setCell ⟨w.heap.size+1,0,none⟩ (.bool false))∧(∀r,undoFrom (rc n.text) ((pre++[x]).map Seen.o++r)=false)∧Blk (w.heap.size+1) (.cells #[.bool false] 4 (0,0)) (W3.setCell ⟨w.heap.size+1,0,none⟩ (.bool false))∧Touch (fun z=>z=w1.heap.size∨z=w.heap.size+1) W0 (W3.setCell ⟨w.heap.size+1,0,none⟩ (.bool false))):=by
    refine⟨KO.out.trans (KeepsOthers.setCell _ _ _),fun r=>?_,HY3.out.set 0 _,(T3.out.mono fun z _ hz=>.inl hz).trans (hr4.mono fun z _ hz=>.inr hz)⟩;rw[Hms.out,List.append_assoc,List.singleton_append,Hsn.out r HK1.out];unfold undoFrom;rw[if_pos hc0]
   clear hr4;clear hc0
   gi_wp2
   exact⟨HX.out.1,rfl,HX.out.2⟩
 case done=>
  rintro D ys W hD hys ⟨k1,k2,k3⟩ hK;have hys':ys.map Seen.o=n.undo.reverse:=hys;rw[hys']at k1;have X3:=HX0.out.touch k3 (by omega);have Y3:=HY0.out.touch k3 (by omega);have x6:W.cell? ⟨w.heap.size,6,none⟩=some (.slice ua n.undo.length uc):=X3.cell 6;have r3:W.cell? ⟨w.heap.size+1,0,none⟩=some (.bool false):=Y3.cell 0;have g3:W.frozen? ⟨w.heap.size+1,0,none⟩=false:=Y3.frozen 0;have hy3:=Y3.lt;have hOk:undoOk n=decide ((n.undo.length:Int)≤12):=by
   unfold undoOk;rw[k1,Bool.true_and];by_cases h:n.undo.length≤12
   ·rw[decide_eq_true h,decide_eq_true (by omega)]
   ·rw[decide_eq_false h,decide_eq_false (by omega)]
  have HOk:=Lib.hid hOk;have HK3:=Lib.hid k3;have HY3:=Lib.hid Y3;have Hx6:=Lib.hid hK;clear k1 k2 k3 X3 Y3 hOk hys hys'
  gi_wp2
  have hK':=(KeepsOthers.setCell W ⟨w.heap.size+1,0,none⟩ (.bool (decide ((n.undo.length:Int)≤12)))).same D _ Hx6.out rfl;refine⟨by simp,.inl ⟨_,_,rfl,run_takeDeferred hK',?_⟩⟩;have hc5:=cell_kept ((HY3.out.set 0 (.bool (decide ((n.undo.length:Int)≤12)))).cell 0) (grownBy_putObj' _ D (.deferred none)) (fun r e=>by cases e;exact⟨_,hK',rfl⟩);have hB:Below w.heap.size w W:=HB0.out.trans (HK3.out.toBelow HB0.out.size (fun z hz=>by omega));refine⟨.bool (decide ((n.undo.length:Int)≤12)),?_,by rw[HOk.out],(hB.setCell (p:=⟨w.heap.size+1,0,none⟩) (by simp) _).trans (belowK_b (w:=w) (Nat.le_refl _) _ D _ _ (by omega) hK' rfl rfl)⟩;simp only[List.setIfInBounds_toArray,List.set_cons_zero,List.getElem?_toArray,List.getElem?_cons_zero]at hc5;simp[results,Tryd.results29,go_sem,hc5]
 case stop=>
  rintro D co pre W hD hpre ⟨rfl,k1,k2,k3⟩ hK;have hU:undoOk n=false:=by
   obtain⟨r,hr2⟩:=hpre;unfold undoOk;rw[←hr2,k1 r];rfl
  have HU:=Lib.hid hU;have HK2:=Lib.hid k2;have HK3:=Lib.hid k3;clear hU k1 k2 k3 hpre
  gi_wp2
  refine⟨by simp,.inl ⟨_,_,rfl,run_takeDeferred hK,?_⟩⟩;have hc5:=cell_kept (HK2.out.cell 0) (grownBy_putObj' _ D (.deferred none)) (fun r e=>by cases e;exact⟨_,hK,rfl⟩);have hB:Below w.heap.size w W:=HB0.out.trans (HK3.out.toBelow HB0.out.size (fun z hz=>by omega));refine⟨.bool false,?_,by rw[HU.out],hB.trans (belowK_b (w:=w) (Nat.le_refl _) W D _ _ (by omega) hK rfl rfl)⟩;simp[results,Tryd.results29,go_sem,hc5]
end Go.Proofs.YtkbfhgcjimfgkaaDoor
set_option linter.unusedSimpArgs false
namespace Go.Proofs.YtkbfhgcjimfgkaaDoor
open Go.RowKit
def sideLast (n:Nd)(s:Sd):Bool:=match lastT s.e.pending with
 |some t=>t==rc n.text
 |none=>true
def sideOk (n:Nd)(s:Sd):Bool:=
 if edgeCheck s.e.sent s.e.heard s.e.pending≠0 then false else if s.l.check≠0 then false else if s.joined=false then s.e.sent+s.e.heard==0 else if sideLast n s=false then false else n.ready&&decide (0<s.l.epoch)
theorem edgeCheck_zero {s h:Int}{l:List Op}(H:edgeCheck s h l=0):0≤s∧s≤1048576∧0≤h∧h≤1048576∧(l.length:Int)≤s∧chainFrom none l=true:=by
 unfold edgeCheck at H;by_cases h1:edgeOdd s h l
 ·rw[if_pos h1]at H;exact absurd H (by decide)
 ·rw[if_neg h1]at H;by_cases h2:chainFrom none l=true
  ·unfold edgeOdd at h1;exact⟨by omega,by omega,by omega,by omega,by omega,h2⟩
  ·rw[if_neg h2]at H;exact absurd H (by decide)
theorem chain_all:∀{l:List Op}{q:Option Int},chainFrom q l=true→∀o∈l,check o=0
 |[],_,_,o,ho=>by cases ho
 |p::l,q,h,o,ho=>by
  have hp:check p=0:=by
   by_cases hp:check p=0
   ·exact hp
   ·rw[chain_bad hp]at h;cases h
  have hl:chainFrom (some (sumT p)) l=true:=by
   cases q with
   |none=>rwa[chain_none hp]at h
   |some t=>
    by_cases ht:sumF p=t
    ·rwa[chain_on hp ht]at h
    ·rw[chain_off ht]at h;cases h
  rcases List.mem_cons.1 ho with rfl|ho
  ·exact hp
  ·exact chain_all hl o ho
set_option maxRecDepth 100000 in
set_option maxHeartbeats 4000000 in
theorem side_any (n:Nd)(a:Option Addr)(c:Nat)(ua:Option Addr)(uc:Nat)(ma:Option Addr)(mc:Nat)(s:Sd)(ea:Option Addr)(ec:Nat)(la:Option Addr)(lc:Nat)(qa:Option Addr)(qc:Nat)(w:World)(hg:Good w)(hn:n.text.size≤strMax)
 (h1:RdS (· <w.heap.size) w s.e.pending ea s.e.pending.length ec) (h2:RdS (· <w.heap.size) w s.l.sent la s.l.sent.length lc) (h3:RdS (· <w.heap.size) w s.l.queue qa s.l.queue.length qc) (he:s.e.fits) (hl:s.l.fits):
 Calls Tryd.prog 30 #[.agg #[.int .i64 n.me,.int .i64 n.epoch,.int .i64 n.up,.bool n.ready,.string n.text,.slice a n.sides.length c,.slice ua n.undo.length uc,.slice ma n.marks.length mc],.agg #[.int .i64 s.peer,.bool s.joined,.int .i64 s.e.sent,.int .i64 s.e.heard,.slice ea s.e.pending.length ec,.int .i64 s.l.epoch,.int .i64 s.l.next,.slice la s.l.sent.length lc,.slice qa s.l.queue.length qc,.int .i64 s.l.heard]] w
  fun e w'=>e=.returned (.bool (sideOk n s))∧Below w.heap.size w w':=by
 have HE:=Lib.hid (fun W (hW:Below w.heap.size w W)=>edge_any s.e.sent s.e.heard s.e.pending ea s.e.pending.length ec W (hg.go hW) (h1.go hW) he.1 he.2);have HK:=Lib.hid (fun W (hW:Below w.heap.size w W)=>lkCheck_any s.l la qa s.l.sent.length lc s.l.queue.length qc W (hg.go hW) (h2.go hW) (h3.go hW) hl);have HR:=Lib.hid (fun W=>rc_any n.text W hn);unfold lkV at HK;have H1:=Lib.hid h1;obtain⟨R,hR⟩:∃R,R=sideOk n s:=⟨_,rfl⟩;rw[←hR];unfold sideOk at hR;have HRR:=Lib.hid hR;have Hz:=Lib.hid (fun h=>edgeCheck_zero (s:=s.e.sent) (h:=s.e.heard) (l:=s.e.pending) h);generalize he1:edgeCheck s.e.sent s.e.heard s.e.pending=e1 at*;generalize s.l.check=e2 at*;have Hlast:Hid (sideLast n s=match lastT s.e.pending with
  |some t=>t==rc n.text
  |none=>true):=rfl
 generalize sideLast n s=SLt at*;obtain⟨cn,hcn⟩:∃cn:Obj,cn=.cells #[.int .i64 n.me,.int .i64 n.epoch,.int .i64 n.up,.bool n.ready,.string n.text,.slice a n.sides.length c,.slice ua n.undo.length uc,.slice ma n.marks.length mc] 31 (0,0):=⟨_,rfl⟩;obtain⟨cs,hcs⟩:∃cs:Obj,cs=.cells #[.int .i64 s.peer,.bool s.joined,.int .i64 s.e.sent,.int .i64 s.e.heard,.slice ea s.e.pending.length ec,.int .i64 s.l.epoch,.int .i64 s.l.next,.slice la s.l.sent.length lc,.slice qa s.l.queue.length qc,.int .i64 s.l.heard] 72 (0,0):=⟨_,rfl⟩;have U0:Hid (Below w.heap.size w ((w.alloc cn).alloc cs)):=by unfold Hid;(repeat (first|exact Below.refl _ _|assumption|(refine Below.drew ?_)|(refine below_drewN ?_ _)|(refine Below.alloc ?_ (by first|(simp;done)|(simp;omega)|omega) _)|(refine Below.setCell ?_ (by first|(simp;done)|(simp;omega)|omega) _)|(refine Below.trans ?_ (Below.mono (by assumption) (by first|(simp;done)|(simp;omega)|omega)))))
 have X0:Hid (Blk w.heap.size cn ((w.alloc cn).alloc cs)):=(Blk.new w _).alloc _;have Y0:Hid (Blk (w.heap.size+1) cs ((w.alloc cn).alloc cs)):=Blk.at (w.alloc cn) _ _ (by simp);clear h1 h2 h3 he hl hg hn hR he1;go_enter Tryd.func30,Tryd.ntmps30;go_wp2_with fail;rw[←hcn,←hcs];refine abs_run (fun W=>Below w.heap.size w W∧Blk w.heap.size cn W∧Blk (w.heap.size+1) cs W) ⟨U0.out,X0.out,Y0.out⟩ ?_;rintro w1 ⟨b1,x1,y1⟩;subst hcn hcs;have B1:=Lib.hid b1;have X1:=Lib.hid x1;have Y1:=Lib.hid y1;clear U0 X0 Y0 b1 x1 y1;refine(HE.out _ B1.out).mono ?_;rintro e w2 ⟨rfl,b2⟩;have B2:=Lib.hid (up B1.out b2);have X2:=Lib.hid (X1.out.go b2);have Y2:=Lib.hid (Y1.out.go b2);obtain⟨p0,p1,p2,p3,p4,p5,p6,p7,p8,p9⟩:=blk10_cells Y2.out;clear b2 X1 Y1 B1 HE;by_cases h1:e1=0
 ·subst h1;obtain⟨z1,z2,z3,z4,z5,z6⟩:=Hz.out rfl;clear Hz;go_wp2_with fail;refine(HK.out _ B2.out).mono ?_;rintro e w3 ⟨rfl,b3⟩;have B3:=Lib.hid (up B2.out b3);have X3:=Lib.hid (X2.out.go b3);have Y3:=Lib.hid (Y2.out.go b3);obtain⟨q0,q1,q2,q3,q4,q5,q6,q7,q8,q9⟩:=blk10_cells Y3.out;clear b3 X2 Y2 B2 HK p0 p1 p2 p3 p4 p5 p6 p7 p8 p9;by_cases h2:e2=0
  ·subst h2;cases hj:s.joined with
   |false=>
    rw[hj]at q1;have hR2:R=(s.e.sent+s.e.heard==0):=by rw[HRR.out,if_neg (by simp),if_neg (by simp),hj,if_pos rfl]
    subst hR2;clear HRR hj;go_wp2_with fail
    go_ret
    exact⟨rfl,B3.out⟩
   |true=>
    rw[hj]at q1;have hR2:R=if SLt=false then false else n.ready&&decide (0<s.l.epoch):=by rw[HRR.out,if_neg (by simp),if_neg (by simp),hj,if_neg (by simp)]
    have HR2:=Lib.hid hR2;clear HRR hj hR2;by_cases hk:s.e.pending.length=0
    ·have hk0:=hk;rw[hk]at q4;have hnil:s.e.pending=[]:=List.eq_nil_of_length_eq_zero hk0;have hS:SLt=true:=by rw[Hlast.out,hnil];rfl
     have HR3:Hid (R=(n.ready&&decide (0<s.l.epoch))):=by unfold Hid;rw[HR2.out,hS,if_neg (by simp)]
     have hx:=X3.out;have r3:=hx.cell 3;clear HR2 hS hnil hk hk0 hx Hlast HR;cases hrd:n.ready with
     |false=>
      rw[hrd]at r3;have hR3:R=false:=by rw[HR3.out,hrd];rfl
      subst hR3;clear HR3 hrd;go_wp2_with fail
      go_ret
      exact⟨rfl,B3.out⟩
     |true=>
      rw[hrd]at r3;have hR3:R=decide (0<s.l.epoch):=by rw[HR3.out,hrd];rfl
      subst hR3;clear HR3 hrd;go_wp2_with fail
      go_ret
      exact⟨rfl,B3.out⟩
    ·have hlt:s.e.pending.length-1<s.e.pending.length:=by omega
     have hl0:s.e.pending[s.e.pending.length-1]?=some s.e.pending[s.e.pending.length-1]:=List.getElem?_eq_getElem hlt;have hlast:lastT s.e.pending=some (sumT s.e.pending[s.e.pending.length-1]):=by
      unfold lastT;rw[List.getLast?_eq_getElem?,hl0];rfl
     have hS:SLt=(sumT s.e.pending[s.e.pending.length-1]==rc n.text):=by rw[Hlast.out,hlast]
     have hchk:=chain_all z6 _ (List.getElem_mem hlt);obtain⟨b,off,rfl,hA,hbl,hcl⟩:=H1.out.rowO (by omega);have hH:=H1.out.2.1;obtain⟨oa,on,oc,ho,hoc⟩:=hcl _ hlt;have hoc3:=(bcell B3.out).1 b (off+(s.e.pending.length-1)) hbl;rw[hoc]at hoc3;have HLen:=Lib.hid (fun W (hW:Below w.heap.size w W)=>lengths_any (· <W.heap.size) _ oa on oc W (ho.go hW) (check_small hchk));have hpos:(0:Int)<(s.e.pending.length:Int):=by omega
     have hle:(s.e.pending.length:Int)≤1048576:=by omega
     obtain⟨kk,hkk⟩:∃kk:Nat,s.e.pending.length=kk+1:=⟨s.e.pending.length-1,by omega⟩;clear hl0 hcl hlast;generalize s.e.pending[s.e.pending.length-1]=LO at*;clear hlt H1;generalize s.e.pending.length=KL at*;subst hkk;simp only[Nat.add_sub_cancel]at*;have HS:=Lib.hid hS;have hkc:(kk:Int)<(ec:Int):=by omega
     clear hS hoc ho hchk hk z6 Hlast;have hx:=X3.out;have r3:=hx.cell 3;clear hx;have hp1:((kk+1:Nat):Int)-1=(kk:Int):=by omega
     go_wp2_with fail;refine(HLen.out _ B3.out).mono ?_;rintro e w4 ⟨rfl,b4⟩;have B4:=Lib.hid (up B3.out b4);have X4:=Lib.hid (X3.out.go b4);have Y4:=Lib.hid (Y3.out.go b4);have s4:=X4.out.cell 4;clear b4 X3 Y3 B3 HLen r3 q0 q1 q2 q3 q4 q5 q6 q7 q8 q9 hoc3;go_wp2_with fail;refine(HR.out _).mono ?_;rintro e w5 ⟨rfl,b5⟩;have B5:=Lib.hid (up B4.out b5);have X5:=X4.out.go b5;have Y5:=Y4.out.go b5;have r3:=X5.cell 3;obtain⟨q0,q1,q2,q3,q4,q5,q6,q7,q8,q9⟩:=blk10_cells Y5;clear b5 X4 Y4 B4 HR s4 X5 Y5;generalize sumT LO=t1 at*;generalize rc n.text=t2 at*;by_cases ht:t1=t2
     ·have hb:(t1==t2)=true:=by simpa using ht
      have HR3:Hid (R=(n.ready&&decide (0<s.l.epoch))):=by unfold Hid;rw[HR2.out,HS.out,hb,if_neg (by simp)]
      subst ht;clear HR2 HS hb;cases hrd:n.ready with
      |false=>
       rw[hrd]at r3;have hR3:R=false:=by rw[HR3.out,hrd];rfl
       subst hR3;clear HR3 hrd;go_wp2_with fail
       go_ret
       exact⟨rfl,B5.out⟩
      |true=>
       rw[hrd]at r3;have hR3:R=decide (0<s.l.epoch):=by rw[HR3.out,hrd];rfl
       subst hR3;clear HR3 hrd;go_wp2_with fail
       go_ret
       exact⟨rfl,B5.out⟩
     ·have hb:(t1==t2)=false:=by simpa using ht
      have hR3:R=false:=by rw[HR2.out,HS.out,hb,if_pos rfl]
      have hb':(t1 !=t2)=true:=by simpa using ht
      subst hR3;clear HR2 HS ht;go_wp2_with fail
      go_ret
      exact⟨rfl,B5.out⟩
  ·have hb:(e2 !=0)=true:=by simpa using h2
   have hR2:R=false:=by rw[HRR.out,if_neg (by simp),if_pos h2]
   subst hR2;clear HRR h2;go_wp2_with fail
   go_ret
   exact⟨rfl,B3.out⟩
 ·have hb:(e1 !=0)=true:=by simpa using h1
  have hR2:R=false:=by rw[HRR.out,if_pos h1]
  subst hR2;clear HRR h1 Hz;go_wp2_with fail
  go_ret
  exact⟨rfl,B2.out⟩
end Go.Proofs.YtkbfhgcjimfgkaaDoor
