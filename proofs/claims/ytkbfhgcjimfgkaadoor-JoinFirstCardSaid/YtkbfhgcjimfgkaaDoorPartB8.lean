/- The walk of node.neighbours. -/
import Derived.Test.YtkbfhgcjimfgkaaDoorPartB4
import Derived.Test.YtkbfhgcjimfgkaaDoorPartB7
import Derived.Test.YtkbfhgcjimfgkaaDoorPartA8
import Derived.Test.YtkbfhgcjimfgkaaDoorPartB5
import Derived.Test.YtkbfhgcjimfgkaaDoorPartA3
import Derived.Test.YtkbfhgcjimfgkaaDoorPartA7
set_option linter.unusedVariables false
set_option linter.unusedSimpArgs false
set_option linter.unusedSimpArgs false
namespace Go.Proofs.YtkbfhgcjimfgkaaDoor
open Go.RowKit
theorem own_app {α:Type} [Rep α] {X:Nat→Prop}{base:Nat}{v:Value}{l:List α}{w:World}(h:OwnO X base v l w):∃a c,v=.slice a l.length c:=by
 obtain⟨a,c,e,_⟩:=h.form;exact⟨a,c,e⟩
def RowP {α:Type} [Rep α] (l:List α)(w:World)(e:Ending)(w':World):Prop:=∃v,e=.returned v∧OwnO (· <w.heap.size) w.heap.size v l w'∧Below w.heap.size w w'
set_option maxRecDepth 100000 in
set_option maxHeartbeats 1000000 in
theorem ops_any (l:List Op)(a:Option Addr)(n c:Nat)(w:World)(hr:RdS (· <w.heap.size) w l a n c)(hlen:∀o∈l,o.length≤1000000000)(hn:n≤1048576):
 Calls Tryd.prog 75 #[.slice a n c] w (RowP l w):=by
 have hnl:=hr.1;have hcm:=hr.2.2.1;have hnc:=hr.2.1;unfold maxLen at hcm;have Hl:=Lib.hid hnl;have Hr:=Lib.hid hr;have Hlen:=Lib.hid hlen;clear hnl hr hlen;obtain⟨i0,hi,hz0,hz1,hz2⟩:=info_parts infoO;have Hi:=Lib.hid hi;have Hz0:=Lib.hid hz0;have Hz1:=Lib.hid hz1;have Hz2:=Lib.hid hz2;have Hpost:Hid (∀v W,OwnO (· <w.heap.size) w.heap.size v l W→Below w.heap.size w W→RowP l w (.returned v) W):=fun v W h1 h2=>⟨v,rfl,h1,h2⟩;generalize RowP l w=RP at*;clear hi hz0 hz1 hz2;go_enter Tryd.func75,Tryd.ntmps75;go_wp2_with fail;go_loopw [3,8] (fun out vi wr=>∃k:Nat,k≤n∧vi=.int .i64 (k:Int)∧OwnO (· <w.heap.size) w.heap.size out (l.take k) wr∧Below w.heap.size w wr) (fun _ vi _=>n-(intOf vi).toNat)
 case atStart=>exact⟨0,by omega,rfl,OwnO.nil,Below.refl _ _⟩
 case round=>
  obtain⟨k,hk,rfl,ho,hb⟩:=hrel;have HO:=Lib.hid ho;have HB:=Lib.hid hb;have hbz:=hb.size;obtain⟨xa,xc,rfl⟩:=own_app HO.out;by_cases hlt:k<n
  ·have hlt':(k:Int)<(n:Int):=by omega
   obtain⟨b,off,rfl,hAb,hbs,hcs⟩:=Hr.out.row (by omega);have hkl:k<l.length:=by have:=Hl.out;omega
   obtain⟨ak,nk,ck,hrk,dk0⟩:=hcs k hkl;have dk:wr.cell? ⟨b,off+k,none⟩=some (.slice ak nk ck):=(hb.cell (p:=⟨b,off+k,none⟩) hbs).trans dk0;have Hk:=Lib.hid (take_next l k hkl);have hnk:=hrk.1;have hlk:=Hlen.out l[k] (List.getElem_mem hkl);have Hcl:=Lib.hid (clone_any l[k] ak nk ck wr (hrk.go hb) (by omega));have htl:(l.take k).length=k:=by rw[List.length_take];omega
   generalize hol:l[k]=o at*;generalize l.take k=lk at*;have Htl:=Lib.hid htl;have hck:(k:Int)<(c:Int):=by omega
   have hkb:k≤1048576:=by omega
   clear hcs hrk hol dk0 ho hb htl hnk hlk;go_wp2_with fail;refine Hcl.out.mono ?_;rintro e w1 ⟨ca,cc,rfl,hrc,b1⟩;have hz1:=b1.size;have HO1:=Lib.hid (HO.out.go b1);have HB1:=Lib.hid (up HB.out b1);have Hvr:Hid (∀z,wr.heap.size≤z∧z<w1.heap.size→(z<(w1.alloc (.cells #[.slice ca o.length cc] 42)).heap.size∧¬z<w.heap.size∧(Value.slice xa lk.length xc).ownBlock≠some z)∧(w1.alloc (.cells #[.slice ca o.length cc] 42)).heap[z]?=w1.heap[z]?):=fun z hz=>⟨⟨by rw[alloc_sz];omega,by omega,fun e=>by have:=(HO.out.rowlt z e).2;omega⟩,((Below.refl w1.heap.size w1).alloc (Nat.le_refl _) _).block z hz.2⟩;have HRC:=Lib.hid (hrc.mono Hvr.out);clear b1 hrc HO HB Hvr Hcl;go_wp2_with (at_builtin;refine wpList_append_oneO rfl _ _ _ (by rfl) w.heap.size 42 i0 _ 24 Tryd.underlying28 Hi.out Hz0.out Hz1.out Hz2.out rfl (.slice xa lk.length xc) lk (by rfl) (HO1.out.go ((Below.refl _ w1).alloc (Nat.le_refl _) _)) w1.heap.size 1 _ [.slice ca o.length cc] o (by rfl) (Blk.new w1 _) ⟨ca,_,cc,rfl,HRC.out⟩ (by have:=Htl.out;unfold maxLen;omega) (by have:=Htl.out;omega) (by simp;omega) ?_);intro g2 o2 cap w2 hown hgrow hat hlt2;have HO3:=Lib.hid hown;have HB3:=Lib.hid ((HB1.out.alloc (by omega) (.cells #[.slice ca o.length cc] 42)).grown hgrow (by simp;omega) (fun k hk=>(HO1.out.rowlt k hk).1));clear hown hgrow hat;go_wp2_with fail;go_roundw
   case rel=>exact⟨k+1,by omega,by push_cast;rfl,by rw[Hk.out];exact HO3.out,HB3.out⟩
   case measure=>simp[intOf];omega
  ·have hkn:k=l.length:=by have:=Hl.out;omega
   have HE:Hid (l.take k=l):=by unfold Hid;rw[hkn,List.take_length]
   have hlt':¬((k:Int)<(n:Int)):=by omega
   clear ho hb hkn;generalize l.take k=lk at*;go_wp2_with fail;have e:=HE.out;subst e;exact Hpost.out _ _ HO.out HB.out
end Go.Proofs.YtkbfhgcjimfgkaaDoor
set_option linter.unusedSimpArgs false
namespace Go.Proofs.YtkbfhgcjimfgkaaDoor
open Go.RowKit
def mvI (push:Bool)(o:Op)(x:Int):Int:=if x<0∨sumF o<x then 0 else mv push o x 0 0
def mvM (push:Bool)(o:Op)(m:Mk):Mk:=⟨mvI push o m.anchor,mvI push o m.head⟩
theorem mvI_bound (push:Bool){o:Op}(h:check o=0)(x:Int):0≤mvI push o x∧mvI push o x≤sumT o∧sumT o≤4000:=by
 obtain⟨-,hok,-,hT⟩:=check_zero h;have h0:0≤sumT o:=by have:=mv_bound push o hok 0 0 0 (Int.le_refl _);omega
 unfold mvI;split
 ·omega
 ·have:=mv_bound push o hok x 0 0 (by omega);omega
def Tn.setMarks (t:Tn)(l:List Mk):Tn:={t with node:={t.node with marks:=l}}
theorem WkG.mark {base g:Nat}{t:Tn}{us vs:Nat→Value}{w:World}(h:WkG base g t us vs w)(hs:0<t.node.marks.length):
 ∃r o c,vs 2=.slice (some ⟨r,o,none⟩) t.node.marks.length c∧base≤r∧r<w.heap.size∧r≠g∧t.node.marks.length≤c∧c≤maxLen∧(∀i (hi:i<t.node.marks.length),I64 t.node.marks[i].anchor∧I64 t.node.marks[i].head∧w.cell? ⟨r,o+i*2,none⟩=some (.int .i64 t.node.marks[i].anchor)∧w.cell? ⟨r,o+i*2+1,none⟩=some (.int .i64 t.node.marks[i].head))∧
  (∀j,j<c*2→w.frozen? ⟨r,o+j,none⟩=false):=by
 have h0:OwnO (WX base g vs) base (vs 2) t.node.marks w:=h.rows 2 (by omega);rcases h0.row with⟨a,hv,hl,h2⟩|⟨r,o,cap,hv,h1,h2,h3,h4,h5,h6⟩
 ·rw[hl]at hs;simp at hs
 ·refine⟨r,o,cap,hv,h1,h2,h.ne 2 (by omega) r (by rw[hv];rfl),h3,h4,fun i hi=>?_,fun j hj=>(h5 j hj).2⟩;obtain⟨xs,⟨rfl,r1,r2⟩,r3⟩:=h6 i _ (List.getElem?_eq_getElem hi);exact⟨r1,r2,r3 0 _ rfl,r3 1 _ rfl⟩
theorem WkG.updMark {base g r o c:Nat}{t:Tn}{vs:Nat→Value}{w:World}(h:WkM base g t vs w)(s:Nat)(hs:s<t.node.marks.length)(hv:vs 2=.slice (some ⟨r,o,none⟩) t.node.marks.length c)(y:Mk)(hy:I64 y.anchor∧I64 y.head):
 WkM base g (t.setMarks (t.node.marks.set s y)) vs (w.setCells r (o+s*2) [.int .i64 y.anchor,.int .i64 y.head])∧Touch (Mine g vs) w (w.setCells r (o+s*2) [.int .i64 y.anchor,.int .i64 y.head]):=by
 have h0:OwnO (WX base g vs) base (vs 2) t.node.marks w:=h.rows 2 (by omega);rw[hv]at h0;have hr:(vs 2).ownBlock=some r:=by rw[hv];rfl
 have hn:=h0.upd s hs 0 [.int .i64 y.anchor,.int .i64 y.head] (Nat.le_refl _) y (fun xs _=>⟨_,⟨rfl,hy⟩,fun j v hj=>by
  match j with
  |0|1=>exact hj
  |j+2=>cases hj⟩)
 have hg:=grownBy_setCells w r (o+s*2) [.int .i64 y.anchor,.int .i64 y.head];have k:=h.grow (t':=t.setMarks (t.node.marks.set s y)) (j:=2) (v':=vs 2) (by omega) (by rw[hr];exact hg) (fun k hk=>.inl hk) (by rw[hv];exact hn) (fun i hi X v W h=>by
  match i,hi with
  |2,hi=>exact absurd rfl hi
  |0,_=>exact h
  |1,_=>exact h
  |3,_=>exact h
  |4,_=>exact h
  |i+5,_=>trivial) rfl h.fit
 have e:(fun q=>if q=2 then vs 2 else vs q)=vs:=by
  funext q;by_cases e:q=2
  ·rw[if_pos e,e]
  ·rw[if_neg e]
 rw[e]at k;exact⟨k,(touch_setCells w r (o+s*2) _).mono fun z _ hz=>.inr ⟨2,by omega,by rw[hr,hz]⟩⟩
def Tn.mvk (t:Tn)(push:Bool)(o:Op)(k:Nat):Tn:=t.setMarks ((t.node.marks.take k).map (mvM push o)++t.node.marks.drop k)
theorem Tn.mvk_zero (t:Tn)(push:Bool)(o:Op):t.mvk push o 0=t:=by unfold Tn.mvk Tn.setMarks;simp
theorem Tn.mvk_len (t:Tn)(push:Bool)(o:Op)(k:Nat):(t.mvk push o k).node.marks.length=t.node.marks.length:=by
 show((t.node.marks.take k).map (mvM push o)++t.node.marks.drop k).length=_
 simp;omega
theorem Tn.mvk_at (t:Tn)(push:Bool)(o:Op)(k:Nat)(h:k<t.node.marks.length):(t.mvk push o k).node.marks[k]?=some t.node.marks[k]:=by
 show((t.node.marks.take k).map (mvM push o)++t.node.marks.drop k)[k]?=_
 rw[List.getElem?_append_right (by simp;omega)];simp[Nat.min_eq_left (Nat.le_of_lt h)]
theorem Tn.mvk_succ (t:Tn)(push:Bool)(o:Op)(k:Nat)(h:k<t.node.marks.length):(t.mvk push o k).setMarks ((t.mvk push o k).node.marks.set k (mvM push o t.node.marks[k]))=t.mvk push o (k+1):=by
 have e:((t.node.marks.take k).map (mvM push o)++t.node.marks.drop k).set k (mvM push o t.node.marks[k])=(t.node.marks.take (k+1)).map (mvM push o)++t.node.marks.drop (k+1):=by
  have hl:((t.node.marks.take k).map (mvM push o)).length=k:=by simp;omega
  rw[List.set_append_right _ _ (by omega),hl,Nat.sub_self,List.drop_eq_getElem_cons h,List.set_cons_zero,List.take_succ_eq_append_getElem h,List.map_append];simp
 show t.setMarks (((t.node.marks.take k).map (mvM push o)++t.node.marks.drop k).set k _)=_
 rw[e];rfl
def Tn.move (t:Tn)(push:Bool)(o:Op):Tn:=t.setMarks (t.node.marks.map (mvM push o))
theorem Tn.mvk_all (t:Tn)(push:Bool)(o:Op):t.mvk push o t.node.marks.length=t.move push o:=by unfold Tn.mvk Tn.move;simp
set_option maxRecDepth 100000 in
set_option maxHeartbeats 4000000 in
theorem ndMove_any (base g:Nat)(t:Tn)(vs:Nat→Value)(o:Op)(a:Option Addr)(c:Nat)(push:Bool)(w:World)(hg:Good w)(h:WkM base g t vs w)(hr:RdS (NM g vs w) w o a o.length c)(hc:check o=0)(hl:t.node.marks.length≤1000000):
 Calls Tryd.prog 61 #[.pointer (some ⟨g,0,none⟩),.slice a o.length c,.bool push] w fun e w'=>e=.returned (.tuple #[])∧WkS base g (t.move push o) vs w w':=by
 have HMv:Hid (∀W x,Touch (Mine g vs) w W→I64 x→Calls Tryd.prog 81 #[.int .i64 x,.slice a o.length c,.bool push] W fun e w'=>(∃ec:Int,e=.returned (.tuple #[.int .i64 (mvI push o x),.int .i64 ec]))∧Below W.heap.size W w'):=fun W x ht hx=>(move_any (· <W.heap.size) x o push a o.length c W (hg.wk h ht) (fun _ h=>h) (hr.mono fun z hz=>⟨Nat.lt_of_lt_of_le hz.1 ht.size,ht.block z hz.1 hz.2⟩) hx hc).mono fun e w' h=>⟨⟨_,h.1⟩,h.2⟩;have HB:=Lib.hid (fun x=>mvI_bound push hc x);have HM:=Lib.hid h;obtain⟨ma,mc,hv2⟩:=own_app (h.rows 2 (by omega):OwnO (WX base g vs) base (vs 2) t.node.marks w);have HV2:=Lib.hid hv2;have HP:=Lib.hid (node_ptr g w);have HN:Hid ((t.mvk push o t.node.marks.length)=t.move push o):=t.mvk_all push o;obtain⟨-,-,-,-,-,-,-,p7,-⟩:=blk10_cells h.box;rw[hv2]at p7;generalize hNN:t.node.marks.length=N at*;have HNN:=Lib.hid hNN;have hlI:(N:Int)≤1000000:=by omega
 clear hg h hr hc hv2 hNN;go_enter Tryd.func61,Tryd.ntmps61;go_wp2_with fail;refine HP.out.mono ?_;rintro e w1 ⟨rfl,rfl⟩;go_wp2_with fail;go_loopw [20] (fun vi wr=>∃k:Nat,k≤N∧vi=.int .i64 (k:Int)∧WkM base g (t.mvk push o k) vs wr∧Touch (Mine g vs) w wr) (fun vi _=>N-(intOf vi).toNat)
 case atStart=>exact⟨0,by omega,rfl,by rw[t.mvk_zero];exact HM.out,Touch.refl _ _⟩
 case round=>
  obtain⟨k,hk,rfl,hm,ht⟩:=hrel;have HMk:=Lib.hid hm;have HTk:=Lib.hid ht;clear hm ht p7;by_cases hlt:k<N
  ·have hlt':(k:Int)<(N:Int):=by omega
   have hkl:k<t.node.marks.length:=by rw[HNN.out];omega
   obtain⟨r,ro,c',hv,hb1,hb2,hne,hc1,hc2,hcl,hfr⟩:=HMk.out.mark (by rw[t.mvk_len];omega);obtain⟨i1,i2,y0,y1⟩:=hcl k (by rw[t.mvk_len];exact hkl);have hat:=t.mvk_at push o k hkl;rw[List.getElem?_eq_getElem (by rw[t.mvk_len];exact hkl)]at hat;rw[Option.some.inj hat]at i1 i2 y0 y1;rw[t.mvk_len]at hv hc1;have hvv:=hv;rw[HV2.out,HNN.out]at hv;injection hv with hv1 _ hv3;subst hv1 hv3;have hf:∀j,j<2→wr.frozen? ⟨r,ro+(k*2+j),none⟩=false:=fun j hj=>hfr (k*2+j) (by omega);have HF:=Lib.hid hf;have HU:=Lib.hid (fun W (hW:Below wr.heap.size wr W)=>(HMk.out.go hW).updMark k (by rw[t.mvk_len];exact hkl) (by rw[t.mvk_len];exact hvv) (mvM push o t.node.marks[k]) ⟨by have:=HB.out t.node.marks[k].anchor;show I64 (mvI push o t.node.marks[k].anchor);unfold I64;omega,by have:=HB.out t.node.marks[k].head;show I64 (mvI push o t.node.marks[k].head);unfold I64;omega⟩);have HS:=Lib.hid (t.mvk_succ push o k hkl);have HI:=Lib.hid (And.intro i1 i2);have hkc:(k:Int)<(mc:Int):=by have:=HNN.out;omega
   have hmc:(mc:Int)≤9223372036854775807:=by unfold maxLen at hc2;omega
   obtain⟨m,hm⟩:∃m,m=t.node.marks[k]:=⟨_,rfl⟩;rw[←hm]at y0 y1;rw[←hm]at HU HS HI;have HY0:=Lib.hid (And.intro y0 y1);have Hb:=Lib.hid (And.intro hb1 (And.intro hb2 hne));clear hcl hat hvv hfr hf hm hc1 hc2 hb1 hb2 hne i1 i2;go_wp2_with fail;refine abs_run (fun W=>Below wr.heap.size wr W∧Blk wr.heap.size (.cells #[.int .i64 m.anchor,.int .i64 m.head] 58 (0,0)) W) ⟨(Below.refl _ _).alloc (Nat.le_refl _) _,Blk.new wr _⟩ ?_;rintro w3 ⟨b3,x3⟩;have B3:=Lib.hid b3;refine(HMv.out w3 _ (HTk.out.trans (Touch.of_below b3)) HI.out.1).mono ?_;rintro e w4 ⟨⟨ec,rfl⟩,b4⟩;have B4:=Lib.hid (up b3 b4);have X4:=Lib.hid (x3.go b4);have y1':=X4.out.cell 1;clear b3 b4 x3 y0 y1 B3;go_wp2_with fail;refine(HMv.out w4 _ (HTk.out.trans (Touch.of_below B4.out)) HI.out.2).mono ?_;rintro e w5 ⟨⟨ec2,rfl⟩,b5⟩;have B5:=Lib.hid (up B4.out b5);have hmk:=HMk.out.go B5.out;obtain⟨-,-,-,-,-,-,-,p7,-⟩:=blk10_cells hmk.box;rw[HV2.out]at p7;have z0:w5.cell? ⟨r,ro+k*2,none⟩=_:=(B5.out.cell (p:=⟨r,ro+k*2,none⟩) Hb.out.2.1).trans HY0.out.1;have z1:w5.cell? ⟨r,ro+k*2+1,none⟩=_:=(B5.out.cell (p:=⟨r,ro+k*2+1,none⟩) Hb.out.2.1).trans HY0.out.2;have hrw:w5.heap[r]?=wr.heap[r]?:=B5.out.block r Hb.out.2.1;have f0:w5.frozen? ⟨r,ro+k*2,none⟩=false:=(World.frozen?_of_block (a:=⟨r,ro+k*2,none⟩) hrw).trans (HF.out 0 (by omega));have f1:w5.frozen? ⟨r,ro+k*2+1,none⟩=false:=(World.frozen?_of_block (a:=⟨r,ro+k*2+1,none⟩) hrw).trans (HF.out 1 (by omega));obtain⟨hu1,hu2⟩:=HU.out w5 B5.out;rw[HS.out]at hu1;have HD:Hid (WkM base g (t.mvk push o (k+1)) vs ((w5.setCell ⟨r,ro+k*2,none⟩ (.int .i64 (mvI push o m.anchor))).setCell ⟨r,ro+k*2+1,none⟩ (.int .i64 (mvI push o m.head)))∧Touch (Mine g vs) w ((w5.setCell ⟨r,ro+k*2,none⟩ (.int .i64 (mvI push o m.anchor))).setCell ⟨r,ro+k*2+1,none⟩ (.int .i64 (mvI push o m.head)))):=⟨hu1,(HTk.out.trans (Touch.of_below B5.out)).trans hu2⟩;clear hu1 hu2 hrw hmk y1' b5 HMv HU HS HMk HTk HF X4;go_wp2_with fail
   case roundEnd=>
    refine⟨⟨k+1,by omega,by push_cast;rfl,HD.out⟩,?_⟩;simp[intOf];omega
  ·have hkn:k=N:=by omega
   have hlt':¬((k:Int)<(N:Int)):=by omega
   have HE:Hid (WkS base g (t.move push o) vs w wr):=⟨vs,by rw[←HN.out,←hkn];exact HMk.out,HTk.out,fun z hz=>.inl hz⟩;clear hkn;go_wp2_with fail;go_end0;exact⟨rfl,HE.out⟩
end Go.Proofs.YtkbfhgcjimfgkaaDoor
set_option linter.unusedSimpArgs false
namespace Go.Proofs.YtkbfhgcjimfgkaaDoor
open Go.RowKit
def fstIx {α:Type}(p:α→Bool):List α→Option Nat
 |[]=>none
 |x::l=>if p x=true then some 0 else(fstIx p l).map (· +1)
theorem fstIx_any {α:Type}(p:α→Bool):∀l,(fstIx p l).isSome=l.any p
 |[]=>rfl
 |x::l=>by
  unfold fstIx;by_cases h:p x=true
  ·rw[if_pos h,List.any_cons,h];rfl
  ·rw[if_neg h,List.any_cons,←fstIx_any p l];cases fstIx p l<;>simp[h]
theorem fstIx_drop {α:Type}(p:α→Bool):∀(l:List α)(k:Nat),(∀x∈l.take k,p x=false)→fstIx p l=(fstIx p (l.drop k)).map (· +k)
 |l,0,_=>by simp
 |[],k+1,_=>by simp[fstIx]
 |x::l,k+1,h=>by
  have h1:=fstIx_drop p l k (fun g hg=>h g (by rw[List.take_succ_cons];exact List.mem_cons_of_mem _ hg));have h0:p x=false:=h x (by rw[List.take_succ_cons];exact List.mem_cons_self ..);rw[List.drop_succ_cons,show fstIx p (x::l)=(fstIx p l).map (· +1)from by rw[fstIx,if_neg (by rw[h0];simp)],h1,Option.map_map];congr 1
def ixOf {α:Type}(p:α→Bool)(l:List α):Int:=match fstIx p l with|some i=>i|none=> -1
theorem ixOf_ok {α:Type}(p:α→Bool)(l:List α):decide (0≤ixOf p l)=l.any p:=by
 rw[←fstIx_any];unfold ixOf;cases fstIx p l<;>simp
def isIns (p:Part):Bool:=p.kind==2
def isFull (s:Sd):Bool:=decide (40≤s.e.pending.length)
theorem isIns_any (p:Part)(w:World):Calls Tryd.prog 58 #[.agg #[.int .i64 p.kind,.int .i64 p.n,.string p.text]] w fun e w'=>e=.returned (.bool (isIns p))∧Below w.heap.size w w':=by
 unfold isIns;have HB:Hid (Below w.heap.size w (w.alloc (.cells #[.int .i64 p.kind,.int .i64 p.n,.string p.text] 53))):=(Below.refl _ _).alloc (Nat.le_refl _) _;go_enter Tryd.func58,Tryd.ntmps58;go_wp2_with fail
 go_ret
 exact⟨rfl,HB.out⟩
theorem isFull_any (s:Sd)(ea:Option Addr)(ec:Nat)(la:Option Addr)(lc:Nat)(qa:Option Addr)(qc:Nat)(w:World):Calls Tryd.prog 60 #[.agg #[.int .i64 s.peer,.bool s.joined,.int .i64 s.e.sent,.int .i64 s.e.heard,.slice ea s.e.pending.length ec,.int .i64 s.l.epoch,.int .i64 s.l.next,.slice la s.l.sent.length lc,.slice qa s.l.queue.length qc,.int .i64 s.l.heard]] w fun e w'=>e=.returned (.bool (isFull s))∧Below w.heap.size w w':=by
 have e:isFull s=decide ((40:Int)≤(s.e.pending.length:Int)):=by unfold isFull;exact decide_eq_decide.2 (by omega)
 rw[e];have HB:Hid (Below w.heap.size w (w.alloc (.cells #[.int .i64 s.peer,.bool s.joined,.int .i64 s.e.sent,.int .i64 s.e.heard,.slice ea s.e.pending.length ec,.int .i64 s.l.epoch,.int .i64 s.l.next,.slice la s.l.sent.length lc,.slice qa s.l.queue.length qc,.int .i64 s.l.heard] 72))):=(Below.refl _ _).alloc (Nat.le_refl _) _;clear e;go_enter Tryd.func60,Tryd.ntmps60;go_wp2_with fail
 go_ret
 exact⟨rfl,HB.out⟩
theorem takeNext {α:Type}(l:List α)(k:Nat)(h:k<l.length):l.take (k+1)=l.take k++[l[k]]:=List.take_succ_eq_append_getElem h
set_option maxRecDepth 100000 in
set_option maxHeartbeats 2000000 in
theorem insIx_any (l:List Part)(a:Option Addr)(n c:Nat)(w:World)(hr:RdS (· <w.heap.size) w l a n c):
 Calls Tryd.prog 80 #[.slice a n c,.func (.func 58) #[] #[]] w fun e w'=>e=.returned (.int .i64 (ixOf isIns l))∧Below w.heap.size w w':=by
 have hnl:=hr.1;have hnc:=hr.2.1;have hnm:c≤maxLen:=hr.2.2.1;unfold maxLen at hnm;obtain⟨R,hR⟩:∃R,R=ixOf isIns l:=⟨_,rfl⟩;rw[←hR];have HR:=Lib.hid hR;have Hr:=Lib.hid hr;have Hl:=Lib.hid hnl;clear hR hr hnl;go_enter Tryd.func80,Tryd.ntmps80;go_wp2_with fail;go_loopw [8] (fun i wr=>∃k:Nat,k≤n∧i=.int .i64 k∧(∀x∈l.take k,isIns x=false)∧Below w.heap.size w wr) (fun i _=>n-(intOf i).toNat)
 case atStart=>exact⟨0,by omega,rfl,by simp,Below.refl _ _⟩
 case round=>
  obtain⟨k,hk,rfl,hok,hb⟩:=hrel;have Hok:=Lib.hid hok;have HB:=Lib.hid hb;clear hok hb;by_cases hlt:k<n
  ·have hkl:k<l.length:=by have:=Hl.out;omega
   have hlt':(k:Int)<(n:Int):=by omega
   have hkc:(k:Int)<(c:Int):=by omega
   obtain⟨b,off,rfl,hAb,hbs,hcl⟩:=Hr.out.part (by omega);obtain⟨-,-,-,d0,d1,d2⟩:=hcl k hkl;have e0:=(HB.out.cell (p:=⟨b,off+k*3,none⟩) hbs).trans d0;have e1:=(HB.out.cell (p:=⟨b,off+k*3+1,none⟩) hbs).trans d1;have e2:=(HB.out.cell (p:=⟨b,off+k*3+2,none⟩) hbs).trans d2;clear d0 d1 d2;have Htk:=Lib.hid (takeNext l k hkl);have Hdr:=Lib.hid (List.drop_eq_getElem_cons hkl);have HC:=Lib.hid (isIns_any l[k] wr);generalize l[k]=x at*;clear hcl;by_cases hc:isIns x=false
   ·rw[hc]at HC;have Hc:=Lib.hid hc;clear hc;go_wp2_with fail;refine HC.out.mono ?_;rintro e w2 ⟨rfl,u2⟩;have HB2:=Lib.hid (up HB.out u2);clear u2;go_wp2_with fail;go_roundw
    case rel=>exact⟨k+1,by omega,by go_num,fun f hf=>by
     rw[Htk.out]at hf;rcases List.mem_append.1 hf with hf|hf
     ·exact Hok.out f hf
     ·rw[List.mem_singleton.1 hf];exact Hc.out,HB2.out⟩
    case measure=>simp[intOf];omega
   ·have hc1:isIns x=true:=by simpa using hc
    rw[hc1]at HC;have hRk:R=(k:Int):=by
     rw[HR.out];unfold ixOf;rw[fstIx_drop isIns l k Hok.out,Hdr.out];unfold fstIx;rw[if_pos hc1];simp
    subst hRk;clear hc hc1 HR;go_wp2_with fail;refine HC.out.mono ?_;rintro e w2 ⟨rfl,u2⟩;have HB2:=Lib.hid (up HB.out u2);clear u2;go_wp2_with fail
    go_ret
    exact⟨rfl,HB2.out⟩
  ·have hkn:k=n:=by omega
   have hRk:R= -1:=by
    rw[HR.out];unfold ixOf;rw[fstIx_drop isIns l k Hok.out,List.drop_of_length_le (by have:=Hl.out;omega)];rfl
   have hlt':¬((k:Int)<(n:Int)):=by omega
   subst hRk;clear HR hkn;go_wp2_with fail
   go_ret
   exact⟨rfl,HB.out⟩
theorem insIn_any (l:List Part)(a:Option Addr)(n c:Nat)(w:World)(hr:RdS (· <w.heap.size) w l a n c):
 Calls Tryd.prog 57 #[.slice a n c,.func (.func 58) #[] #[]] w fun e w'=>e=.returned (.bool (l.any isIns))∧Below w.heap.size w w':=by
 have HC:=Lib.hid (insIx_any l a n c w hr);have hb:=ixOf_ok isIns l;generalize ixOf isIns l=z at*;generalize l.any isIns=q at*;clear hr;cases q
 ·go_enter Tryd.func57,Tryd.ntmps57;go_wp2_with fail;refine HC.out.mono ?_;rintro e w2 ⟨rfl,u2⟩;have U2:=Lib.hid u2;clear u2;go_wp2_with fail
  go_ret
  exact⟨rfl,U2.out⟩
 ·go_enter Tryd.func57,Tryd.ntmps57;go_wp2_with fail;refine HC.out.mono ?_;rintro e w2 ⟨rfl,u2⟩;have U2:=Lib.hid u2;clear u2;go_wp2_with fail
  go_ret
  exact⟨rfl,U2.out⟩
set_option maxRecDepth 100000 in
set_option maxHeartbeats 2000000 in
theorem fullIx_any (l:List Sd)(a:Option Addr)(n c:Nat)(w:World)(hr:RdS (· <w.heap.size) w l a n c):
 Calls Tryd.prog 38 #[.slice a n c,.func (.func 60) #[] #[]] w fun e w'=>e=.returned (.int .i64 (ixOf isFull l))∧Below w.heap.size w w':=by
 have hnl:=hr.1;have hnc:=hr.2.1;have hnm:c≤maxLen:=hr.2.2.1;unfold maxLen at hnm;obtain⟨R,hR⟩:∃R,R=ixOf isFull l:=⟨_,rfl⟩;rw[←hR];have HR:=Lib.hid hR;have Hr:=Lib.hid hr;have Hl:=Lib.hid hnl;clear hR hr hnl;go_enter Tryd.func38,Tryd.ntmps38;go_wp2_with fail;go_loopw [8] (fun i wr=>∃k:Nat,k≤n∧i=.int .i64 k∧(∀x∈l.take k,isFull x=false)∧Below w.heap.size w wr) (fun i _=>n-(intOf i).toNat)
 case atStart=>exact⟨0,by omega,rfl,by simp,Below.refl _ _⟩
 case round=>
  obtain⟨k,hk,rfl,hok,hb⟩:=hrel;have Hok:=Lib.hid hok;have HB:=Lib.hid hb;clear hok hb;by_cases hlt:k<n
  ·have hkl:k<l.length:=by have:=Hl.out;omega
   have hlt':(k:Int)<(n:Int):=by omega
   have hkc:(k:Int)<(c:Int):=by omega
   obtain⟨sb,so,xs,rfl,hA,hsb,⟨ea,ec,la,lc,qa,qc,rfl,-⟩,hcl⟩:=(Hr.out.go HB.out).elem k hkl;have y0:wr.cell? ⟨sb,so+k*10,none⟩=some _:=hcl 0 _ rfl;have y1:wr.cell? ⟨sb,so+k*10+1,none⟩=some _:=hcl 1 _ rfl;have y2:wr.cell? ⟨sb,so+k*10+2,none⟩=some _:=hcl 2 _ rfl;have y3:wr.cell? ⟨sb,so+k*10+3,none⟩=some _:=hcl 3 _ rfl;have y4:wr.cell? ⟨sb,so+k*10+4,none⟩=some _:=hcl 4 _ rfl;have y5:wr.cell? ⟨sb,so+k*10+5,none⟩=some _:=hcl 5 _ rfl;have y6:wr.cell? ⟨sb,so+k*10+6,none⟩=some _:=hcl 6 _ rfl;have y7:wr.cell? ⟨sb,so+k*10+7,none⟩=some _:=hcl 7 _ rfl;have y8:wr.cell? ⟨sb,so+k*10+8,none⟩=some _:=hcl 8 _ rfl;have y9:wr.cell? ⟨sb,so+k*10+9,none⟩=some _:=hcl 9 _ rfl;have Htk:=Lib.hid (takeNext l k hkl);have Hdr:=Lib.hid (List.drop_eq_getElem_cons hkl);have HC:=Lib.hid (isFull_any l[k] ea ec la lc qa qc wr);generalize l[k]=x at*;clear hcl;by_cases hc:isFull x=false
   ·rw[hc]at HC;have Hc:=Lib.hid hc;clear hc;go_wp2_with fail;refine HC.out.mono ?_;rintro e w2 ⟨rfl,u2⟩;have HB2:=Lib.hid (up HB.out u2);clear u2;go_wp2_with fail;go_roundw
    case rel=>exact⟨k+1,by omega,by go_num,fun f hf=>by
     rw[Htk.out]at hf;rcases List.mem_append.1 hf with hf|hf
     ·exact Hok.out f hf
     ·rw[List.mem_singleton.1 hf];exact Hc.out,HB2.out⟩
    case measure=>simp[intOf];omega
   ·have hc1:isFull x=true:=by simpa using hc
    rw[hc1]at HC;have hRk:R=(k:Int):=by
     rw[HR.out];unfold ixOf;rw[fstIx_drop isFull l k Hok.out,Hdr.out];unfold fstIx;rw[if_pos hc1];simp
    subst hRk;clear hc hc1 HR;go_wp2_with fail;refine HC.out.mono ?_;rintro e w2 ⟨rfl,u2⟩;have HB2:=Lib.hid (up HB.out u2);clear u2;go_wp2_with fail
    go_ret
    exact⟨rfl,HB2.out⟩
  ·have hkn:k=n:=by omega
   have hRk:R= -1:=by
    rw[HR.out];unfold ixOf;rw[fstIx_drop isFull l k Hok.out,List.drop_of_length_le (by have:=Hl.out;omega)];rfl
   have hlt':¬((k:Int)<(n:Int)):=by omega
   subst hRk;clear HR hkn;go_wp2_with fail
   go_ret
   exact⟨rfl,HB.out⟩
theorem fullIn_any (l:List Sd)(a:Option Addr)(n c:Nat)(w:World)(hr:RdS (· <w.heap.size) w l a n c):
 Calls Tryd.prog 59 #[.slice a n c,.func (.func 60) #[] #[]] w fun e w'=>e=.returned (.bool (l.any isFull))∧Below w.heap.size w w':=by
 have HC:=Lib.hid (fullIx_any l a n c w hr);have hb:=ixOf_ok isFull l;generalize ixOf isFull l=z at*;generalize l.any isFull=q at*;clear hr;cases q
 ·go_enter Tryd.func59,Tryd.ntmps59;go_wp2_with fail;refine HC.out.mono ?_;rintro e w2 ⟨rfl,u2⟩;have U2:=Lib.hid u2;clear u2;go_wp2_with fail
  go_ret
  exact⟨rfl,U2.out⟩
 ·go_enter Tryd.func59,Tryd.ntmps59;go_wp2_with fail;refine HC.out.mono ?_;rintro e w2 ⟨rfl,u2⟩;have U2:=Lib.hid u2;clear u2;go_wp2_with fail
  go_ret
  exact⟨rfl,U2.out⟩
end Go.Proofs.YtkbfhgcjimfgkaaDoor
set_option linter.unusedSimpArgs false
namespace Go.Proofs.YtkbfhgcjimfgkaaDoor
open Go.RowKit
set_option maxRecDepth 100000 in
set_option maxHeartbeats 1000000 in
theorem ndFrames_any (l:List Fr)(a:Option Addr)(n c:Nat)(w:World)(hr:RdS (· <w.heap.size) w l a n c)(hlen:∀f∈l,f.op.length≤1000000000)(hn:n≤1048576):
 Calls Tryd.prog 76 #[.slice a n c] w (RowP l w):=by
 have hnl:=hr.1;have hcm:=hr.2.2.1;have hnc:=hr.2.1;unfold maxLen at hcm;have Hl:=Lib.hid hnl;have Hr:=Lib.hid hr;have Hlen:=Lib.hid hlen;clear hnl hr hlen;obtain⟨i0,hi,hz0,hz1,hz2⟩:=info_parts infoF;have Hi:=Lib.hid hi;have Hz0:=Lib.hid hz0;have Hz1:=Lib.hid hz1;have Hz2:=Lib.hid hz2;have Hpost:Hid (∀v W,OwnO (· <w.heap.size) w.heap.size v l W→Below w.heap.size w W→RowP l w (.returned v) W):=fun v W h1 h2=>⟨v,rfl,h1,h2⟩;generalize RowP l w=RP at*;clear hi hz0 hz1 hz2;go_enter Tryd.func76,Tryd.ntmps76;go_wp2_with fail;go_loopw [3,8] (fun out vi wr=>∃k:Nat,k≤n∧vi=.int .i64 (k:Int)∧OwnO (· <w.heap.size) w.heap.size out (l.take k) wr∧Below w.heap.size w wr) (fun _ vi _=>n-(intOf vi).toNat)
 case atStart=>exact⟨0,by omega,rfl,OwnO.nil,Below.refl _ _⟩
 case round=>
  obtain⟨k,hk,rfl,ho,hb⟩:=hrel;have HO:=Lib.hid ho;have HB:=Lib.hid hb;have hbz:=hb.size;obtain⟨xa,xc,rfl⟩:=own_app HO.out;by_cases hlt:k<n
  ·have hlt':(k:Int)<(n:Int):=by omega
   obtain⟨b,off,rfl,hAb,hbs,hcs⟩:=Hr.out.frame (by omega);have hkl:k<l.length:=by have:=Hl.out;omega
   obtain⟨ak,nk,ck,hrk,hfk,d0,d1,d2,d3,d4⟩:=hcs k hkl;have e0:=(hb.cell (p:=⟨b,off+k*5,none⟩) hbs).trans d0;have e1:=(hb.cell (p:=⟨b,off+k*5+1,none⟩) hbs).trans d1;have e2:=(hb.cell (p:=⟨b,off+k*5+1+1,none⟩) hbs).trans d2;have e3:=(hb.cell (p:=⟨b,off+k*5+1+1+1,none⟩) hbs).trans d3;have e4:=(hb.cell (p:=⟨b,off+k*5+1+1+1+1,none⟩) hbs).trans d4;have Hk:=Lib.hid (take_nextF l k hkl);have hnk:=hrk.1;have hlk:=Hlen.out l[k] (List.getElem_mem hkl);have Hcl:=Lib.hid (fun W hW=>clone_any l[k].op ak nk ck W ((hrk.go hb).go (w':=W) hW) (by omega));have htl:(l.take k).length=k:=by rw[List.length_take];omega
   generalize hol:l[k]=f at*;generalize l.take k=lk at*;have Htl:=Lib.hid htl;have Hfk:=Lib.hid hfk;have hck:(k:Int)<(c:Int):=by omega
   have hkb:k≤1048576:=by omega
   clear hcs hrk hol d0 d1 d2 d3 d4 ho hb htl hnk hlk hfk;go_wp2_with fail;refine abs_run (fun W=>Below wr.heap.size wr W∧Blk wr.heap.size (.cells #[.int .i64 f.kind,.int .i64 f.heard,.int .i64 f.epoch,.slice ak nk ck,.string f.text] 44 (0,0)) W) ⟨(Below.refl _ _).alloc (Nat.le_refl _) _,Blk.new wr _⟩ ?_;rintro w0 ⟨b0,x0⟩;have B0:=Lib.hid b0;have hz0:=b0.size;have hl0:=x0.lt;refine(Hcl.out w0 b0).mono ?_;rintro e w1 ⟨ca,cc,rfl,hrc,b1⟩;have hz1:=b1.size;have X1:=Lib.hid (x0.go b1);have HB1':=Lib.hid (up B0.out b1);have y0:w1.cell? ⟨wr.heap.size,3,none⟩=some _:=X1.out.cell 3;have y1:=X1.out.frozen 3;clear b0 x0 b1 Hcl e0 e1 e2 e3 e4 B0;go_upto_region 6 with fail;refine abs_w (fun W=>Blk wr.heap.size (.cells #[.int .i64 f.kind,.int .i64 f.heard,.int .i64 f.epoch,.slice ca f.op.length cc,.string f.text] 44 (0,0)) W∧Touch (fun z=>z=wr.heap.size) w1 W) ⟨X1.out.set 3 _,Touch.setCell (S:=fun z=>z=wr.heap.size) (Touch.refl _ _) (.inl rfl) _⟩ ?_;rintro w2 ⟨x2,t2⟩;have ht2:=t2.size;obtain⟨k0,k1,k2,k3,k4⟩:=blk_cells5 x2;have b2:Below wr.heap.size wr w2:=HB1'.out.trans (t2.toBelow (by omega) (fun z hz=>by omega));have HO2:=Lib.hid (HO.out.go b2);have HB2:=Lib.hid (up HB.out b2);have HRC2:=Lib.hid (hrc.mono (A':=fun z=>z<(w2.alloc (.cells #[.int .i64 f.kind,.int .i64 f.heard,.int .i64 f.epoch,.slice ca f.op.length cc,.string f.text] 44)).heap.size∧¬z<w.heap.size∧(Value.slice xa lk.length xc).ownBlock≠some z) (w':=w2.alloc (.cells #[.int .i64 f.kind,.int .i64 f.heard,.int .i64 f.epoch,.slice ca f.op.length cc,.string f.text] 44)) (fun z hz=>⟨⟨by rw[alloc_sz];omega,by omega,fun e=>by have:=(HO.out.rowlt z e).2;omega⟩,(((Below.refl w2.heap.size w2).alloc (Nat.le_refl _) _).block z (by omega)).trans (t2.block z hz.2 (by omega))⟩));clear x2 X1 y0 y1 hrc t2 b2;go_wp2_with (at_builtin;refine wpList_append_oneO rfl _ _ _ (by rfl) w.heap.size 44 i0 _ 64 Tryd.underlying68 Hi.out Hz0.out Hz1.out Hz2.out rfl (.slice xa lk.length xc) lk (by rfl) (HO2.out.go ((Below.refl _ w2).alloc (Nat.le_refl _) _)) w2.heap.size 1 _ [.int .i64 f.kind,.int .i64 f.heard,.int .i64 f.epoch,.slice ca f.op.length cc,.string f.text] f (by rfl) (Blk.new w2 _) ⟨ca,_,cc,rfl,HRC2.out,Hfk.out⟩ (by have:=Htl.out;unfold maxLen;omega) (by have:=Htl.out;omega) (by simp;omega) ?_);intro g2 o2 cap w3 hown hgrow hat hlt2;have HO3:=Lib.hid hown;have HB3:=Lib.hid ((HB2.out.alloc (by omega) (.cells #[.int .i64 f.kind,.int .i64 f.heard,.int .i64 f.epoch,.slice ca f.op.length cc,.string f.text] 44)).grown hgrow (by simp;omega) (fun k hk=>(HO2.out.rowlt k hk).1));clear hown hgrow hat;go_wp2_with fail;go_roundw
   case rel=>exact⟨k+1,by omega,by push_cast;rfl,by rw[Hk.out];exact HO3.out,HB3.out⟩
   case measure=>simp[intOf];omega
  ·have hkn:k=l.length:=by have:=Hl.out;omega
   have HE:Hid (l.take k=l):=by unfold Hid;rw[hkn,List.take_length]
   have hlt':¬((k:Int)<(n:Int)):=by omega
   clear ho hb hkn;generalize l.take k=lk at*;go_wp2_with fail;have e:=HE.out;subst e;exact Hpost.out _ _ HO.out HB.out
end Go.Proofs.YtkbfhgcjimfgkaaDoor
set_option linter.unusedSimpArgs false
namespace Go.Proofs.YtkbfhgcjimfgkaaDoor
open Go.RowKit
theorem run_append_zero {P:Program}{w:World}(t ty e:TypeId)(i:TypeInfo)(ht:P.underlying t=some (.slice e))(hi:P.info? e=some i)(a:Option Addr)(n c:Nat)(hnc:n≤c)(hn:a=none→c=0)(pa:Option Addr)(pc:Nat):
 (Builtin.append_ #[t,t] ty #[.slice a n c,.slice pa 0 pc]).run P w=.ok (.slice a n c) w:=by
 cases pa with
 |none=>
  cases a with
  |none=>
   have hc:=hn rfl;subst hc;have hn0:n=0:=by omega
   subst hn0;simp[Builtin.append_,run_underlying ht,sizeOf,typeInfo,hi,Builtin.lenOf,Builtin.firstCells]
  |some b=>
   simp[Builtin.append_,run_underlying ht,sizeOf,typeInfo,hi,Builtin.lenOf,Builtin.firstCells,hnc,storeCells]
 |some ad=>
  have hl:(loadCells ad 0).run P w=.ok #[] w:=by simp[loadCells,loadCellsFrom]
  cases a with
  |none=>
   have hc:=hn rfl;subst hc;have hn0:n=0:=by omega
   subst hn0;simp[Builtin.append_,run_underlying ht,sizeOf,typeInfo,hi,Builtin.lenOf,Builtin.firstCells,hl,Result.andThen,storeCells]
  |some b=>
   simp[Builtin.append_,run_underlying ht,sizeOf,typeInfo,hi,Builtin.lenOf,Builtin.firstCells,hnc,storeCells,hl,Result.andThen]
theorem wpList_append_zero {P:Program}{w:World}{ops:Array Oper}{rest:List Oper}{o:Oper}{a:Act}{Q:Exit→Act→World→Prop}(hgd:o.guard=none)(s x:Operand)(t:TypeId)
 (ho:o.op=.call {callee:=.builtin .append,args:=#[s,x],argTypes:=#[t,t]})
 (e:TypeId) (i:TypeInfo) (ht:P.underlying t=some (.slice e)) (hi:P.info? e=some i)
 (va:Option Addr) (n c:Nat) (hs:a.eval s=.slice va n c) (hnc:n≤c) (hn:va=none→c=0) (pa:Option Addr) (pc:Nat) (hx:a.eval x=.slice pa 0 pc)
 (h:wpList P ops Q rest (a.put o.dst (.slice va n c)) w):wpList P ops Q (o::rest) a w:=by
 refine wpList_plain hgd fun K hK'=>?_;have hrun:=run_append_zero (P:=P) (w:=w) t o.type e i ht hi va n c hnc hn pa pc;unfold Oper.wp;simp[execOp,ho,resolve,invoke,builtin,hs,hx,hrun,Result.andThen];exact hK' _ _ h
end Go.Proofs.YtkbfhgcjimfgkaaDoor
set_option linter.unusedSimpArgs false
namespace Go.Proofs.YtkbfhgcjimfgkaaDoor
open Go.RowKit
theorem infoM:(Tryd.prog.info? 58).map (fun i=>(i.zero,i.size,i.bytes))=some (some (.agg #[.int .i64 0,.int .i64 0]),2,16):=by kernel_rfl
set_option maxRecDepth 100000 in
set_option maxHeartbeats 1000000 in
theorem marks_any (l:List Mk)(a:Option Addr)(n c:Nat)(w:World)(hr:RdS (· <w.heap.size) w l a n c)(hn:n≤1048576):
 Calls Tryd.prog 74 #[.slice a n c] w (RowP l w):=by
 obtain⟨i0,hi,hz0,hz1,hz2⟩:=info_parts infoM;have hnl:=hr.1;have hcm:=hr.2.2.1;have hnc:=hr.2.1;have hca:=hr.2.2.2.1;unfold maxLen at hcm;have Hpost:Hid (∀v W,OwnO (· <w.heap.size) w.heap.size v l W→Below w.heap.size w W→RowP l w (.returned v) W):=fun v W h1 h2=>⟨v,rfl,h1,h2⟩;generalize RowP l w=RP at*;have HN:Hid (OwnO (α:=Mk) (· <w.heap.size) w.heap.size (.slice (some ⟨w.heap.size,0,none⟩) 0 0) [] (w.alloc (.cells #[] 58))):=⟨.inl ⟨_,rfl,rfl,fun k hk=>by
  have:w.heap.size=k:=by simpa[Value.ownBlock]using hk
  subst this;rw[alloc_sz];omega⟩⟩
 by_cases h0:n=0
 ·have ho:l=[]:=List.eq_nil_of_length_eq_zero (by omega);subst ho h0;clear hr hnl;cases a with
  |none=>
   have hc0:c=0:=hca rfl;subst hc0;clear hca;have heq:=fun W:World=>Lib.run_eql_slice_nil (P:=Tryd.prog) W 29 58 none 0 0 0 0 Tryd.underlying29;go_enter Tryd.func74,Tryd.ntmps74;go_wp2_with fail;exact Hpost.out _ _ OwnO.nil (Below.refl _ _)
  |some ad=>
   clear hca;have heq:=fun W:World=>Lib.run_eql_slice_nil (P:=Tryd.prog) W 29 58 (some ad) 0 c 0 0 Tryd.underlying29;go_enter Tryd.func74,Tryd.ntmps74;go_wp2_with (at_builtin;refine wpList_append_zero rfl _ _ _ (by rfl) 58 i0 Tryd.underlying29 hi (some ⟨w.heap.size,0,none⟩) 0 0 (by rfl) (by omega) nofun (some ad) c (by rfl) ?_);exact Hpost.out _ _ HN.out ((Below.refl _ _).alloc (Nat.le_refl _) _)
 ·obtain⟨b,off,rfl,_,hbs,he⟩:=hr.2.2.2.2 (by omega);have He:Hid (∀X:Nat→Prop,Elems X (w.alloc (.cells #[] 58)) b off l):=fun X i x hx=>by
   obtain⟨xs,h1,h2⟩:=he i x hx;exact⟨xs,h1,fun j u hu=>((bcell ((Below.refl w.heap.size w).alloc (Nat.le_refl _) (.cells #[] 58))).1 b _ hbs).trans (h2 j u hu)⟩
  subst hnl;have hpos:0<l.length:=by omega
  clear hr he hca h0;have heq:=fun W:World=>Lib.run_eql_slice_nil (P:=Tryd.prog) W 29 58 (some ⟨b,off,none⟩) l.length c 0 0 Tryd.underlying29;go_enter Tryd.func74,Tryd.ntmps74;go_wp2_with (at_builtin;refine wpList_append_manyO rfl _ _ _ (by rfl) w.heap.size 58 i0 _ 16 Tryd.underlying29 hi hz0 hz1 hz2 rfl (.slice (some ⟨w.heap.size,0,none⟩) 0 0) [] l (by rfl) HN.out b off c (by rfl) (He.out _) hpos (by unfold maxLen;simp;omega) (by simp;omega) (by simp) ?_);intro gg o2 cap w1 hown1 hgrow hat hlt1;have HO:=Lib.hid hown1;have HB:=Lib.hid (((Below.refl w.heap.size w).alloc (Nat.le_refl _) (.cells #[] 58)).grown hgrow (by simp) (fun g hg=>by simp[Value.ownBlock]at hg;omega));clear hown1 hgrow hat;go_wp2_with fail;exact Hpost.out _ _ (by simpa using HO.out) HB.out
end Go.Proofs.YtkbfhgcjimfgkaaDoor
namespace Go.Proofs.YtkbfhgcjimfgkaaDoor
open Go.RowKit
theorem RdS.int {A:Nat→Prop}{w:World}{l:List Int}{a:Option Addr}{n c:Nat}(hr:RdS A w l a n c)(hn:0<n):
 ∃b off,a=some ⟨b,off,none⟩∧A b∧b<w.heap.size∧∀i (h:i<l.length),I64 l[i]∧w.cell? ⟨b,off+i,none⟩=some (.int .i64 l[i]):=by
 obtain⟨b,off,e,hA,hb,he⟩:=hr.2.2.2.2 hn;refine⟨b,off,e,hA,hb,fun i h=>?_⟩;obtain⟨xs,⟨rfl,h1⟩,h4⟩:=he i l[i] (List.getElem?_eq_getElem h);have h5:=h4 0 _ rfl;refine⟨h1,?_⟩;simpa[Rep.n]using h5
def okAt (i:Nat)(p:Int):Prop:=(i=0→p= -1)∧(0<i→0≤p∧p<i)
instance (i:Nat)(p:Int):Decidable (okAt i p):=by unfold okAt;infer_instance
def okTree (l:List Int):Prop:=∀i (h:i<l.length),okAt i l[i]
instance (l:List Int):Decidable (okTree l):=by unfold okTree;infer_instance
def checkTree (l:List Int):Int:=if l.length<1∨7<l.length then 1 else if okTree l then 0 else 4
set_option maxHeartbeats 1000000 in
set_option maxRecDepth 100000 in
theorem checkTree_any (A:Nat→Prop)(a:Option Addr)(n c:Nat)(l:List Int)(w:World)(hr:RdS A w l a n c):
 Calls Tryd.prog 24 #[.slice a n c] w fun e w'=>e=.returned (.int .i64 (checkTree l))∧w=w':=by
 have hl:n=l.length:=hr.1;have hnm:n≤maxLen:=by have h1:=hr.2.1;have h2:=hr.2.2.1;omega
 unfold maxLen at hnm;by_cases h1:l.length<1∨7<l.length
 ·have hfin:checkTree l=1:=by rw[checkTree,if_pos h1]
  rw[hfin];clear hfin;rcases h1 with h1|h1
  all_goals
   rw[←hl]at h1;clear hl;go_enter Tryd.func24,Tryd.ntmps24
   go_wp2
   go_ret
   exact⟨rfl,rfl⟩
 ·obtain⟨b,off,rfl,_,_,hc⟩:=hr.int (by omega);have h2:1≤n:=by omega
  have h3:n≤7:=by omega
  have HF:Hid (checkTree l=if okTree l then 0 else 4):=by unfold Hid;rw[checkTree,if_neg h1]
  have Hl:=Lib.hid hl;have Hc:=Lib.hid hc;clear hl h1 hc hr;go_enter Tryd.func24,Tryd.ntmps24
  go_wp2
  go_loop [15] (fun i=>∃k:Nat,k≤n∧i=.int .i64 k∧∀i (h:i<l.length),i<k→okAt i l[i]) (fun i=>n-(intOf i).toNat)
  case atStart=>exact⟨0,by omega,rfl,fun i _ hi=>absurd hi (by omega)⟩
  case round=>
   obtain⟨k,hk,rfl,hall⟩:=hrel;have HA:=Lib.hid hall;clear hall;by_cases hlt:k<n
   ·have hkl:k<l.length:=by have:=Hl.out;omega
    obtain⟨_,hcell⟩:=Hc.out k hkl;have Hnext:Hid (okAt k l[k]→∀i (h:i<l.length),i<k+1→okAt i l[i]):=by
     unfold Hid;intro h0 i hi hlt2;by_cases he:i=k
     ·subst he;exact h0
     ·exact HA.out i hi (by omega)
    have Hbad:Hid (¬okAt k l[k]→checkTree l=4):=by
     unfold Hid;intro h0;rw[HF.out,if_neg (fun h=>h0 (h k hkl))]
    generalize l[k]=p at*;by_cases hok:okAt k p
    ·have Hn:=Lib.hid (Hnext.out hok);clear Hnext Hbad HF HA;rcases Nat.eq_zero_or_pos k with h0|h0
     ·obtain rfl:=hok.1 h0;subst h0;clear hok;simp only[Nat.add_zero]at hcell
      go_wp2
      go_round
      case rel=>exact⟨1,by omega,by go_num,Hn.out⟩
      case measure=>simp[intOf];omega
     ·obtain⟨g1,g2⟩:=hok.2 h0;have hk0:((k:Int)==0)=false:=by simp;omega
      clear hok
      go_wp2
      go_round
      case rel=>exact⟨k+1,by omega,by go_num,Hn.out⟩
      case measure=>simp[intOf];omega
    ·have Hb:=Lib.hid (Hbad.out hok);clear Hnext Hbad HF HA;have hok':=hok;unfold okAt at hok';rcases Nat.eq_zero_or_pos k with h0|h0
     ·subst h0;have hp:(p != -1)=true:=by simp;intro h;exact hok' ⟨fun _=>h,fun h=>absurd h (by omega)⟩
      clear hok hok';simp only[Nat.add_zero]at hcell
      go_wp2
      go_ret
      exact⟨ret_int Hb.out.symm,rfl⟩
     ·have hk0:((k:Int)==0)=false:=by simp;omega
      have hp:p<0∨(k:Int)≤p:=by
       by_cases h:p<0
       ·exact .inl h
       ·by_cases h':(k:Int)≤p
        ·exact .inr h'
        ·exact absurd ⟨fun h=>absurd h (by omega),fun _=>⟨by omega,by omega⟩⟩ hok'
      clear hok hok';rcases hp with hp|hp
      ·go_wp2
       go_ret
       exact⟨ret_int Hb.out.symm,rfl⟩
      ·go_wp2
       go_ret
       exact⟨ret_int Hb.out.symm,rfl⟩
   ·have hfin:checkTree l=0:=by
     rw[HF.out,if_pos];intro i hi;exact HA.out i hi (by have:=Hl.out;omega)
    have HFF:=Lib.hid hfin;clear hfin HF HA
    go_wp2
    go_ret
    exact⟨ret_int HFF.out.symm,rfl⟩
theorem info3:(Tryd.prog.info? 3).map (fun i=>(i.zero,i.size,i.bytes))=some (some (.int .i64 0),1,8):=by kernel_rfl
end Go.Proofs.YtkbfhgcjimfgkaaDoor
set_option linter.unusedSimpArgs false
namespace Go.Proofs.YtkbfhgcjimfgkaaDoor
open Go.RowKit
def kidsTo (t:List Int)(me:Int)(k:Nat):List Int:=((List.range k).filter (fun i=>t.getD i 0==me)).map Int.ofNat
def nbsAhead (t:List Int)(me:Int):List Int:=if 0<me then [t.getD me.toNat 0]else []
def nbs (t:List Int)(me:Int):List Int:=nbsAhead t me++kidsTo t me t.length
theorem kidsTo_succ (t:List Int)(me:Int)(k:Nat):kidsTo t me (k+1)=kidsTo t me k++(if t.getD k 0==me then [(k:Int)]else []):=by
 unfold kidsTo;rw[List.range_succ,List.filter_append,List.map_append];by_cases h:t.getD k 0==me
 ·rw[if_pos h,List.filter_cons,if_pos h];rfl
 ·rw[if_neg h,List.filter_cons,if_neg h];rfl
theorem kidsTo_len (t:List Int)(me:Int)(k:Nat):(kidsTo t me k).length≤k:=by
 unfold kidsTo;rw[List.length_map];have:=List.length_filter_le (fun i=>t.getD i 0==me) (List.range k);simpa using this
theorem nbsAhead_len (t:List Int)(me:Int):(nbsAhead t me).length≤1:=by unfold nbsAhead;split<;>simp
theorem ints_app {w:World}{base:Nat}{v:Value}{l:List Int}(h:OwnO (fun _=>False) base v l w):∃a c,v=.slice a l.length c:=by
 obtain⟨a,c,hv,-⟩:=h.form;exact⟨a,c,hv⟩
theorem OwnO.rdI {w:World}{base:Nat}{v:Value}{l:List Int}(h:OwnO (fun _=>False) base v l w):∃a c,v=.slice a l.length c∧RdS (· <w.heap.size) w l a l.length c:=h.rd (fun b hb _=>hb) (fun k hk=>(h.rowlt k hk).2)
theorem rd_int {A:Nat→Prop}{w:World}{x:Int}(h:I64 x):Rep.rd A w x [.int .i64 x]:=⟨rfl,h⟩
set_option maxRecDepth 100000 in
set_option maxHeartbeats 1000000 in
theorem nbs_any (t:List Int)(a:Option Addr)(n c:Nat)(m:Nat)(w:World)(hr:RdS (· <w.heap.size) w t a n c)(h1:m<n)(hn:n≤1000):
 Calls Tryd.prog 26 #[.slice a n c,.int .i64 (m:Int)] w fun e w'=>∃v,e=.returned v∧OwnO (fun _=>False) w.heap.size v (nbs t (m:Int)) w'∧Below w.heap.size w w':=by
 obtain⟨g,off,rfl,hg,hgs,hcl⟩:=hr.int (by omega);have hnl:=hr.1;have hnc:=hr.2.1;have hcm:=hr.2.2.1;unfold maxLen at hcm;obtain⟨i0,hi,hz0,hz1,hz2⟩:=info_parts info3;have Hcl:=Lib.hid hcl;have Hi:=Lib.hid hi;have Hz0:=Lib.hid hz0;have Hz1:=Lib.hid hz1;have Hz2:=Lib.hid hz2;have Hnl:=Lib.hid hnl;have hn':(n:Int)≤1000:=by omega
 have hm':(m:Int)<(n:Int):=by omega
 have hm0:(0:Int)≤(m:Int):=by omega
 clear hr hcl hi hz0 hz1 hz2 hnl;go_enter Tryd.func26,Tryd.ntmps26;go_upto_if 9 with fail;obtain⟨z0,hz0⟩:∃z,z=Value.slice none 0 0:=⟨_,rfl⟩;rw[←hz0];have Z0:Hid (∀W,OwnO (fun _=>False) w.heap.size z0 ([]:List Int) W):=fun W=>by rw[hz0];exact OwnO.nil
 have Z1:Hid (z0.ownBlock=none):=by rw[hz0];rfl
 clear hz0;generalize hB:decide (0<m)=B;have HB:=Lib.hid hB;clear hB;go_cut [5]from 10 to 16 (fun out W=>OwnO (fun _=>False) w.heap.size out (nbsAhead t (m:Int)) W∧Below w.heap.size w W)
 case first=>
  cases B with
  |true=>
   have h0:0<m:=by simpa using HB.out
   have h0':(0:Int)<(m:Int):=by omega
   obtain⟨ht64,hc⟩:=Hcl.out m (by have:=Hnl.out;omega);have hE:nbsAhead t (m:Int)=[t[m]'(by have:=Hnl.out;omega)]:=by
    unfold nbsAhead;rw[if_pos h0'];have:m<t.length:=by have:=Hnl.out;omega
    simp[List.getD_eq_getElem?_getD,this]
   generalize t[m]'(by have:=Hnl.out;omega)=x at*;have Hx:=Lib.hid ht64;have HE:=Lib.hid hE;clear hE ht64;go_wp2_with (at_builtin;refine wpList_append_oneO rfl _ _ _ (by rfl) w.heap.size 3 i0 _ 8 Tryd.underlying22 Hi.out Hz0.out Hz1.out Hz2.out rfl z0 ([]:List Int) (by rfl) (Z0.out _) w.heap.size 1 _ [.int .i64 x] x (by rfl) (Blk.new w _) (rd_int Hx.out) (by unfold maxLen;simp) (by simp) (by simp) ?_);intro g2 o2 cap w2 hown hgrow hat hlt;have HO:=Lib.hid hown;have HB:=Lib.hid (((Below.refl w.heap.size w).alloc (Nat.le_refl _) (.cells #[.int .i64 x] 3)).grown hgrow (by simp) (fun k hk=>by rw[Z1.out]at hk;cases hk));clear hown hgrow;go_wp2_with fail;go_meet
   case rel=>rw[HE.out];exact⟨HO.out,HB.out⟩
  |false=>
   have h0':¬(0:Int)<(m:Int):=by have:=HB.out;simp at this;omega
   have hE:nbsAhead t (m:Int)=[]:=by unfold nbsAhead;rw[if_neg h0']
   have HE:=Lib.hid hE;clear hE;go_wp2_with fail;go_meet
   case rel=>rw[HE.out];exact⟨Z0.out _,Below.refl _ _⟩
 case rest=>
  obtain⟨ho,hb⟩:=hcut;have HO:=Lib.hid ho;have HB:=Lib.hid hb;clear ho hb;obtain⟨oa,oc,hov⟩:=ints_app HO.out;have hk0:kidsTo t (m:Int) 0=[]:=rfl;have Hk0:=Lib.hid hk0;have Hov:=Lib.hid hov;clear hov hk0;go_wp2_with fail;go_loopw [5,19] (fun out vi wr=>∃k:Nat,k≤n∧vi=.int .i64 (k:Int)∧OwnO (fun _=>False) w.heap.size out (nbsAhead t (m:Int)++kidsTo t (m:Int) k) wr∧Below w.heap.size w wr) (fun _ vi _=>n-(intOf vi).toNat)
  case atStart=>exact⟨0,by omega,rfl,by rw[Hk0.out,List.append_nil];exact HO.out,HB.out⟩
  case round=>
   obtain⟨k,hk,rfl,ho,hb⟩:=hrel;have HO2:=Lib.hid ho;have HB2:=Lib.hid hb;have hks:=kidsTo_succ t (m:Int) k;have hkl:=kidsTo_len t (m:Int) k;have hal:=nbsAhead_len t (m:Int);obtain⟨xa,xc,rfl⟩:=ints_app HO2.out;have Hkl:Hid ((nbsAhead t (m:Int)++kidsTo t (m:Int) k).length≤k+1):=by unfold Hid;rw[List.length_append];omega
   have Hks:Hid (nbsAhead t (m:Int)++kidsTo t (m:Int) (k+1)=(nbsAhead t (m:Int)++kidsTo t (m:Int) k)++(if t.getD k 0==(m:Int)then [(k:Int)]else [])):=by unfold Hid;rw[hks,List.append_assoc]
   have Hend:Hid (k=n→nbsAhead t (m:Int)++kidsTo t (m:Int) k=nbs t (m:Int)):=by
    intro e;unfold nbs;rw[e,Hnl.out]
   generalize nbsAhead t (m:Int)++kidsTo t (m:Int) k=L at*;clear ho hb hkl hal HO HB hks;by_cases hlt:k<n
   ·have hlt':(k:Int)<(n:Int):=by omega
    have hkt:k<t.length:=by have:=Hnl.out;omega
    obtain⟨hp64,hpc⟩:=Hcl.out k hkt;have hgd:t.getD k 0=t[k]:=by simp[List.getD_eq_getElem?_getD,hkt]
    rw[hgd]at Hks;generalize t[k]=p at*;have hpc2:=(bcell HB2.out).1 g (off+k) hgs;rw[hpc]at hpc2;have hbz:=HB2.out.size;have hk64:I64 (k:Int):=by unfold I64;omega
    have Hk64:=Lib.hid hk64;clear hpc hgd hp64 hk64;by_cases hpm:p=(m:Int)
    ·have hb:(p==(m:Int))=true:=by simpa using hpm
     have HKS:Hid (nbsAhead t (m:Int)++kidsTo t (m:Int) (k+1)=L++[(k:Int)]):=by unfold Hid;rw[Hks.out,if_pos hb]
     subst hpm;go_wp2_with (at_builtin;refine wpList_append_oneO rfl _ _ _ (by rfl) w.heap.size 3 i0 _ 8 Tryd.underlying22 Hi.out Hz0.out Hz1.out Hz2.out rfl (.slice xa L.length xc) L (by rfl) (HO2.out.go ((Below.refl _ wr).alloc (Nat.le_refl _) _)) wr.heap.size 1 _ [.int .i64 (k:Int)] (k:Int) (by rfl) (Blk.new wr _) (rd_int Hk64.out) (by have:=Hkl.out;unfold maxLen;omega) (by have:=Hkl.out;omega) (by simp;omega) ?_);intro g2 o2 cap w2 hown hgrow hat hlt2;have HO3:=Lib.hid hown;have HB3:=Lib.hid ((HB2.out.alloc hbz (.cells #[.int .i64 (k:Int)] 3)).grown hgrow (by simp;omega) (fun k hk=>(HO2.out.rowlt k hk).1));have Hat:=Lib.hid hat;clear hown hgrow hat;go_wp2_with fail;go_roundw
     case rel=>exact⟨k+1,by omega,by push_cast;rfl,by rw[HKS.out];exact HO3.out,HB3.out⟩
     case measure=>simp[intOf];omega
    ·have hb:(p==(m:Int))=false:=by simpa using hpm
     have HKS:Hid (nbsAhead t (m:Int)++kidsTo t (m:Int) (k+1)=L):=by unfold Hid;rw[Hks.out,if_neg (by rw[hb];simp),List.append_nil]
     go_wp2_with fail;go_roundw
     case rel=>exact⟨k+1,by omega,by push_cast;rfl,by rw[HKS.out];exact HO2.out,HB2.out⟩
     case measure=>simp[intOf];omega
   ·have hkn:k=n:=by omega
    have HE:Hid (L=nbs t (m:Int)):=Hend.out hkn;have hlt':¬((k:Int)<(n:Int)):=by omega
    go_wp2_with fail
    go_ret
    exact⟨_,rfl,by rw[←HE.out];exact HO2.out,HB2.out⟩
end Go.Proofs.YtkbfhgcjimfgkaaDoor
