/- The walk of node.own: a node in memory of its own. -/
import Derived.Test.YtkbfhgcjimfgkaaDoorPartB8
import Derived.Test.YtkbfhgcjimfgkaaDoorPartC0
import Derived.Test.YtkbfhgcjimfgkaaDoorPartC1
set_option linter.unusedVariables false
set_option linter.unusedSimpArgs false
set_option linter.unusedSimpArgs false
namespace Go.Proofs.YtkbfhgcjimfgkaaDoor
open Go.RowKit
def RowV {α:Type} [Rep α] (B:Nat)(l:List α)(v:Value)(w:World):Prop:=∃a c,v=.slice a l.length c∧RdS (Fresh B w) w l a l.length c
section
variable {α:Type} [Rep α] {B:Nat} {l:List α} {v:Value} {w w':World}
theorem RowV.go (h:RowV B l v w)(hb:Below w.heap.size w w'):RowV B l v w':=by
 obtain⟨a,c,e,h⟩:=h;exact⟨a,c,e,h.mono fun z hz=>⟨⟨hz.1,Nat.lt_of_lt_of_le hz.2 hb.size⟩,hb.block z hz.2⟩⟩
theorem RowV.past {S:Nat→Prop}(h:RowV B l v w)(ht:Touch S w w')(hs:∀z,S z→z<B):RowV B l v w':=by
 obtain⟨a,c,e,h⟩:=h;exact⟨a,c,e,h.past ht hs⟩
theorem RowV.of {b:Nat}(h:OwnO (· <b) b v l w)(hB:B≤b):RowV B l v w:=by
 obtain⟨a,c,e,hr⟩:=h.rd (A:=Fresh B w) (fun z hz hx=>⟨by omega,hz⟩) (fun k hk=>⟨by have:=(h.rowlt k hk).1;omega,(h.rowlt k hk).2⟩);exact⟨a,c,e,hr⟩
end
def Sd.short (s:Sd):Prop:=(∀o∈s.e.pending,o.length≤1000000000)∧s.e.pending.length≤1048576∧(∀f∈s.l.sent,f.op.length≤1000000000)∧s.l.sent.length≤1048576∧(∀f∈s.l.queue,f.op.length≤1000000000)∧s.l.queue.length≤1048576
def OwnNd (n:Nd)(w:World)(e:Ending)(w':World):Prop:=∃S1 S2 v0 v1 v2,e=.returned (.agg #[.int .i64 n.me,.int .i64 n.epoch,.int .i64 n.up,.bool n.ready,.string n.text,v0,v1,v2])∧w.heap.size≤S1∧S1≤S2∧S2≤w'.heap.size∧
 OwnO (fun z=>z<w.heap.size∨S1≤z) w.heap.size v2 n.marks w'∧OwnO (fun z=>z<S1∨S2≤z) S1 v0 n.sides w'∧OwnO (fun z=>z<S2) S2 v1 n.undo w'∧Below w.heap.size w w'∧(∀k,v2.ownBlock=some k→k<S1)∧(∀k,v0.ownBlock=some k→k<S2)
abbrev set8w (W:World)(g:Nat)(v0 v1 v2 v3 v4 v5 v6 v7:Value):World:=(((((((W.setCell ⟨g,0,none⟩ v0).setCell ⟨g,1,none⟩ v1).setCell ⟨g,2,none⟩ v2).setCell ⟨g,3,none⟩ v3).setCell ⟨g,4,none⟩ v4).setCell ⟨g,5,none⟩ v5).setCell ⟨g,6,none⟩ v6).setCell ⟨g,7,none⟩ v7
theorem blk_set8 {w:World}{g T:Nat}{c0 c1 c2 c3 c4 c5 c6 c7:Value}(h:Blk g (.cells #[c0,c1,c2,c3,c4,c5,c6,c7] T (0,0)) w)(v0 v1 v2 v3 v4 v5 v6 v7:Value):Blk g (.cells #[v0,v1,v2,v3,v4,v5,v6,v7] T (0,0)) (set8w w g v0 v1 v2 v3 v4 v5 v6 v7):=
 blk_setL g T [v0,v1,v2,v3,v4,v5,v6,v7] [] [c0,c1,c2,c3,c4,c5,c6,c7] w rfl h
theorem touch8 (w:World)(g:Nat)(v0 v1 v2 v3 v4 v5 v6 v7:Value):Touch (fun z=>z=g) w (set8w w g v0 v1 v2 v3 v4 v5 v6 v7):=
 (((((((touch1 v0).trans (touch1 v1)).trans (touch1 v2)).trans (touch1 v3)).trans (touch1 v4)).trans (touch1 v5)).trans (touch1 v6)).trans (touch1 v7)
set_option maxRecDepth 100000 in
set_option maxHeartbeats 8000000 in
theorem ndOwn_any (n:Nd)(a:Option Addr)(c:Nat)(ua:Option Addr)(uc:Nat)(ma:Option Addr)(mc:Nat)(w:World)(h1:RdS (· <w.heap.size) w n.sides a n.sides.length c)(h2:RdS (· <w.heap.size) w n.undo ua n.undo.length uc)(h3:RdS (· <w.heap.size) w n.marks ma n.marks.length mc)
 (hu:∀o∈n.undo,o.length≤1000000000) (hs:∀s∈n.sides,s.short) (hl:n.sides.length≤1000) (hul:n.undo.length≤1048576) (hml:n.marks.length≤1048576):
 Calls Tryd.prog 55 #[.agg #[.int .i64 n.me,.int .i64 n.epoch,.int .i64 n.up,.bool n.ready,.string n.text,.slice a n.sides.length c,.slice ua n.undo.length uc,.slice ma n.marks.length mc]] w (OwnNd n w):=by
 have HMk:=Lib.hid (fun W (hW:Below w.heap.size w W)=>marks_any n.marks ma _ mc W (h3.go hW) hml);have HUn:=Lib.hid (fun W (hW:Below w.heap.size w W)=>ops_any n.undo ua _ uc W (h2.go hW) hu hul);have H1:=Lib.hid h1;have hcm:=h1.2.2.1;unfold maxLen at hcm;have hnc:=h1.2.1;have Hsh:=Lib.hid hs;have Hpost:Hid (∀S1 S2 v0 v1 v2 W,w.heap.size≤S1→S1≤S2→S2≤W.heap.size→OwnO (fun z=>z<w.heap.size∨S1≤z) w.heap.size v2 n.marks W→OwnO (fun z=>z<S1∨S2≤z) S1 v0 n.sides W→OwnO (fun z=>z<S2) S2 v1 n.undo W→Below w.heap.size w W→(∀k,v2.ownBlock=some k→k<S1)→(∀k,v0.ownBlock=some k→k<S2)→OwnNd n w (.returned (.agg #[.int .i64 n.me,.int .i64 n.epoch,.int .i64 n.up,.bool n.ready,.string n.text,v0,v1,v2])) W):=fun S1 S2 v0 v1 v2 W h1 h2 h3 h4 h5 h6 h7 h8 h9=>⟨S1,S2,v0,v1,v2,rfl,h1,h2,h3,h4,h5,h6,h7,h8,h9⟩;generalize OwnNd n w=RP at*;clear h1 h2 h3 hu hs;obtain⟨i0,hi,hy0,hy1,hy2⟩:=info_parts infoSd;have Hi:=Lib.hid hi;have Hy0:=Lib.hid hy0;have Hy1:=Lib.hid hy1;have Hy2:=Lib.hid hy2;clear hi hy0 hy1 hy2;go_enter Tryd.func55,Tryd.ntmps55;go_wp2_with fail;refine abs_run (fun W=>Below w.heap.size w W∧W.heap.size=w.heap.size+3∧Blk w.heap.size (.cells #[.int .i64 n.me,.int .i64 n.epoch,.int .i64 n.up,.bool n.ready,.string n.text,.slice a n.sides.length c,.slice ua n.undo.length uc,.slice ma n.marks.length mc] 31 (0,0)) W∧Blk (w.heap.size+1) (.cells #[.int .i64 0,.int .i64 0,.int .i64 0,.bool false,.string ⟨#[]⟩,.slice none 0 0,.slice none 0 0,.slice none 0 0] 31 (0,0)) W∧Blk (w.heap.size+1+1) (.cells #[.int .i64 n.me,.int .i64 n.epoch,.int .i64 n.up,.bool n.ready,.string n.text,.slice a n.sides.length c,.slice ua n.undo.length uc,.slice ma n.marks.length mc] 31 (0,0)) W)
  ⟨by(repeat (first|exact Below.refl _ _|assumption|(refine Below.drew ?_)|(refine below_drewN ?_ _)|(refine Below.alloc ?_ (by first|(simp;done)|(simp;omega)|omega) _)|(refine Below.setCell ?_ (by first|(simp;done)|(simp;omega)|omega) _)|(refine Below.trans ?_ (Below.mono (by assumption) (by first|(simp;done)|(simp;omega)|omega))))),by simp,((Blk.new _ _).alloc _).alloc _,(Blk.at _ _ _ (by simp)).alloc _,Blk.at _ _ _ (by simp)⟩ ?_
 rintro w1 ⟨b1,z1,x1,x2,x3⟩;have B1:=Lib.hid b1;refine(HMk.out w1 b1).mono ?_;rintro e w2 ⟨vm,rfl,hom,b2⟩;obtain⟨va,vc,rfl⟩:=own_app hom;have hz2:=b2.size;have HX:=Lib.hid (And.intro (x1.go b2) (And.intro (x2.go b2) (x3.go b2)));have y3:=HX.out.2.2;have y5:=y3.frozen 5;have y6:=y3.frozen 6;have y7:=y3.frozen 7;obtain⟨q0,q1,q2,q3,q4,q5,q6,q7⟩:=blk8_cells y3;have HO:=Lib.hid ((hom.more (X':=fun z=>z<w.heap.size+3∨w2.heap.size≤z) (fun z hz hx=>by omega)).low (base':=w.heap.size) (by omega));have B2:=Lib.hid (up b1 b2);have Hvm:Hid (∀z,(Value.slice va n.marks.length vc).ownBlock=some z→w.heap.size+3≤z∧z<w2.heap.size):=fun z hz=>by have:=hom.rowlt z hz;omega
 clear b1 b2 x1 x2 x3 hom HMk y3;go_upto_region 3 with fail;refine abs_w (fun W=>Blk (w.heap.size+1+1) (.cells #[.int .i64 n.me,.int .i64 n.epoch,.int .i64 n.up,.bool n.ready,.string n.text,.slice none 0 0,.slice none 0 0,.slice va n.marks.length vc] 31 (0,0)) W∧Touch (fun z=>z=w.heap.size+1+1) w2 W) ⟨((HX.out.2.2.set 5 _).set 6 _).set 7 _,((Touch.setCell (S:=fun z=>z=w.heap.size+1+1) (Touch.refl _ _) (.inl rfl) _).setCell (.inl rfl) _).setCell (.inl rfl) _⟩ ?_;rintro w3 ⟨x3,t3⟩;have ht3:=t3.size;have HX3:=Lib.hid (And.intro (HX.out.1.touch t3 (by omega)) (And.intro (HX.out.2.1.touch t3 (by omega)) x3));have HO3:=Lib.hid (HO.out.touch t3 (fun z hz hs=>⟨by omega,fun e=>by have:=Hvm.out z e;omega⟩));have B3:=Lib.hid (B2.out.trans (t3.toBelow (by omega) (fun z hz=>by omega)));obtain⟨p0,p1,p2,p3,p4,p5,p6,p7⟩:=blk8_cells HX3.out.1;clear x3 t3 HX HO B2 B1 q0 q1 q2 q3 q4 q5 q6 q7 y5 y6 y7;go_wp2_with fail;clear p0 p1 p2 p3 p4 p5 p6 p7;go_loopw [16] (fun vi wr=>∃(k:Nat)(sv:Value),k≤n.sides.length∧vi=.int .i64 (k:Int)∧Blk w.heap.size (.cells #[.int .i64 n.me,.int .i64 n.epoch,.int .i64 n.up,.bool n.ready,.string n.text,.slice a n.sides.length c,.slice ua n.undo.length uc,.slice ma n.marks.length mc] 31 (0,0)) wr∧Blk (w.heap.size+1) (.cells #[.int .i64 0,.int .i64 0,.int .i64 0,.bool false,.string ⟨#[]⟩,.slice none 0 0,.slice none 0 0,.slice none 0 0] 31 (0,0)) wr∧Blk (w.heap.size+1+1) (.cells #[.int .i64 n.me,.int .i64 n.epoch,.int .i64 n.up,.bool n.ready,.string n.text,sv,.slice none 0 0,.slice va n.marks.length vc] 31 (0,0)) wr∧Below w.heap.size w wr∧OwnO (fun z=>z<w.heap.size+3∨w2.heap.size≤z) w.heap.size (.slice va n.marks.length vc) n.marks wr∧OwnO (· <w2.heap.size) w2.heap.size sv (n.sides.take k) wr∧w3.heap.size≤wr.heap.size) (fun vi _=>n.sides.length-(intOf vi).toNat)
 case atStart=>exact⟨0,.slice none 0 0,by omega,rfl,HX3.out.1,HX3.out.2.1,HX3.out.2.2,B3.out,HO3.out,OwnO.nil,Nat.le_refl _⟩
 case round=>
  obtain⟨k,sv,hk,rfl,hbp,hbr,hbo,hb,hom,hos,hwr⟩:=hrel;have HP:=Lib.hid hbp;have HR:=Lib.hid hbr;have HB0:=Lib.hid hbo;have HB:=Lib.hid hb;have HM:=Lib.hid hom;have HS:=Lib.hid hos;obtain⟨xa,xc,rfl⟩:=own_app HS.out;clear hbp hbr hbo hom hos HX3 HO3 B3;by_cases hlt:k<n.sides.length
  ·have hlt':(k:Int)<(n.sides.length:Int):=by omega
   obtain⟨sb,so,xs,rfl,hA,hsb,⟨ea,ec,la,lc,qa,qc,rfl,r1,r2,r3,hpe,hef,hlf⟩,hcl⟩:=(H1.out.go HB.out).elem k hlt;have y0:wr.cell? ⟨sb,so+k*10,none⟩=some _:=hcl 0 _ rfl;have y1:wr.cell? ⟨sb,so+k*10+1,none⟩=some _:=hcl 1 _ rfl;have y2:wr.cell? ⟨sb,so+k*10+2,none⟩=some _:=hcl 2 _ rfl;have y3:wr.cell? ⟨sb,so+k*10+3,none⟩=some _:=hcl 3 _ rfl;have y4:wr.cell? ⟨sb,so+k*10+4,none⟩=some _:=hcl 4 _ rfl;have y5:wr.cell? ⟨sb,so+k*10+5,none⟩=some _:=hcl 5 _ rfl;have y6:wr.cell? ⟨sb,so+k*10+6,none⟩=some _:=hcl 6 _ rfl;have y7:wr.cell? ⟨sb,so+k*10+7,none⟩=some _:=hcl 7 _ rfl;have y8:wr.cell? ⟨sb,so+k*10+8,none⟩=some _:=hcl 8 _ rfl;have y9:wr.cell? ⟨sb,so+k*10+9,none⟩=some _:=hcl 9 _ rfl;obtain⟨s1,s2,s3,s4,s5,s6⟩:=Hsh.out _ (List.getElem_mem hlt);have HE1:=Lib.hid (fun W (hW:Below wr.heap.size wr W)=>ops_any n.sides[k].e.pending ea _ ec W (r1.go hW) s1 s2);have HE2:=Lib.hid (fun W (hW:Below wr.heap.size wr W)=>ndFrames_any n.sides[k].l.sent la _ lc W (r2.go hW) s3 s4);have HE3:=Lib.hid (fun W (hW:Below wr.heap.size wr W)=>ndFrames_any n.sides[k].l.queue qa _ qc W (r3.go hW) s5 s6);have Hft:=Lib.hid (And.intro hpe (And.intro hef hlf));have Hk:=Lib.hid (List.take_succ_eq_append_getElem hlt);have Htl:Hid ((n.sides.take k).length=k):=by unfold Hid;rw[List.length_take];omega
   have hkc:(k:Int)<(c:Int):=by omega
   clear hcl r1 r2 r3 hpe hef hlf s1 s2 s3 s4 s5 s6 hb;generalize n.sides[k]=sd at*;generalize n.sides.take k=lk at*;go_wp2_with fail;refine abs_run (fun W=>Below wr.heap.size wr W∧Blk wr.heap.size (.cells #[.int .i64 sd.peer,.bool sd.joined,.int .i64 sd.e.sent,.int .i64 sd.e.heard,.slice ea sd.e.pending.length ec,.int .i64 sd.l.epoch,.int .i64 sd.l.next,.slice la sd.l.sent.length lc,.slice qa sd.l.queue.length qc,.int .i64 sd.l.heard] 72 (0,0)) W) ⟨(Below.refl _ _).alloc (Nat.le_refl _) _,Blk.new wr _⟩ ?_;rintro w4 ⟨b4,x4⟩;have B4:=Lib.hid b4;have hl4:=x4.lt;refine(HE1.out w4 b4).mono ?_;rintro e w5 ⟨pv,rfl,hp,b5⟩;obtain⟨pa,pc,rfl,hpr⟩:=RowV.of (B:=wr.heap.size+1) hp (by omega);have X5:=Lib.hid (x4.go b5);have hz5:=b5.size;have B5:=Lib.hid (up b4 b5);have f4:=X5.out.frozen 4;have c4:=X5.out.cell 4;clear b4 x4 hp b5 y0 y1 y2 y3 y4 y5 y6 y7 y8 y9 HE1;go_upto_region 7 with fail;refine abs_w (fun W=>Blk wr.heap.size (.cells #[.int .i64 sd.peer,.bool sd.joined,.int .i64 sd.e.sent,.int .i64 sd.e.heard,.slice pa sd.e.pending.length pc,.int .i64 sd.l.epoch,.int .i64 sd.l.next,.slice la sd.l.sent.length lc,.slice qa sd.l.queue.length qc,.int .i64 sd.l.heard] 72 (0,0)) W∧Touch (fun z=>z=wr.heap.size) w5 W) ⟨X5.out.set 4 _,Touch.setCell (S:=fun z=>z=wr.heap.size) (Touch.refl _ _) (.inl rfl) _⟩ ?_;rintro w6 ⟨x6,t6⟩;have ht6:=t6.size;have HPR:=Lib.hid (hpr.past t6 (fun z hz=>by omega));have B6:=Lib.hid (B5.out.trans (t6.toBelow (by omega) (fun z hz=>by omega)));have HKeep:Hid (∀W,Touch (fun z=>z=wr.heap.size) w6 W→Below wr.heap.size wr W):=fun W ht=>B6.out.trans (ht.toBelow (by omega) (fun z hz=>by omega));have X6:=Lib.hid x6;clear x6 t6 hpr f4 c4 X5 B5 B4;obtain⟨Vp,HV⟩:∃Vp:Nat→Value→World→Prop,Hid (Vp=fun i v W=>match i with
    |0=>v=.pointer (some ⟨wr.heap.size,5,none⟩)
    |1=>v=.pointer (some ⟨wr.heap.size,7,none⟩)
    |2=>v=.slice la sd.l.sent.length lc
    |3=>∃y,v=y∧RowV (wr.heap.size+1) sd.l.sent y W
    |4=>v=.pointer (some ⟨wr.heap.size,5,none⟩)
    |5=>v=.pointer (some ⟨wr.heap.size,8,none⟩)
    |6=>v=.slice qa sd.l.queue.length qc
    |7=>∃y,v=y∧RowV (wr.heap.size+1) sd.l.queue y W
    |8=>v=.pointer (some ⟨wr.heap.size,5,none⟩)
    |9=>v=.pointer (some ⟨wr.heap.size,7,none⟩)
    |10=>v=undef
    |11=>v=.pointer (some ⟨wr.heap.size,5,none⟩)
    |12=>v=.pointer (some ⟨wr.heap.size,8,none⟩)
    |_=>v=undef):=⟨_,rfl⟩
   obtain⟨Ip,HIp⟩:∃Ip:(Nat→Bool)→(Nat→Value)→World→Prop,Hid (Ip=fun L x W=>(Touch (fun z=>z=wr.heap.size) w6 W∧∃v7 v8,Blk wr.heap.size (.cells #[.int .i64 sd.peer,.bool sd.joined,.int .i64 sd.e.sent,.int .i64 sd.e.heard,.slice pa sd.e.pending.length pc,.int .i64 sd.l.epoch,.int .i64 sd.l.next,v7,v8,.int .i64 sd.l.heard] 72 (0,0)) W∧(L 10=false→v7=.slice la sd.l.sent.length lc)∧(L 13=false→v8=.slice qa sd.l.queue.length qc)∧(L 10=true→RowV (wr.heap.size+1) sd.l.sent v7 W)∧(L 13=true→RowV (wr.heap.size+1) sd.l.queue v8 W))):=⟨_,rfl⟩;refine region_lit3 (by kernel_rfl) (by kernel_rfl) (by kernel_rfl) [[],[0],[0,1],[0,1,2],[],[4],[4,5],[4,5,6],[],[8],[0,1,2,3,8,9],[],[11],[4,5,6,7,11,12]] (by kernel_rfl) [some 26,some 27,some 28,some 29,some 30,some 31,some 32,some 33,some 34,some 35,none,some 36,some 37,none] (by kernel_rfl) [[0,1,2,3,10],[1,2,3,10],[2,3,10],[3,10],[4,5,6,7,13],[5,6,7,13],[6,7,13],[7,13],[8,9,10],[9,10],[10],[11,12,13],[12,13],[13]] (by kernel_rfl) [[],[],[],[],[],[],[],[],[],[],[],[],[],[]] [[],[0],[1],[2],[],[4],[5],[6],[],[8],[3,9],[],[11],[7,12]] (by kernel_rfl)
    Ip
    Vp
    (fun j W W'=>match j with
     |10=>Touch (fun z=>z=wr.heap.size) W W'
     |13=>Touch (fun z=>z=wr.heap.size) W W'
     |_=>Below W.heap.size W W')
    [fun x=>⟨(fZm 5 (.pointer (some ⟨wr.heap.size,0,none⟩)) (fEm 21)).toArray,[]⟩,fun x=>⟨(fZm 26 (x 0) (fEm 1)).toArray,[]⟩,fun x=>⟨(fZm 27 (x 1) (fEm 1)).toArray,[]⟩,fun x=>⟨(fZm 28 (x 2) (fEm 1)).toArray,[]⟩,fun x=>⟨(fZm 5 (.pointer (some ⟨wr.heap.size,0,none⟩)) (fEm 25)).toArray,[]⟩,fun x=>⟨(fZm 30 (x 4) (fEm 1)).toArray,[]⟩,fun x=>⟨(fZm 31 (x 5) (fEm 1)).toArray,[]⟩,fun x=>⟨(fZm 32 (x 6) (fEm 1)).toArray,[]⟩,fun x=>⟨(fZm 5 (.pointer (some ⟨wr.heap.size,0,none⟩)) (fEm 29)).toArray,[]⟩,fun x=>⟨(fZm 34 (x 8) (fEm 1)).toArray,[]⟩,fun x=>⟨(fZm 29 (x 3) (fZm 5 (x 9) [])).toArray,[]⟩,fun x=>⟨(fZm 5 (.pointer (some ⟨wr.heap.size,0,none⟩)) (fEm 31)).toArray,[]⟩,fun x=>⟨(fZm 36 (x 11) (fEm 1)).toArray,[]⟩,fun x=>⟨(fZm 33 (x 7) (fZm 3 (x 12) [])).toArray,[]⟩]
    ?hF ?mono ?h0 ?step [0,1,2,3,4,5,6,7,8,9,10,11,12,13] (by kernel_rfl) ?fin
   case hF=>
    iterate 14 refine⟨fun x=>⟨by kernel_rfl,by kernel_rfl⟩,?_⟩
    trivial
   case mono=>
    intro i j hi hj hne hna hnk v W W' hE hv;rw[HV.out]at hv⊢;simp only[List.length_cons,List.length_nil]at hi hj
    match i,hi with
    |0,_|1,_|2,_|4,_|5,_|6,_|8,_|9,_|10,_|11,_|12,_|13,_=>exact hv
    |3,_=>
     match j,hj with
     |3,_=>exact absurd rfl hne
     |0,_|1,_|2,_=>exact absurd (by simp) hna
     |4,_|5,_|6,_|7,_|8,_|9,_|11,_|12,_=>exact(by obtain⟨y,e,h⟩:=hv;exact⟨y,e,h.go hE⟩)
     |10,_|13,_=>exact(by obtain⟨y,e,h⟩:=hv;exact⟨y,e,h.past hE (fun z hz=>by omega)⟩)
     |m+14,h=>exact absurd h (by omega)
    |7,_=>
     match j,hj with
     |7,_=>exact absurd rfl hne
     |4,_|5,_|6,_=>exact absurd (by simp) hna
     |0,_|1,_|2,_|3,_|8,_|9,_|11,_|12,_=>exact(by obtain⟨y,e,h⟩:=hv;exact⟨y,e,h.go hE⟩)
     |10,_|13,_=>exact(by obtain⟨y,e,h⟩:=hv;exact⟨y,e,h.past hE (fun z hz=>by omega)⟩)
     |m+14,h=>exact absurd h (by omega)
    |m+14,h=>exact absurd h (by omega)
   case h0=>intro x;exact toI HIp ⟨Touch.of_below ((Below.refl _ _).drew),_,_,X6.out,fun _=>rfl,fun _=>rfl,(fun h=>by cases h),(fun h=>by cases h)⟩
   case step=>
    refine⟨?_,?_,?_,?_,?_,?_,?_,?_,?_,?_,?_,?_,?_,?_,trivial⟩
    all_goals
     intro x W L hI hL hV;replace hI:(Touch (fun z=>z=wr.heap.size) w6 W∧∃v7 v8,Blk wr.heap.size (.cells #[.int .i64 sd.peer,.bool sd.joined,.int .i64 sd.e.sent,.int .i64 sd.e.heard,.slice pa sd.e.pending.length pc,.int .i64 sd.l.epoch,.int .i64 sd.l.next,v7,v8,.int .i64 sd.l.heard] 72 (0,0)) W∧(L 10=false→v7=.slice la sd.l.sent.length lc)∧(L 13=false→v8=.slice qa sd.l.queue.length qc)∧(L 10=true→RowV (wr.heap.size+1) sd.l.sent v7 W)∧(L 13=true→RowV (wr.heap.size+1) sd.l.queue v8 W)):=ofI HIp hI;rw[HV.out]at hV;simp only[AllV,and_true]at hV;dsimp only[fZm,fEm,List.reduceReplicate,List.cons_append,List.nil_append]
    ·clear hV;have HI:=Lib.hid hI;clear hI;go_wp2_with fail;refine step3_done rfl ?_ ?_ ?_
     ·exact(toI HIp HI.out)
     ·exact(Below.refl _ _)
     ·exact(toV HV rfl)
    ·have u0:=hV;clear hV;simp only[u0];clear u0;have HI:=Lib.hid hI;clear hI;go_wp2_with fail;refine step3_done rfl ?_ ?_ ?_
     ·exact(toI HIp HI.out)
     ·exact(Below.refl _ _)
     ·exact(toV HV rfl)
    ·have u1:=hV;clear hV;simp only[u1];clear u1;have q7:W.cell? ⟨wr.heap.size,7,none⟩=some (.slice la sd.l.sent.length lc):=by
      obtain⟨-,v7,v8,hbk,e1,-⟩:=hI;rw[←e1 (hL.2 10 (by simp))];exact hbk.cell 7
     have HI:=Lib.hid hI;clear hI;go_wp2_with fail;refine step3_done rfl ?_ ?_ ?_
     ·exact(toI HIp HI.out)
     ·exact(Below.refl _ _)
     ·exact(toV HV rfl)
    ·have u2:=hV;clear hV;simp only[u2];clear u2;have HI:=Lib.hid hI;have hzW:=(HKeep.out W hI.1).size;have hzW6:=hI.1.size;clear hI;go_wp2_with fail;refine(HE2.out _ (HKeep.out W HI.out.1)).mono ?_;rintro e W' ⟨rv,rfl,ho,hbw⟩;have hrv:=RowV.of (B:=wr.heap.size+1) ho (by omega);obtain⟨ht,v7,v8,hbk,e1,e2,e3,e4⟩:=HI.out;go_wp2_with fail;refine step3_done rfl ?_ ?_ ?_
     ·exact(toI HIp ⟨ht.trans (Touch.of_below hbw),v7,v8,hbk.go hbw,e1,e2,fun h=>(e3 h).go hbw,fun h=>(e4 h).go hbw⟩)
     ·exact hbw
     ·exact(toV HV ⟨_,rfl,hrv⟩)
    ·clear hV;have HI:=Lib.hid hI;clear hI;go_wp2_with fail;refine step3_done rfl ?_ ?_ ?_
     ·exact(toI HIp HI.out)
     ·exact(Below.refl _ _)
     ·exact(toV HV rfl)
    ·have u4:=hV;clear hV;simp only[u4];clear u4;have HI:=Lib.hid hI;clear hI;go_wp2_with fail;refine step3_done rfl ?_ ?_ ?_
     ·exact(toI HIp HI.out)
     ·exact(Below.refl _ _)
     ·exact(toV HV rfl)
    ·have u5:=hV;clear hV;simp only[u5];clear u5;have q8:W.cell? ⟨wr.heap.size,8,none⟩=some (.slice qa sd.l.queue.length qc):=by
      obtain⟨-,v7,v8,hbk,-,e2,-⟩:=hI;rw[←e2 (hL.2 13 (by simp))];exact hbk.cell 8
     have HI:=Lib.hid hI;clear hI;go_wp2_with fail;refine step3_done rfl ?_ ?_ ?_
     ·exact(toI HIp HI.out)
     ·exact(Below.refl _ _)
     ·exact(toV HV rfl)
    ·have u6:=hV;clear hV;simp only[u6];clear u6;have HI:=Lib.hid hI;have hzW:=(HKeep.out W hI.1).size;have hzW6:=hI.1.size;clear hI;go_wp2_with fail;refine(HE3.out _ (HKeep.out W HI.out.1)).mono ?_;rintro e W' ⟨rv,rfl,ho,hbw⟩;have hrv:=RowV.of (B:=wr.heap.size+1) ho (by omega);obtain⟨ht,v7,v8,hbk,e1,e2,e3,e4⟩:=HI.out;go_wp2_with fail;refine step3_done rfl ?_ ?_ ?_
     ·exact(toI HIp ⟨ht.trans (Touch.of_below hbw),v7,v8,hbk.go hbw,e1,e2,fun h=>(e3 h).go hbw,fun h=>(e4 h).go hbw⟩)
     ·exact hbw
     ·exact(toV HV ⟨_,rfl,hrv⟩)
    ·clear hV;have HI:=Lib.hid hI;clear hI;go_wp2_with fail;refine step3_done rfl ?_ ?_ ?_
     ·exact(toI HIp HI.out)
     ·exact(Below.refl _ _)
     ·exact(toV HV rfl)
    ·have u8:=hV;clear hV;simp only[u8];clear u8;have HI:=Lib.hid hI;clear hI;go_wp2_with fail;refine step3_done rfl ?_ ?_ ?_
     ·exact(toI HIp HI.out)
     ·exact(Below.refl _ _)
     ·exact(toV HV rfl)
    ·obtain⟨⟨y3,u3,h3⟩,u9⟩:=hV;simp only[u3,u9];have U3:=Lib.hid u3;clear u3 u9;obtain⟨ht,v7,v8,hbk,e1,e2,e3,e4⟩:=hI;have HE2':=Lib.hid (And.intro ht (And.intro e2 e4));have HK3:=Lib.hid h3;obtain⟨na,nc,rfl,-⟩:=h3;have q7:=hbk.cell 7;have f7:=hbk.frozen 7;have HBK:=Lib.hid (hbk.set 7 (.slice na sd.l.sent.length nc));have HT:=Lib.hid (Touch.setCell (S:=fun z=>z=wr.heap.size) (Touch.refl _ W) (p:=⟨wr.heap.size,7,none⟩) (.inl rfl) (.slice na sd.l.sent.length nc));clear hbk e1 e2 e3 e4 ht;go_wp2_with fail;exact step3_done (v:=undef) rfl (toI HIp ⟨HE2'.out.1.trans HT.out,_,v8,HBK.out,(fun h=>by cases h),HE2'.out.2.1,(fun _=>HK3.out.past HT.out (fun z hz=>by omega)),fun h=>(HE2'.out.2.2 h).past HT.out (fun z hz=>by omega)⟩) HT.out (toV HV rfl)
    ·clear hV;have HI:=Lib.hid hI;clear hI;go_wp2_with fail;refine step3_done rfl ?_ ?_ ?_
     ·exact(toI HIp HI.out)
     ·exact(Below.refl _ _)
     ·exact(toV HV rfl)
    ·have u11:=hV;clear hV;simp only[u11];clear u11;have HI:=Lib.hid hI;clear hI;go_wp2_with fail;refine step3_done rfl ?_ ?_ ?_
     ·exact(toI HIp HI.out)
     ·exact(Below.refl _ _)
     ·exact(toV HV rfl)
    ·obtain⟨⟨y7,u7,h7⟩,u12⟩:=hV;simp only[u7,u12];have U7:=Lib.hid u7;clear u7 u12;obtain⟨ht,v7,v8,hbk,e1,e2,e3,e4⟩:=hI;have HE2':=Lib.hid (And.intro ht (And.intro e1 e3));have HK3:=Lib.hid h7;obtain⟨na,nc,rfl,-⟩:=h7;have q8:=hbk.cell 8;have f8:=hbk.frozen 8;have HBK:=Lib.hid (hbk.set 8 (.slice na sd.l.queue.length nc));have HT:=Lib.hid (Touch.setCell (S:=fun z=>z=wr.heap.size) (Touch.refl _ W) (p:=⟨wr.heap.size,8,none⟩) (.inl rfl) (.slice na sd.l.queue.length nc));clear hbk e1 e2 e3 e4 ht;go_wp2_with fail;exact step3_done (v:=undef) rfl (toI HIp ⟨HE2'.out.1.trans HT.out,v7,_,HBK.out,HE2'.out.2.1,(fun h=>by cases h),(fun h=>(HE2'.out.2.2 h).past HT.out (fun z hz=>by omega)),fun _=>HK3.out.past HT.out (fun z hz=>by omega)⟩) HT.out (toV HV rfl)
   case fin=>
    intro x W L hL hI hV;replace hI:(Touch (fun z=>z=wr.heap.size) w6 W∧∃v7 v8,Blk wr.heap.size (.cells #[.int .i64 sd.peer,.bool sd.joined,.int .i64 sd.e.sent,.int .i64 sd.e.heard,.slice pa sd.e.pending.length pc,.int .i64 sd.l.epoch,.int .i64 sd.l.next,v7,v8,.int .i64 sd.l.heard] 72 (0,0)) W∧(L 10=false→v7=.slice la sd.l.sent.length lc)∧(L 13=false→v8=.slice qa sd.l.queue.length qc)∧(L 10=true→RowV (wr.heap.size+1) sd.l.sent v7 W)∧(L 13=true→RowV (wr.heap.size+1) sd.l.queue v8 W)):=ofI HIp hI;rw[HV.out]at hV;simp only[AllV,and_true]at hV;obtain⟨u0,u1,u2,⟨y3,u3,h3⟩,u4,u5,u6,⟨y7,u7,h7⟩,u8,u9,u10,u11,u12,u13⟩:=hV;simp only[getsD,List.getD_cons_succ,List.getD_cons_zero,List.length_cons,List.length_nil,List.range,List.range.loop,u0,u1,u2,u3,u4,u5,u6,u7,u8,u9,u10,u11,u12,u13,Act.put,List.setIfInBounds_toArray,List.set_cons_succ,List.set_cons_zero];clear u0 u1 u2 u3 u4 u5 u6 u7 u8 u9 u10 u11 u12 u13;obtain⟨ht,v7,v8,hbk,-,-,e3,e4⟩:=hI;have k7:=e3 (hL 10 (by simp));have k8:=e4 (hL 13 (by simp));clear h3 h7 e3 e4 hL;obtain⟨na,nc,rfl,r7⟩:=k7;obtain⟨ka,kc,rfl,r8⟩:=k8;obtain⟨w7,rfl⟩:∃x:World,x=W:=⟨_,rfl⟩;have BW:=HKeep.out w7 ht;have hz7:=BW.size;have hrow:=HS.out.rowlt;have HF0:Hid (∀z,Fresh (wr.heap.size+1) w7 z→(z<(w7.alloc (.cells #[.int .i64 sd.peer,.bool sd.joined,.int .i64 sd.e.sent,.int .i64 sd.e.heard,.slice pa sd.e.pending.length pc,.int .i64 sd.l.epoch,.int .i64 sd.l.next,.slice na sd.l.sent.length nc,.slice ka sd.l.queue.length kc,.int .i64 sd.l.heard] 72)).heap.size∧¬z<w2.heap.size∧(Value.slice xa lk.length xc).ownBlock≠some z)∧(w7.alloc (.cells #[.int .i64 sd.peer,.bool sd.joined,.int .i64 sd.e.sent,.int .i64 sd.e.heard,.slice pa sd.e.pending.length pc,.int .i64 sd.l.epoch,.int .i64 sd.l.next,.slice na sd.l.sent.length nc,.slice ka sd.l.queue.length kc,.int .i64 sd.l.heard] 72)).heap[z]?=w7.heap[z]?):=fun z hz=>⟨⟨by rw[alloc_sz];have:=hz.2;omega,by have:=hz.1;omega,fun e=>by have:=(hrow z e).2;have:=hz.1;omega⟩,((Below.refl w7.heap.size w7).alloc (Nat.le_refl _) _).block z hz.2⟩;have HRd:Hid (Rep.rd (fun z=>z<(w7.alloc (.cells #[.int .i64 sd.peer,.bool sd.joined,.int .i64 sd.e.sent,.int .i64 sd.e.heard,.slice pa sd.e.pending.length pc,.int .i64 sd.l.epoch,.int .i64 sd.l.next,.slice na sd.l.sent.length nc,.slice ka sd.l.queue.length kc,.int .i64 sd.l.heard] 72)).heap.size∧¬z<w2.heap.size∧(Value.slice xa lk.length xc).ownBlock≠some z) (w7.alloc (.cells #[.int .i64 sd.peer,.bool sd.joined,.int .i64 sd.e.sent,.int .i64 sd.e.heard,.slice pa sd.e.pending.length pc,.int .i64 sd.l.epoch,.int .i64 sd.l.next,.slice na sd.l.sent.length nc,.slice ka sd.l.queue.length kc,.int .i64 sd.l.heard] 72)) sd [.int .i64 sd.peer,.bool sd.joined,.int .i64 sd.e.sent,.int .i64 sd.e.heard,.slice pa sd.e.pending.length pc,.int .i64 sd.l.epoch,.int .i64 sd.l.next,.slice na sd.l.sent.length nc,.slice ka sd.l.queue.length kc,.int .i64 sd.l.heard]):=⟨pa,pc,na,nc,ka,kc,rfl,(HPR.out.past ht (fun z hz=>by omega)).mono HF0.out,r7.mono HF0.out,r8.mono HF0.out,Hft.out⟩;have HP7:=Lib.hid ((HP.out.go BW).alloc (.cells #[.int .i64 sd.peer,.bool sd.joined,.int .i64 sd.e.sent,.int .i64 sd.e.heard,.slice pa sd.e.pending.length pc,.int .i64 sd.l.epoch,.int .i64 sd.l.next,.slice na sd.l.sent.length nc,.slice ka sd.l.queue.length kc,.int .i64 sd.l.heard] 72));have HR7:=Lib.hid ((HR.out.go BW).alloc (.cells #[.int .i64 sd.peer,.bool sd.joined,.int .i64 sd.e.sent,.int .i64 sd.e.heard,.slice pa sd.e.pending.length pc,.int .i64 sd.l.epoch,.int .i64 sd.l.next,.slice na sd.l.sent.length nc,.slice ka sd.l.queue.length kc,.int .i64 sd.l.heard] 72));have HO7:=Lib.hid ((HB0.out.go BW).alloc (.cells #[.int .i64 sd.peer,.bool sd.joined,.int .i64 sd.e.sent,.int .i64 sd.e.heard,.slice pa sd.e.pending.length pc,.int .i64 sd.l.epoch,.int .i64 sd.l.next,.slice na sd.l.sent.length nc,.slice ka sd.l.queue.length kc,.int .i64 sd.l.heard] 72));have HM7:=Lib.hid ((HM.out.go BW).go ((Below.refl _ w7).alloc (Nat.le_refl _) (.cells #[.int .i64 sd.peer,.bool sd.joined,.int .i64 sd.e.sent,.int .i64 sd.e.heard,.slice pa sd.e.pending.length pc,.int .i64 sd.l.epoch,.int .i64 sd.l.next,.slice na sd.l.sent.length nc,.slice ka sd.l.queue.length kc,.int .i64 sd.l.heard] 72)));have HS7:=Lib.hid ((HS.out.go BW).go ((Below.refl _ w7).alloc (Nat.le_refl _) (.cells #[.int .i64 sd.peer,.bool sd.joined,.int .i64 sd.e.sent,.int .i64 sd.e.heard,.slice pa sd.e.pending.length pc,.int .i64 sd.l.epoch,.int .i64 sd.l.next,.slice na sd.l.sent.length nc,.slice ka sd.l.queue.length kc,.int .i64 sd.l.heard] 72)));have HB7:=Lib.hid ((up HB.out BW).alloc (by have:=HB.out.size;omega) (.cells #[.int .i64 sd.peer,.bool sd.joined,.int .i64 sd.e.sent,.int .i64 sd.e.heard,.slice pa sd.e.pending.length pc,.int .i64 sd.l.epoch,.int .i64 sd.l.next,.slice na sd.l.sent.length nc,.slice ka sd.l.queue.length kc,.int .i64 sd.l.heard] 72));have c5:=(HB0.out.go BW).cell 5;obtain⟨q0,q1,q2,q3,q4,q5,q6,q7,q8,q9⟩:=blk10_cells hbk;clear ht hbk BW r7 r8 HP HR HB0 HB HM HS HF0 HPR HKeep B6 HE2 HE3 X6 Hft hrow;go_wp2_with (at_builtin;refine wpList_append_oneO rfl _ _ _ (by rfl) w2.heap.size 72 i0 _ 128 Tryd.underlying27 Hi.out Hy0.out Hy1.out Hy2.out rfl (.slice xa lk.length xc) lk (by rfl) HS7.out w7.heap.size 1 _ [.int .i64 sd.peer,.bool sd.joined,.int .i64 sd.e.sent,.int .i64 sd.e.heard,.slice pa sd.e.pending.length pc,.int .i64 sd.l.epoch,.int .i64 sd.l.next,.slice na sd.l.sent.length nc,.slice ka sd.l.queue.length kc,.int .i64 sd.l.heard] sd (by rfl) (Blk.new w7 _) HRd.out (by have:=Htl.out;unfold maxLen;omega) (by have:=Htl.out;omega) (by simp;omega) ?_);intro g2 o2 cap w8 hown hgrow hat hlt8;have hrow:=HS7.out.rowlt;have hbz:=HB7.out.size;have hg8:=hgrow.size;have hal:=alloc_sz w7 (.cells #[.int .i64 sd.peer,.bool sd.joined,.int .i64 sd.e.sent,.int .i64 sd.e.heard,.slice pa sd.e.pending.length pc,.int .i64 sd.l.epoch,.int .i64 sd.l.next,.slice na sd.l.sent.length nc,.slice ka sd.l.queue.length kc,.int .i64 sd.l.heard] 72);have hb8:=HO7.out.grown hgrow (fun e=>by have:=(hrow _ e.symm).1;omega);have T8:=touch1 (w:=w8) (g:=w.heap.size+1+1) (i:=5) (.slice (some ⟨g2,o2,none⟩) (lk.length+1) cap);have ht8:=T8.size;have HF:Hid (_∧_∧_∧_∧_∧_∧_):=⟨(HP7.out.grown hgrow (fun e=>by have:=(hrow _ e.symm).1;omega)).touch T8 (by omega),(HR7.out.grown hgrow (fun e=>by have:=(hrow _ e.symm).1;omega)).touch T8 (by omega),hb8.set 5 (.slice (some ⟨g2,o2,none⟩) (lk.length+1) cap),
     (HB7.out.grown hgrow (by omega) (fun z hz=>by have:=(hrow z hz).1;omega)).trans (T8.toBelow (by omega) (fun z hz=>by omega)),
     (HM7.out.grown hgrow (fun z hz=>⟨.inr (hrow z hz).1,fun e=>by have:=(Hvm.out z e).2;have:=(hrow z hz).1;omega⟩)).touch T8 (fun z hz hs=>⟨by omega,fun e=>by have:=(Hvm.out z e).1;omega⟩),
     hown.touch T8 (fun z hz hs=>⟨by omega,fun e=>by have:=(hown.rowlt z e).1;omega⟩),(by omega:w3.heap.size≤(w8.setCell ⟨w.heap.size+1+1,5,none⟩ (.slice (some ⟨g2,o2,none⟩) (lk.length+1) cap)).heap.size)⟩
    have c5':=hb8.cell 5;have f5:=hb8.frozen 5;clear hown hgrow hat hb8 T8 c5 hrow q0 q1 q2 q3 q4 q5 q6 q7 q8 q9 HP7 HR7 HO7 HM7 HS7 HB7 HRd hal;go_wp2_with fail;go_roundw
    case rel=>exact⟨k+1,_,by omega,by push_cast;rfl,HF.out.1,HF.out.2.1,HF.out.2.2.1,HF.out.2.2.2.1,HF.out.2.2.2.2.1,by rw[Hk.out];exact HF.out.2.2.2.2.2.1,HF.out.2.2.2.2.2.2⟩
    case measure=>simp[intOf];omega
  ·have hkn:k=n.sides.length:=by omega
   have hE:n.sides.take k=n.sides:=by rw[hkn,List.take_length]
   have hlt':¬((k:Int)<(n.sides.length:Int)):=by omega
   have hS:=HS.out;have hbo:=HB0.out;rw[hE]at hbo hS;have HS4:=Lib.hid (hS.more (X':=fun z=>z<w2.heap.size∨wr.heap.size≤z) (fun z hz hx=>by omega));have Hvs:Hid (∀z,(Value.slice xa n.sides.length xc).ownBlock=some z→w2.heap.size≤z∧z<wr.heap.size):=fun z hz=>hS.rowlt z hz;have HBO:=Lib.hid hbo;obtain⟨p0,p1,p2,p3,p4,p5,p6,p7⟩:=blk8_cells HP.out;clear hE hkn hb hbo hS HS HB0 H1 Hsh;go_wp2_with fail;refine(HUn.out wr HB.out).mono ?_;rintro e w4 ⟨uv,rfl,hou,b4⟩;obtain⟨pa,pc,rfl⟩:=own_app hou;have hz4:=b4.size;have hbz:=HB.out.size;have HU4:=Lib.hid hou;have HX4:=Lib.hid (HBO.out.go b4);have HR4:=Lib.hid (HR.out.go b4);have HM4:=Lib.hid (HM.out.go b4);have HS5:=Lib.hid (HS4.out.go b4);have HB4:=Lib.hid (up HB.out b4);have c6:=HX4.out.cell 6;have f6:=HX4.out.frozen 6;clear p0 p1 p2 p3 p4 p5 p6 p7 hou b4 HBO HR HM HS4 HB HUn HP;go_upto_region 11 with fail;refine abs_w (fun W=>Blk (w.heap.size+1+1) (.cells #[.int .i64 n.me,.int .i64 n.epoch,.int .i64 n.up,.bool n.ready,.string n.text,.slice xa n.sides.length xc,.slice pa n.undo.length pc,.slice va n.marks.length vc] 31 (0,0)) W∧Touch (fun z=>z=w.heap.size+1+1) w4 W) ⟨HX4.out.set 6 _,Touch.setCell (S:=fun z=>z=w.heap.size+1+1) (Touch.refl _ _) (.inl rfl) _⟩ ?_;rintro w5 ⟨x5,t5⟩;have hr5:=HR4.out.touch t5 (by omega);have T05:=Lib.hid t5;obtain⟨p0,p1,p2,p3,p4,p5,p6,p7⟩:=blk8_cells x5;obtain⟨r0,r1,r2,r3,r4,r5,r6,r7⟩:=blk8_cells hr5;have fr:=hr5.frozen;have HR5:=Lib.hid hr5;clear x5 t5 hr5 c6 f6 HX4 HR4;go_wp2_with fail;refine abs_ret (fun W=>Blk (w.heap.size+1) (.cells #[.int .i64 n.me,.int .i64 n.epoch,.int .i64 n.up,.bool n.ready,.string n.text,.slice xa n.sides.length xc,.slice pa n.undo.length pc,.slice va n.marks.length vc] 31 (0,0)) W∧Touch (fun z=>z=w.heap.size+1) w5 W) ⟨blk_set8 HR5.out (.int .i64 n.me) (.int .i64 n.epoch) (.int .i64 n.up) (.bool n.ready) (.string n.text) (.slice xa n.sides.length xc) (.slice pa n.undo.length pc) (.slice va n.marks.length vc),touch8 w5 (w.heap.size+1) (.int .i64 n.me) (.int .i64 n.epoch) (.int .i64 n.up) (.bool n.ready) (.string n.text) (.slice xa n.sides.length xc) (.slice pa n.undo.length pc) (.slice va n.marks.length vc)⟩ ?_;rintro w6 ⟨x6,t6⟩;obtain⟨q0,q1,q2,q3,q4,q5,q6,q7⟩:=blk8_cells x6;have HT:Hid (Touch (fun z=>z=w.heap.size+1∨z=w.heap.size+1+1) w4 w6):=(T05.out.mono fun z _ hz=>.inr hz).trans (t6.mono fun z _ hz=>.inl hz);have hz6:=HT.out.size;clear p0 p1 p2 p3 p4 p5 p6 p7 r0 r1 r2 r3 r4 r5 r6 r7 fr x6 t6 HR5 T05;refine bodyPost_ret (v:=.agg #[.int .i64 n.me,.int .i64 n.epoch,.int .i64 n.up,.bool n.ready,.string n.text,.slice xa n.sides.length xc,.slice pa n.undo.length pc,.slice va n.marks.length vc]) (by simp[results,Tryd.results55,go_sem,q0,q1,q2,q3,q4,q5,q6,q7]) rfl ?_;refine Hpost.out w2.heap.size wr.heap.size _ _ _ w6 (by omega) (by omega) (by omega) ?_ ?_ ?_ ?_ (fun z hz=>(Hvm.out z hz).2) (fun z hz=>(Hvs.out z hz).2)
   ·refine((HM4.out.touch HT.out (fun z hz hs=>⟨by omega,fun e=>by have:=(Hvm.out z e).1;omega⟩)).more (X':=fun z=>z<w.heap.size∨w2.heap.size≤z) (fun z hz hx=>by omega))
   ·exact HS5.out.touch HT.out (fun z hz hs=>⟨by omega,fun e=>by have:=(Hvs.out z e).1;omega⟩)
   ·exact HU4.out.touch HT.out (fun z hz hs=>⟨by omega,fun e=>by have:=(HU4.out.rowlt z e).1;omega⟩)
   ·exact HB4.out.trans (HT.out.toBelow (by omega) (fun z hz=>by omega))
end Go.Proofs.YtkbfhgcjimfgkaaDoor
