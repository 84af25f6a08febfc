/- The walk of node.Begin at what is not refused. -/
import Derived.Test.YtkbfhgcjimfgkaaDoorPartC0
import Derived.Test.YtkbfhgcjimfgkaaDoorPartB4
import Derived.Test.YtkbfhgcjimfgkaaDoorPartB8
set_option linter.unusedVariables false
set_option linter.unusedSimpArgs false
set_option linter.unusedSimpArgs false
namespace Go.Proofs.YtkbfhgcjimfgkaaDoor
open Go.RowKit
def Tn.joinFr (t:Tn):Fr:=⟨2,t.node.up,t.node.epoch,[],noText⟩
def Tn.relink (t:Tn):Tn:=t.setSide 0 {t.side 0 with l:=openLk t.node.epoch}
def Tn.join (t:Tn):Tn:=t.relink.send 0 t.joinFr
theorem openLk_fits (ep:Int):(openLk ep).fits:=by
 unfold openLk;split
 ·exact⟨by unfold I64;decide,by unfold I64;decide,by unfold I64;decide⟩
 ·exact⟨by unfold I64;simp only;omega,by unfold I64;simp,by unfold I64;simp⟩
theorem openLk_nil (ep:Int):(openLk ep).sent=[]∧(openLk ep).queue=[]∧(openLk ep).heard=0:=by
 unfold openLk;split<;>exact⟨rfl,rfl,rfl⟩
theorem side_setSide {t:Tn}{s:Nat}{y:Sd}(hs:s<t.node.sides.length):(t.setSide s y).side s=y:=by
 unfold Tn.side Tn.setSide;simp only[List.getD_eq_getElem?_getD];rw[List.getElem?_set_self hs];rfl
set_option maxRecDepth 100000 in
set_option maxHeartbeats 8000000 in
theorem ndJoin_any (base g:Nat)(t:Tn)(vs:Nat→Value)(w:World)(hg:Good w)(h:WkM base g t vs w)(hs:0<t.node.sides.length)(hn:t.posts.length≤1000000):
 Calls Tryd.prog 28 #[.pointer (some ⟨g,0,none⟩)] w fun e w'=>e=.returned (.tuple #[])∧WkS base g t.join vs w w':=by
 have HM:=Lib.hid h;have Hg:=Lib.hid hg;obtain⟨sr,so,sc,sxs,hv0,hsr1,hsr2,hsr3,hsr4,hsr5,hsr6,hsr7,hsr8⟩:=h.side 0 hs;have hft:=h.fit;have HO:=Lib.hid (fun W=>open_any t.node.epoch W hft.2.1);obtain⟨on1,on2,on3⟩:=openLk_nil t.node.epoch;have hof:=openLk_fits t.node.epoch;have HNP:=Lib.hid (fun W=>node_ptr g W);have HV0:=Lib.hid hv0;have Hmine:=Lib.hid h.mine;have hsI2:(0:Int)<(t.node.sides.length:Int):=by omega
 have hsI:(0:Int)<(sc:Int):=by omega
 have hsc:(sc:Int)≤9223372036854775807:=by unfold maxLen at hsr5;omega
 have hRel:t.relink=t.setSide 0 {t.side 0 with l:=openLk t.node.epoch}:=rfl;have HSd:=Lib.hid (fun(W:World)(vs':Nat→Value)(hW:Good W)(hM:WkM base g t.relink vs' W)=>ndSend_any base g t.relink vs' 0 t.joinFr none 0 W hW hM (by rw[hRel,len_setSide];exact hs) (RdS.nil _ _) ⟨by show I64 2;unfold I64;decide,hft.2.2.1,hft.2.1,by show noText.size≤strMax;rw[noText_size];unfold strMax;omega⟩ hn (by rw[hRel,side_setSide hs];simp only;rw[on2];simp));generalize hlk:openLk t.node.epoch=lk at*;have Hof:=Lib.hid hof;have Hon:=Lib.hid (And.intro on1 (And.intro on2 on3));have HRel:=Lib.hid hRel;have hxs:∀j v,sxs[j]?=some v→w.cell? ⟨sr,so+j,none⟩=some v:=fun j v hj=>by have:=hsr7 j v hj;simpa using this
 have hlen:=Rep.len hsr6;have Hcl:Hid (∀j,j<10→(w.cell? ⟨sr,so+j,none⟩).isSome=true):=fun j hj=>by
  have h10:j<sxs.length:=by rw[hlen];exact hj
  rw[hxs j sxs[j] (List.getElem?_eq_getElem h10)];rfl
 have HFr:=Lib.hid (fun j (hj:j<sc*10)=>hsr8 j hj);have bx:=h.box;obtain⟨-,p1,p2,-,-,p5,-⟩:=blk10_cells bx;rw[HV0.out]at p5;have Hepo:=Lib.hid hft;clear hsr6 hsr7 hsr8 hxs hlen hof on1 on2 on3 hRel hft hv0 h hg hn bx hlk;generalize hNS:t.node.sides.length=NS at*;have HNS:=Lib.hid hNS;clear hNS;go_enter Tryd.func28,Tryd.ntmps28;go_wp2_with fail;refine(HNP.out w).mono ?_;rintro e W' ⟨rfl,rfl⟩;go_wp2_with fail;refine(HO.out w).mono ?_;rintro e w1 ⟨rfl,b1⟩;have B1:=Lib.hid b1;clear b1;go_wp2_with fail;refine abs_w (fun W=>Below w1.heap.size w1 W∧Blk w1.heap.size (.cells #[.int .i64 lk.epoch,.int .i64 lk.next,.slice none 0 0,.slice none 0 0,.int .i64 0] 70 (0,0)) W) ⟨(Below.refl _ _).alloc (Nat.le_refl _) _,Blk.new w1 _⟩ ?_;rintro w2 ⟨b2,x2⟩;have B2:=Lib.hid (up B1.out b2);have X2:=Lib.hid x2;have M2:=Lib.hid (HM.out.go B2.out);have hz1:=B1.out.size;have hz2:=B2.out.size;clear b2 x2 p1 p2 p5;obtain⟨Vp,HV⟩:∃Vp:Nat→Value→World→Prop,Hid (Vp=fun i v W=>match i with
  |0=>v=.pointer (some ⟨g,0,none⟩)
  |1=>v=.pointer (some ⟨g,0,none⟩)
  |2=>v=.pointer (some ⟨g,5,none⟩)
  |3=>v=.slice (some ⟨sr,so,none⟩) NS sc
  |4=>v=.agg #[.int .i64 lk.epoch,.int .i64 lk.next,.slice none 0 0,.slice none 0 0,.int .i64 0]
  |5=>v=.pointer (some ⟨sr,so,none⟩)
  |6=>v=.pointer (some ⟨sr,so+5,none⟩)
  |_=>v=undef):=⟨_,rfl⟩
 obtain⟨Ip,HIp⟩:∃Ip:(Nat→Bool)→(Nat→Value)→World→Prop,Hid (Ip=fun L x W=>(Touch (Mine g vs) w2 W∧(L 7=false→WkM base g t vs W∧W.heap[sr]?=w2.heap[sr]?)∧(L 7=true→WkM base g t.relink vs W))):=⟨_,rfl⟩;refine region_lit3 (by kernel_rfl) (by kernel_rfl) (by kernel_rfl) [[],[0],[0,1],[0,1,2],[],[0,1,2,3],[0,1,2,3,5],[0,1,2,3,4,5,6]] (by kernel_rfl) [some 15,some 16,some 17,some 18,some 19,some 20,some 21,none] (by kernel_rfl) [[0,1,2,3,5,6,7],[1,2,3,5,6,7],[2,3,5,6,7],[3,5,6,7],[4,7],[5,6,7],[6,7],[7]] (by kernel_rfl) [[],[],[],[],[],[],[],[]] [[],[0],[1],[2],[],[3],[5],[4,6]] (by kernel_rfl)
  Ip
  Vp
  (fun j W W'=>match j with
   |7=>Touch (Mine g vs) W W'
   |_=>Below W.heap.size W W')
  [fun x=>⟨(fZm 2 (.pointer (some ⟨g,0,none⟩)) (fEm 13)).toArray,[]⟩,fun x=>⟨(fZm 15 (x 0) (fEm 1)).toArray,[]⟩,fun x=>⟨(fZm 16 (x 1) (fEm 1)).toArray,[]⟩,fun x=>⟨(fZm 17 (x 2) (fEm 1)).toArray,[]⟩,fun x=>⟨(fZm 3 (.pointer (some ⟨w1.heap.size,0,none⟩)) (fEm 16)).toArray,[]⟩,fun x=>⟨(fZm 18 (x 3) (fEm 2)).toArray,[]⟩,fun x=>⟨(fZm 20 (x 5) (fEm 1)).toArray,[]⟩,fun x=>⟨(fZm 19 (x 4) (fZm 1 (x 6) [])).toArray,[]⟩]
  ?hF ?mono ?h0 ?step [0,1,2,3,4,5,6,7] (by kernel_rfl) ?fin
 case hF=>
  iterate 8 refine⟨fun x=>⟨by kernel_rfl,by kernel_rfl⟩,?_⟩
  trivial
 case mono=>
  intro i j hi hj hne hna hnk v W W' hE hv;rw[HV.out]at hv⊢;simp only[List.length_cons,List.length_nil]at hi hj
  match i,hi with
  |0,_|1,_|2,_|3,_|4,_|5,_|6,_|7,_=>exact hv
  |m+8,h=>exact absurd h (by omega)
 case h0=>intro x;exact toI HIp ⟨(Touch.refl _ _).drew,(fun _=>⟨M2.out.go (Below.refl _ _).drew,rfl⟩),(fun h=>by cases h)⟩
 case step=>
  refine⟨?_,?_,?_,?_,?_,?_,?_,?_,trivial⟩
  all_goals
   intro x W L hI hL hV;replace hI:(Touch (Mine g vs) w2 W∧(L 7=false→WkM base g t vs W∧W.heap[sr]?=w2.heap[sr]?)∧(L 7=true→WkM base g t.relink vs W)):=ofI HIp hI;rw[HV.out]at hV;simp only[AllV,and_true]at hV;dsimp only[fZm,fEm,List.reduceReplicate,List.cons_append,List.nil_append]
  ·clear hV;have HI:=Lib.hid hI;clear hI;go_wp2_with fail;refine step3_done rfl ?_ ?_ ?_
   ·exact(toI HIp HI.out)
   ·exact(Below.refl _ _)
   ·exact(toV HV rfl)
  ·have u0:=hV;clear hV;simp only[u0];clear u0;have HI:=Lib.hid hI;clear hI;go_wp2_with fail;refine step3_done rfl ?_ ?_ ?_
   ·exact(toI HIp HI.out)
   ·exact(Below.refl _ _)
   ·exact(toV HV rfl)
  ·have u1:=hV;clear hV;simp only[u1];clear u1;have HI:=Lib.hid hI;clear hI;go_wp2_with fail;refine step3_done rfl ?_ ?_ ?_
   ·exact(toI HIp HI.out)
   ·exact(Below.refl _ _)
   ·exact(toV HV rfl)
  ·have u2:=hV;clear hV;simp only[u2];clear u2;obtain⟨-,-,-,-,-,p5,-⟩:=blk10_cells (hI.2.1 (hL.2 7 (by simp))).1.box;rw[HV0.out]at p5;have HI:=Lib.hid hI;clear hI;go_wp2_with fail;refine step3_done rfl ?_ ?_ ?_
   ·exact(toI HIp HI.out)
   ·exact(Below.refl _ _)
   ·exact(toV HV rfl)
  ·clear hV;obtain⟨q0,q1,q2,q3,q4⟩:=blk_cells5 (X2.out.touch hI.1 (fun h=>by have:=(Hmine.out _ h).2;omega));have HI:=Lib.hid hI;clear hI;go_wp2_with fail;refine step3_done rfl ?_ ?_ ?_
   ·exact(toI HIp HI.out)
   ·exact(Below.refl _ _)
   ·exact(toV HV rfl)
  ·have u3:=hV;clear hV;simp only[u3];clear u3;have HI:=Lib.hid hI;clear hI;go_wp2_with fail;refine step3_done rfl ?_ ?_ ?_
   ·exact(toI HIp HI.out)
   ·exact(Below.refl _ _)
   ·exact(toV HV rfl)
  ·have u5:=hV;clear hV;simp only[u5];clear u5;have HI:=Lib.hid hI;clear hI;go_wp2_with fail;refine step3_done rfl ?_ ?_ ?_
   ·exact(toI HIp HI.out)
   ·exact(Below.refl _ _)
   ·exact(toV HV rfl)
  ·obtain⟨u4,u6⟩:=hV;simp only[u4,u6];clear u4 u6;have hM:=(hI.2.1 (hL.2 7 (by simp))).1;have hrw:W.heap[sr]?=w.heap[sr]?:=(hI.2.1 (hL.2 7 (by simp))).2.trans (B2.out.block sr hsr2);have hq:∀j,j<10→∃v,W.cell? ⟨sr,so+j,none⟩=some v:=fun j hj=>by
    rw[cell_keep hrw];exact Option.isSome_iff_exists.1 (Hcl.out j hj)
   have hfr:∀j,j<sc*10→W.frozen? ⟨sr,so+j,none⟩=false:=fun j hj=>(World.frozen?_of_block (a:=⟨sr,so+j,none⟩) hrw).trans (HFr.out j hj);obtain⟨c5,k5⟩:=hq 5 (by omega);obtain⟨c6,k6⟩:=hq 6 (by omega);obtain⟨c7,k7⟩:=hq 7 (by omega);obtain⟨c8,k8⟩:=hq 8 (by omega);obtain⟨c9,k9⟩:=hq 9 (by omega);have f5:=hfr 5 (by omega);have f6:=hfr 6 (by omega);have f7:=hfr 7 (by omega);have f8:=hfr 8 (by omega);have f9:=hfr 9 (by omega);have hup:=hM.updLink (r:=sr) (o:=so) (c:=sc) 0 (by rw[HNS.out];exact hs) (by rw[HNS.out];exact HV0.out) lk Hof.out none 0 none 0 (by rw[Hon.out.1];exact RdS.nil _ _) (by rw[Hon.out.2.1];exact RdS.nil _ _);rw[←HRel.out,Hon.out.1,Hon.out.2.1,Hon.out.2.2]at hup;simp only[Nat.zero_mul,Nat.add_zero,List.length_nil]at hup;have HU:=Lib.hid hup;have HL:=Lib.hid hL;have HI:=Lib.hid hI;clear hI hL hM hrw hq hfr hup;go_wp2_with fail;refine step3_done (v:=undef) rfl ?_ ?_ ?_
   ·exact(toI HIp ⟨HI.out.1.trans HU.out.2,(fun h=>absurd h (by simp[setB])),(fun _=>HU.out.1)⟩)
   ·exact HU.out.2
   ·exact(toV HV rfl)
 case fin=>
  intro x W L hL hI hV;replace hI:(Touch (Mine g vs) w2 W∧(L 7=false→WkM base g t vs W∧W.heap[sr]?=w2.heap[sr]?)∧(L 7=true→WkM base g t.relink vs W)):=ofI HIp hI;rw[HV.out]at hV;simp only[AllV,and_true]at hV;obtain⟨u0,u1,u2,u3,u4,u5,u6,u7⟩:=hV;simp only[getsD,List.getD_cons_succ,List.getD_cons_zero,List.length_cons,List.length_nil,List.range,List.range.loop,u0,u1,u2,u3,u4,u5,u6,u7,Act.put,List.setIfInBounds_toArray,List.set_cons_succ,List.set_cons_zero];clear u0 u1 u2 u3 u4 u5 u6 u7;have hM:=hI.2.2 (hL 7 (by simp));have hT:=hI.1;have M3:=Lib.hid hM;have T3:Hid (Touch (Mine g vs) w W):=(Touch.of_below B2.out).trans hT;obtain⟨w3,rfl⟩:∃x:World,x=W:=⟨_,rfl⟩;have G3:=Lib.hid (Hg.out.wk HM.out T3.out);clear hI hL hM hT M2 X2 B2 B1;go_wp2_with fail;obtain⟨Vp,HV⟩:∃Vp:Nat→Value→World→Prop,Hid (Vp=fun i v W=>match i with
   |0=>v=.pointer (some ⟨g,0,none⟩)
   |1=>v=.pointer (some ⟨g,0,none⟩)
   |2=>v=.pointer (some ⟨g,0,none⟩)
   |3=>v=.pointer (some ⟨g,1,none⟩)
   |4=>v=.int .i64 t.node.epoch
   |5=>v=.pointer (some ⟨g,0,none⟩)
   |6=>v=.pointer (some ⟨g,0,none⟩)
   |7=>v=.pointer (some ⟨g,2,none⟩)
   |8=>v=.int .i64 t.node.up
   |9=>v=.agg #[.int .i64 2,.int .i64 t.node.up,.int .i64 t.node.epoch,.slice none 0 0,.string ⟨#[]⟩]
   |_=>v=.tuple #[]):=⟨_,rfl⟩
  obtain⟨Ip,HIp⟩:∃Ip:(Nat→Bool)→(Nat→Value)→World→Prop,Hid (Ip=fun L x W=>((L 10=false→Below w3.heap.size w3 W)∧(L 10=true→WkS base g t.join vs w3 W))):=⟨_,rfl⟩;refine region_lit3 (by kernel_rfl) (by kernel_rfl) (by kernel_rfl) [[],[],[1],[1,2],[1,2,3],[],[5],[5,6],[5,6,7],[1,2,3,4,5,6,7,8],[0,1,2,3,4,5,6,7,8,9]] (by kernel_rfl) [some 22,some 23,some 24,some 25,some 26,some 27,some 28,some 29,some 30,some 31,some 32] (by kernel_rfl) [[0,10],[1,2,3,4,9,10],[2,3,4,9,10],[3,4,9,10],[4,9,10],[5,6,7,8,9,10],[6,7,8,9,10],[7,8,9,10],[8,9,10],[9,10],[10]] (by kernel_rfl) [[],[],[],[],[],[],[],[],[],[],[]] [[],[],[1],[2],[3],[],[5],[6],[7],[4,8],[0,9]] (by kernel_rfl)
   Ip
   Vp
   (fun j W W'=>match j with
    |10=>True
    |_=>Below W.heap.size W W')
   [fun x=>⟨(fZm 0 (.pointer (some ⟨g,0,none⟩)) (fEm 22)).toArray,[]⟩,fun x=>⟨(fZm 2 (.pointer (some ⟨g,0,none⟩)) (fEm 21)).toArray,[]⟩,fun x=>⟨(fZm 23 (x 1) (fEm 1)).toArray,[]⟩,fun x=>⟨(fZm 24 (x 2) (fEm 1)).toArray,[]⟩,fun x=>⟨(fZm 25 (x 3) (fEm 1)).toArray,[]⟩,fun x=>⟨(fZm 2 (.pointer (some ⟨g,0,none⟩)) (fEm 25)).toArray,[]⟩,fun x=>⟨(fZm 27 (x 5) (fEm 1)).toArray,[]⟩,fun x=>⟨(fZm 28 (x 6) (fEm 1)).toArray,[]⟩,fun x=>⟨(fZm 29 (x 7) (fEm 1)).toArray,[]⟩,fun x=>⟨(fZm 26 (x 4) (fZm 3 (x 8) (fEm 1))).toArray,[]⟩,fun x=>⟨(fZm 22 (x 0) (fZm 8 (x 9) (fEm 1))).toArray,[]⟩]
   ?hF ?mono ?h0 ?step [0,1,2,3,4,5,6,7,8,9,10] (by kernel_rfl) ?fin
  case hF=>
   iterate 11 refine⟨fun x=>⟨by kernel_rfl,by kernel_rfl⟩,?_⟩
   trivial
  case mono=>
   intro i j hi hj hne hna hnk v W W' hE hv;rw[HV.out]at hv⊢;simp only[List.length_cons,List.length_nil]at hi hj
   match i,hi with
   |0,_|1,_|2,_|3,_|4,_|5,_|6,_|7,_|8,_|9,_|10,_=>exact hv
   |m+11,h=>exact absurd h (by omega)
  case h0=>intro x;exact toI HIp ⟨(fun _=>(Below.refl _ _).drew),(fun h=>by cases h)⟩
  case step=>
   refine⟨?_,?_,?_,?_,?_,?_,?_,?_,?_,?_,?_,trivial⟩
   all_goals
    intro x W L hI hL hV;replace hI:((L 10=false→Below w3.heap.size w3 W)∧(L 10=true→WkS base g t.join vs w3 W)):=ofI HIp hI;rw[HV.out]at hV;simp only[AllV,and_true]at hV;dsimp only[fZm,fEm,List.reduceReplicate,List.cons_append,List.nil_append]
   ·clear hV;have HI:=Lib.hid hI;clear hI;go_wp2_with fail;refine step3_done rfl ?_ ?_ ?_
    ·exact(toI HIp HI.out)
    ·exact(Below.refl _ _)
    ·exact(toV HV rfl)
   ·clear hV;have HI:=Lib.hid hI;clear hI;go_wp2_with fail;refine step3_done rfl ?_ ?_ ?_
    ·exact(toI HIp HI.out)
    ·exact(Below.refl _ _)
    ·exact(toV HV rfl)
   ·have u1:=hV;clear hV;simp only[u1];clear u1;have HI:=Lib.hid hI;clear hI;go_wp2_with fail;refine step3_done rfl ?_ ?_ ?_
    ·exact(toI HIp HI.out)
    ·exact(Below.refl _ _)
    ·exact(toV HV rfl)
   ·have u2:=hV;clear hV;simp only[u2];clear u2;have HI:=Lib.hid hI;clear hI;go_wp2_with fail;refine step3_done rfl ?_ ?_ ?_
    ·exact(toI HIp HI.out)
    ·exact(Below.refl _ _)
    ·exact(toV HV rfl)
   ·have u3:=hV;clear hV;simp only[u3];clear u3;have hMW:=M3.out.go (hI.1 (hL.2 10 (by simp)));obtain⟨-,p1,-⟩:=blk10_cells hMW.box;have HI:=Lib.hid hI;clear hI hMW;have hp1:W.cell? ⟨g,1,none⟩=some (.int .i64 t.node.epoch):=p1;clear p1;go_wp2_with fail;refine step3_done rfl ?_ ?_ ?_
    ·exact(toI HIp HI.out)
    ·exact(Below.refl _ _)
    ·exact(toV HV rfl)
   ·clear hV;have HI:=Lib.hid hI;clear hI;go_wp2_with fail;refine step3_done rfl ?_ ?_ ?_
    ·exact(toI HIp HI.out)
    ·exact(Below.refl _ _)
    ·exact(toV HV rfl)
   ·have u5:=hV;clear hV;simp only[u5];clear u5;have HI:=Lib.hid hI;clear hI;go_wp2_with fail;refine step3_done rfl ?_ ?_ ?_
    ·exact(toI HIp HI.out)
    ·exact(Below.refl _ _)
    ·exact(toV HV rfl)
   ·have u6:=hV;clear hV;simp only[u6];clear u6;have HI:=Lib.hid hI;clear hI;go_wp2_with fail;refine step3_done rfl ?_ ?_ ?_
    ·exact(toI HIp HI.out)
    ·exact(Below.refl _ _)
    ·exact(toV HV rfl)
   ·have u7:=hV;clear hV;simp only[u7];clear u7;have hMW:=M3.out.go (hI.1 (hL.2 10 (by simp)));obtain⟨-,-,p2,-⟩:=blk10_cells hMW.box;have HI:=Lib.hid hI;clear hI hMW;have hp2:W.cell? ⟨g,2,none⟩=some (.int .i64 t.node.up):=p2;clear p2;go_wp2_with fail;refine step3_done rfl ?_ ?_ ?_
    ·exact(toI HIp HI.out)
    ·exact(Below.refl _ _)
    ·exact(toV HV rfl)
   ·obtain⟨u4,u8⟩:=hV;simp only[u4,u8];clear u4 u8;have HI:=Lib.hid hI;clear hI;go_wp2_with fail;refine step3_done rfl ?_ ?_ ?_
    ·exact(toI HIp HI.out)
    ·exact(Below.refl _ _)
    ·exact(toV HV rfl)
   ·obtain⟨u0,u9⟩:=hV;simp only[u0,u9];clear u0 u9;have hb:=hI.1 (hL.2 10 (by simp));have HB:=Lib.hid hb;clear hI hL hb;go_wp2_with fail;refine(HSd.out W vs (G3.out.go HB.out) (M3.out.go HB.out)).mono ?_;rintro e W' ⟨rfl,hs'⟩;have HW:Hid (WkS base g t.join vs w3 W'):=WkS.trans (Touch.of_below HB.out) (fun z h=>.inl h) hs';clear hs';go_wp2_with fail;refine step3_done rfl ?_ ?_ ?_
    ·exact(toI HIp ⟨(fun h=>absurd h (by simp[setB])),(fun _=>HW.out)⟩)
    ·exact trivial
    ·exact(toV HV rfl)
  case fin=>
   intro x W L hL hI hV;replace hI:((L 10=false→Below w3.heap.size w3 W)∧(L 10=true→WkS base g t.join vs w3 W)):=ofI HIp hI;rw[HV.out]at hV;simp only[AllV,and_true]at hV;obtain⟨u0,u1,u2,u3,u4,u5,u6,u7,u8,u9,u10⟩:=hV;simp only[getsD,List.getD_cons_succ,List.getD_cons_zero,List.length_cons,List.length_nil,List.range,List.range.loop,u0,u1,u2,u3,u4,u5,u6,u7,u8,u9,u10,Act.put,List.setIfInBounds_toArray,List.set_cons_succ,List.set_cons_zero];clear u0 u1 u2 u3 u4 u5 u6 u7 u8 u9 u10;have hW:=hI.2 (hL 10 (by simp));have HW:Hid (WkS base g t.join vs w W):=WkS.trans T3.out (fun z h=>.inl h) hW;clear hI hL hW;go_wp2_with fail;go_end0;exact⟨rfl,HW.out⟩
end Go.Proofs.YtkbfhgcjimfgkaaDoor
set_option linter.unusedSimpArgs false
namespace Go.Proofs.YtkbfhgcjimfgkaaDoor
open Go.RowKit
theorem WkM.new {base g:Nat}{me epoch up:Int}{ready:Bool}{s:Str}{w:World}(hb:Blk g (.cells #[.int .i64 me,.int .i64 epoch,.int .i64 up,.bool ready,.string s,.slice none 0 0,.slice none 0 0,.slice none 0 0,.slice none 0 0,.slice none 0 0] 82 (0,0)) w)(hg:base≤g)(h2:2≤base)(hf:I64 me∧I64 epoch∧I64 up∧s.size≤strMax):
 WkM base g ⟨⟨me,epoch,up,ready,s,[],[],[]⟩,[],[]⟩ (fun _=>.slice none 0 0) w:=
 ⟨hb,(fun j hj=>by
  match j,hj with
  |0,_=>exact OwnO.nil
  |1,_=>exact OwnO.nil
  |2,_=>exact OwnO.nil
  |3,_=>exact OwnO.nil
  |4,_=>exact OwnO.nil),hg,(fun i hi z hz=>by cases hz),(fun i j hi hj hij z hz=>by cases hz),hf,h2⟩
theorem WkG.val {base g:Nat}{t:Tn}{vs:Nat→Value}{w:World}(h:WkM base g t vs w):TnVal (Fresh base w) t (.agg (tnCells t vs)) w:=by
 have key:∀{α:Type} [Rep α] {l:List α} {j:Nat},j<5→OwnO (WX base g vs) base (vs j) l w→∃a c,vs j=.slice a l.length c∧RdS (Fresh base w) w l a l.length c:=by
  intro α _ l j hj ho;rcases ho.row with⟨a,hv,hl,h2⟩|⟨q,off,cap,hv,h1,h2,h3,h4,h5,h6⟩
  ·subst hl;exact⟨a,0,hv,RdS.empty' _ _ _⟩
  ·exact⟨_,cap,hv,rfl,h3,h4,(fun e=>by cases e),fun _=>⟨q,off,rfl,⟨h1,h2⟩,h2,h6.imp rfl fun b hb=>⟨⟨Nat.le_of_not_lt fun hlt=>hb.2.1 (.inl hlt),hb.1⟩,rfl⟩⟩⟩
 exact⟨vs,rfl,h.fit,key (by omega) (h.rows 0 (by omega)),key (by omega) (h.rows 1 (by omega)),key (by omega) (h.rows 2 (by omega)),key (by omega) (h.rows 3 (by omega)),key (by omega) (h.rows 4 (by omega))⟩
def TurnP (t:Tn)(w:World)(e:Ending)(w':World):Prop:=∃v,e=.returned (.tuple #[v,.int .i64 0])∧TnVal (Fresh w.heap.size w') t v w'∧Below w.heap.size w w'
theorem TnVal.open {A:Nat→Prop}{t:Tn}{v:Value}{w:World}(h:TnVal A t v w):∃a0 c0 a1 c1 a2 c2 a3 c3 a4 c4,v=.agg #[.int .i64 t.node.me,.int .i64 t.node.epoch,.int .i64 t.node.up,.bool t.node.ready,.string t.node.text,.slice a0 t.node.sides.length c0,.slice a1 t.node.undo.length c1,.slice a2 t.node.marks.length c2,.slice a3 t.posts.length c3,.slice a4 t.recs.length c4]∧t.node.fits∧
 RdS A w t.node.sides a0 t.node.sides.length c0∧RdS A w t.node.undo a1 t.node.undo.length c1∧RdS A w t.node.marks a2 t.node.marks.length c2∧RdS A w t.posts a3 t.posts.length c3∧RdS A w t.recs a4 t.recs.length c4:=by
 obtain⟨us,e,hf,⟨a0,c0,e0,r0⟩,⟨a1,c1,e1,r1⟩,⟨a2,c2,e2,r2⟩,⟨a3,c3,e3,r3⟩,a4,c4,e4,r4⟩:=h;refine⟨a0,c0,a1,c1,a2,c2,a3,c3,a4,c4,?_,hf,r0,r1,r2,r3,r4⟩;rw[e];unfold tnCells;rw[e0,e1,e2,e3,e4]
theorem turn_out {base g b B:Nat}{t:Tn}{vs:Nat→Value}{w W:World}(h:WkM base g t vs W)(hx:Blk b (.cells zeroTn 35 (0,0)) W)(h1:b<base)(h2:B≤b)(h3:Below B w W):
 ∃a0 c0 a1 c1 a2 c2 a3 c3 a4 c4,Blk g (.cells #[.int .i64 t.node.me,.int .i64 t.node.epoch,.int .i64 t.node.up,.bool t.node.ready,.string t.node.text,.slice a0 t.node.sides.length c0,.slice a1 t.node.undo.length c1,.slice a2 t.node.marks.length c2,.slice a3 t.posts.length c3,.slice a4 t.recs.length c4] 82 (0,0)) W∧Blk b (.cells #[.int .i64 t.node.me,.int .i64 t.node.epoch,.int .i64 t.node.up,.bool t.node.ready,.string t.node.text,.slice a0 t.node.sides.length c0,.slice a1 t.node.undo.length c1,.slice a2 t.node.marks.length c2,.slice a3 t.posts.length c3,.slice a4 t.recs.length c4] 35 (0,0)) (set10w W b (.int .i64 t.node.me) (.int .i64 t.node.epoch) (.int .i64 t.node.up) (.bool t.node.ready) (.string t.node.text) (.slice a0 t.node.sides.length c0) (.slice a1 t.node.undo.length c1) (.slice a2 t.node.marks.length c2) (.slice a3 t.posts.length c3) (.slice a4 t.recs.length c4))∧
  TnVal (Fresh B (set10w W b (.int .i64 t.node.me) (.int .i64 t.node.epoch) (.int .i64 t.node.up) (.bool t.node.ready) (.string t.node.text) (.slice a0 t.node.sides.length c0) (.slice a1 t.node.undo.length c1) (.slice a2 t.node.marks.length c2) (.slice a3 t.posts.length c3) (.slice a4 t.recs.length c4))) t (.agg #[.int .i64 t.node.me,.int .i64 t.node.epoch,.int .i64 t.node.up,.bool t.node.ready,.string t.node.text,.slice a0 t.node.sides.length c0,.slice a1 t.node.undo.length c1,.slice a2 t.node.marks.length c2,.slice a3 t.posts.length c3,.slice a4 t.recs.length c4]) (set10w W b (.int .i64 t.node.me) (.int .i64 t.node.epoch) (.int .i64 t.node.up) (.bool t.node.ready) (.string t.node.text) (.slice a0 t.node.sides.length c0) (.slice a1 t.node.undo.length c1) (.slice a2 t.node.marks.length c2) (.slice a3 t.posts.length c3) (.slice a4 t.recs.length c4))∧Below B w (set10w W b (.int .i64 t.node.me) (.int .i64 t.node.epoch) (.int .i64 t.node.up) (.bool t.node.ready) (.string t.node.text) (.slice a0 t.node.sides.length c0) (.slice a1 t.node.undo.length c1) (.slice a2 t.node.marks.length c2) (.slice a3 t.posts.length c3) (.slice a4 t.recs.length c4)):=by
 have hv:=h.val;have hgl:=hx.lt;have hsz:=h3.size;obtain⟨us,e,hf,⟨a0,c0,e0,r0⟩,⟨a1,c1,e1,r1⟩,⟨a2,c2,e2,r2⟩,⟨a3,c3,e3,r3⟩,a4,c4,e4,r4⟩:=hv;have hbx:=h.box;have eb:tnCells t vs=tnCells t us:=by injection e
 rw[eb]at hbx;unfold tnCells at hbx;rw[e0,e1,e2,e3,e4]at hbx;have ht:=touch10 W b (.int .i64 t.node.me) (.int .i64 t.node.epoch) (.int .i64 t.node.up) (.bool t.node.ready) (.string t.node.text) (.slice a0 t.node.sides.length c0) (.slice a1 t.node.undo.length c1) (.slice a2 t.node.marks.length c2) (.slice a3 t.posts.length c3) (.slice a4 t.recs.length c4);have hA:∀z,Fresh base W z→Fresh B (set10w W b (.int .i64 t.node.me) (.int .i64 t.node.epoch) (.int .i64 t.node.up) (.bool t.node.ready) (.string t.node.text) (.slice a0 t.node.sides.length c0) (.slice a1 t.node.undo.length c1) (.slice a2 t.node.marks.length c2) (.slice a3 t.posts.length c3) (.slice a4 t.recs.length c4)) z∧(set10w W b (.int .i64 t.node.me) (.int .i64 t.node.epoch) (.int .i64 t.node.up) (.bool t.node.ready) (.string t.node.text) (.slice a0 t.node.sides.length c0) (.slice a1 t.node.undo.length c1) (.slice a2 t.node.marks.length c2) (.slice a3 t.posts.length c3) (.slice a4 t.recs.length c4)).heap[z]?=W.heap[z]?:=fun z hz=>⟨⟨by have:=hz.1;omega,Nat.lt_of_lt_of_le hz.2 ht.size⟩,ht.block z hz.2 (by have:=hz.1;omega)⟩;refine⟨a0,c0,a1,c1,a2,c2,a3,c3,a4,c4,hbx,blk_set10 hx _ _ _ _ _ _ _ _ _ _,⟨us,?_,hf,⟨a0,c0,e0,r0.mono hA⟩,⟨a1,c1,e1,r1.mono hA⟩,⟨a2,c2,e2,r2.mono hA⟩,⟨a3,c3,e3,r3.mono hA⟩,a4,c4,e4,r4.mono hA⟩,h3.trans (ht.toBelow (by omega) (fun z hz=>by omega))⟩;unfold tnCells;rw[e0,e1,e2,e3,e4]
end Go.Proofs.YtkbfhgcjimfgkaaDoor
set_option linter.unusedSimpArgs false
namespace Go.Proofs.YtkbfhgcjimfgkaaDoor
open Go.RowKit
def beginE (t:List Int)(me births:Int)(s:Str):Int:=
 if checkTree t≠0 then checkTree t else if me<0∨(t.length:Int)≤me then 13 else if births<1∨250<births then 2 else if checkText s≠0 then checkText s else if 0<me∧emptyS s=false then 4 else 0
end Go.Proofs.YtkbfhgcjimfgkaaDoor
set_option linter.unusedSimpArgs false
namespace Go.Proofs.YtkbfhgcjimfgkaaDoor
open Go.RowKit
def newSd (p:Int):Sd:=⟨p,false,⟨0,0,[]⟩,⟨0,1,[],[],0⟩⟩
def beginN (t:List Int)(me births:Int)(s:Str):Tn:=⟨⟨me,4096*births,0,me==0,s,(nbs t me).map newSd,[],[]⟩,[],[]⟩
def beginT (t:List Int)(me births:Int)(s:Str):Tn:=if 0<me then(beginN t me births s).join else beginN t me births s
theorem infoSd:(Tryd.prog.info? 72).map (fun i=>(i.zero,i.size,i.bytes))=some (some (.agg #[.int .i64 0,.bool false,.int .i64 0,.int .i64 0,.slice none 0 0,.int .i64 0,.int .i64 0,.slice none 0 0,.slice none 0 0,.int .i64 0]),10,128):=by kernel_rfl
theorem RdS.reI {A A':Nat→Prop}{w:World}{l:List Int}{a:Option Addr}{n c:Nat}(h:RdS A w l a n c)(hA:∀b off,a=some ⟨b,off,none⟩→A' b):RdS A' w l a n c:=
 ⟨h.1,h.2.1,h.2.2.1,h.2.2.2.1,fun hn=>by
  obtain⟨b,off,e,-,hb,he⟩:=h.2.2.2.2 hn;exact⟨b,off,e,hA b off e,hb,he⟩⟩
theorem beginE_zero {t:List Int}{me births:Int}{s:Str}(h:beginE t me births s=0):checkTree t=0∧0≤me∧me<t.length∧1≤births∧births≤250∧checkText s=0∧(0<me→emptyS s=true):=by
 unfold beginE at h;by_cases h1:checkTree t=0
 ·rw[if_neg (by simpa using h1)]at h;by_cases h2:me<0∨(t.length:Int)≤me
  ·rw[if_pos h2]at h;exact absurd h (by decide)
  ·rw[if_neg h2]at h;by_cases h3:births<1∨250<births
   ·rw[if_pos h3]at h;exact absurd h (by decide)
   ·rw[if_neg h3]at h;by_cases h4:checkText s=0
    ·rw[if_neg (by simpa using h4)]at h;by_cases h5:0<me∧emptyS s=false
     ·rw[if_pos h5]at h;exact absurd h (by decide)
     ·refine⟨h1,by omega,by omega,by omega,by omega,h4,fun hm=>?_⟩;cases he:emptyS s with
      |true=>rfl
      |false=>exact absurd ⟨hm,he⟩ h5
    ·rw[if_pos h4]at h;exact absurd h h4
 ·rw[if_pos h1]at h;exact absurd h h1
theorem WkG.addSide {base g:Nat}{t:Tn}{vs:Nat→Value}{w w':World}{v':Value}{y:Sd}(h:WkM base g t vs w)(hg:w.grownBy w' (vs 0).ownBlock)(hv:∀k,v'.ownBlock=some k→(vs 0).ownBlock=some k∨w.heap.size≤k)(hn:OwnO (WX base g vs) base v' (t.node.sides++[y]) w'):
 WkM base g {t with node:={t.node with sides:=t.node.sides++[y]}} (fun q=>if q=0 then v' else vs q) (w'.setCell ⟨g,5,none⟩ v')∧Touch (Mine g vs) w (w'.setCell ⟨g,5,none⟩ v')∧∀z,Mine g (fun q=>if q=0 then v' else vs q) z→Mine g vs z∨w.heap.size≤z:=by
 have h1:WkG base g {t with node:={t.node with sides:=t.node.sides++[y]}} vs (fun q=>if q=0 then v' else vs q) w':=h.grow (t':={t with node:={t.node with sides:=t.node.sides++[y]}}) (j:=0) (by omega) hg hv hn (fun i hi X v W h=>by
  match i,hi with
  |0,hi=>exact absurd rfl hi
  |1,_=>exact h
  |2,_=>exact h
  |3,_=>exact h
  |4,_=>exact h
  |i+5,_=>trivial) rfl h.fit
 have ht:=touch1 (w:=w') (g:=g) (i:=5) v';refine⟨h1.put ht (h1.box.set 5 v') (fun i X v W h=>h) h.fit,?_,?_⟩
 ·have hg':Touch (Mine g vs) w w':=⟨hg.os,hg.tape,hg.output,hg.size,fun k hk hs=>hg.block k hk fun e=>hs (.inr ⟨0,by omega,e.symm⟩)⟩;exact hg'.trans (ht.mono fun k _ hk=>.inl hk)
 ·rintro z (hz|⟨q,hq,hz⟩)
  ·exact .inl (.inl hz)
  ·by_cases e:q=0
   ·subst e;simp only[if_true]at hz;exact(hv z hz).imp_left fun h=>.inr ⟨0,by omega,h⟩
   ·simp only[if_neg e]at hz;exact .inl (.inr ⟨q,hq,hz⟩)
set_option maxRecDepth 100000 in
set_option maxHeartbeats 4000000 in
theorem begin_ok (t:List Int)(a:Option Addr)(n c:Nat)(m:Nat)(births:Int)(s:Str)(w:World)(hg:Good w)(hr:RdS (· <w.heap.size) w t a n c)(hb:I64 births)(hs:s.size≤strMax)(hE:beginE t (m:Int) births s=0):
 Calls Tryd.prog 12 #[.slice a n c,.int .i64 (m:Int),.int .i64 births,.string s] w (TurnP (beginT t (m:Int) births s) w):=by
 obtain⟨z1,-,z3,z4,z5,z6,z7⟩:=beginE_zero hE;have hnl:=hr.1;have hm7:t.length≤7:=by
  unfold checkTree at z1;by_cases h:t.length<1∨7<t.length
  ·rw[if_pos h]at z1;exact absurd z1 (by decide)
  ·omega
 have hmn:m<n:=by omega
 have HT:=Lib.hid (fun W (hW:Below w.heap.size w W)=>checkTree_any (· <W.heap.size) a n c t W (hr.go hW));have HC:=Lib.hid (fun W (hW:Below w.heap.size w W)=>checkText_any s W (hg.go hW) hs);have HN:=Lib.hid (fun W (hW:Below w.heap.size w W)=>nbs_any t a n c m W (hr.go hW) hmn (by omega));rw[z1]at HT;rw[z6]at HC;have hm1:¬(m:Int)<0:=by omega
 have hm10:(m:Int)≤10:=by omega
 have hm2:¬(n:Int)≤(m:Int):=by omega
 have hb1:¬births<1:=by omega
 have hb2:¬250<births:=by omega
 have hb3:births≤250:=by omega
 have hb4:1≤births:=by omega
 have Hg:=Lib.hid hg;have H2:=Lib.hid hg.size;have Ht7:=Lib.hid hm7;have Hz7:=Lib.hid z7;clear z1 z3 z4 z5 z6 z7 hnl hm7 hmn hr hE hg;go_enter Tryd.func12,Tryd.ntmps12;go_wp2_with fail;refine abs_run (fun W=>Below w.heap.size w W∧Blk w.heap.size (.cells zeroTn 35 (0,0)) W) ⟨(Below.refl _ _).alloc (Nat.le_refl _) _,Blk.new w _⟩ ?_;rintro w1 ⟨b1,x1⟩;have B1:=Lib.hid b1;have X1:=Lib.hid x1;have hx1:=x1.lt;clear b1 x1;refine(HT.out _ B1.out).mono ?_;rintro e w1' ⟨rfl,rfl⟩;go_wp2_with fail;refine(HC.out _ B1.out).mono ?_;rintro e w2 ⟨rfl,b2⟩;have B2:=Lib.hid (up B1.out b2);have X2:=Lib.hid (X1.out.go b2);have hz12:=b2.size;clear b2 X1;go_upto_region 11 with fail;go_cut [48]from 43 to 47 (fun s48 W=>s48=.bool false∧w2=W)
 case first=>
  by_cases h0:0<m
  ·have h0':(0:Int)<(m:Int):=by omega
   have hs0:s.toList.isEmpty=true:=Hz7.out h0';go_wp2_with fail;go_meet
   case rel=>exact⟨rfl,rfl⟩
  ·have h0':¬(0:Int)<(m:Int):=by omega
   go_wp2_with fail;go_meet
   case rel=>exact⟨rfl,rfl⟩
 case rest=>
  obtain⟨rfl,rfl⟩:=hcut;go_wp2_with fail;refine abs_run (fun W=>Below w2.heap.size w2 W∧Blk w2.heap.size (.cells #[.int .i64 (m:Int),.int .i64 (4096*births),.int .i64 0,.bool ((m:Int)==0),.string s,.slice none 0 0,.slice none 0 0,.slice none 0 0,.slice none 0 0,.slice none 0 0] 82 (0,0)) W) ⟨(Below.refl _ _).alloc (Nat.le_refl _) _,Blk.new w2 _⟩ ?_;rintro w3 ⟨b3,x3⟩;have B3:=Lib.hid (up B2.out b3);have X3:=Lib.hid (X2.out.go b3);have hg3:=x3.lt;have hz23:=b3.size;have hw12:w.heap.size<w1.heap.size:=hx1;have M3:=Lib.hid (WkM.new (base:=w1.heap.size) x3 hz12 (by have:=H2.out;omega) ⟨by unfold I64;omega,by unfold I64;omega,by unfold I64;omega,hs⟩);obtain⟨g,hgw⟩:∃g,g=w2.heap.size:=⟨_,rfl⟩;rw[←hgw]at M3 hg3;have Hgw:=Lib.hid hgw;clear b3 x3 X2 B2 HT HC hgw;refine(HN.out w3 B3.out).mono ?_;rintro e w4 ⟨v,rfl,ho,b4⟩;obtain⟨na,nc,rfl,hrn⟩:=ho.rdI;have hrow:=ho.rowlt;have RN:Hid (RdS (NM g (fun _=>.slice none 0 0) w4) w4 (nbs t (m:Int)) na (nbs t (m:Int)).length nc):=hrn.reI fun b off e=>⟨by
   subst e;exact(hrow b rfl).2,fun h=>by
   subst e;have:=(hrow b rfl).1;rcases h with h|⟨q,hq,h⟩
   ·omega
   ·cases h⟩
  have hnm:=hrn.2.2.1;have hnn:=hrn.2.1;have B4:=Lib.hid (up B3.out b4);have X4:=Lib.hid (X3.out.go b4);have M4:=Lib.hid (M3.out.go b4);have hz34:=b4.size;have hnl:(nbs t (m:Int)).length≤10:=by
   unfold nbs;have h1:=nbsAhead_len t (m:Int);have h2:=kidsTo_len t (m:Int) t.length;rw[List.length_append];have:=Ht7.out;omega
  have HNP:=Lib.hid (fun W=>node_ptr g W);obtain⟨i0,hi,hy0,hy1,hy2⟩:=info_parts infoSd;have Hi:=Lib.hid hi;have Hy0:=Lib.hid hy0;have Hy1:=Lib.hid hy1;have Hy2:=Lib.hid hy2;have hbT:Hid (beginN t (m:Int) births s=⟨⟨(m:Int),4096*births,0,(m:Int)==0,s,(nbs t (m:Int)).map newSd,[],[]⟩,[],[]⟩):=rfl;have hbT2:Hid (beginT t (m:Int) births s=if 0<(m:Int)then(beginN t (m:Int) births s).join else beginN t (m:Int) births s):=rfl;have hnp:0<m→0<(nbs t (m:Int)).length:=fun h=>by
   unfold nbs nbsAhead;rw[if_pos (by omega)];simp
  have Hnp:=Lib.hid hnp;clear hnp;generalize nbs t (m:Int)=NB0 at*;generalize beginN t (m:Int) births s=TN at*;generalize beginT t (m:Int) births s=TT at*;have hNL:(NB0.length:Int)≤10:=by omega
  rw[←Hgw.out];clear ho hrn hrow b4 B3 X3 M3 HN hi hy0 hy1 hy2;go_wp2_with fail;go_loopw [64] (fun vi wr=>∃k:Nat,k≤NB0.length∧vi=.int .i64 (k:Int)∧WkS w1.heap.size g ⟨⟨(m:Int),4096*births,0,(m:Int)==0,s,(NB0.take k).map newSd,[],[]⟩,[],[]⟩ (fun _=>.slice none 0 0) w4 wr) (fun vi _=>NB0.length-(intOf vi).toNat)
  case atStart=>exact⟨0,by omega,rfl,WkM.stay M4.out⟩
  case round=>
   obtain⟨k,hk,rfl,v1,m1,ht1,hm1⟩:=hrel;by_cases hlt:k<NB0.length
   ·have hlt':(k:Int)<(NB0.length:Int):=by omega
    have R1:=RN.out.wk ht1 hm1;obtain⟨q,o,xs,rfl,hq1,hq2,⟨rfl,hx64⟩,hq4⟩:=R1.elem k hlt;have y0:wr.cell? ⟨q,o+k,none⟩=some (.int .i64 NB0[k]):=by simpa[Rep.n]using hq4 0 _ rfl
    obtain⟨-,-,-,-,-,p5,-⟩:=blk10_cells m1.box;have hgl:=m1.lt;have M1:=Lib.hid m1;have HS1:=Lib.hid (And.intro ht1 hm1);have hnx:(NB0.take (k+1)).map newSd=(NB0.take k).map newSd++[newSd NB0[k]]:=by rw[List.take_succ_eq_append_getElem hlt,List.map_append];rfl
    have Hnx:=Lib.hid hnx;have Hpl:Hid (((NB0.take k).map newSd).length≤10):=by unfold Hid;rw[List.length_map,List.length_take];omega
    have H64:=Lib.hid hx64;have hfrz:=m1.box.frozen;have hkc:(k:Int)<(nc:Int):=by omega
    generalize NB0[k]=pr at*;generalize (NB0.take k).map newSd=SL at*;have hfit:=Lib.hid m1.fit;obtain⟨va,vc,hv1⟩:∃va vc,v1 0=.slice va SL.length vc:=by
     have h3:OwnO (WX w1.heap.size g v1) w1.heap.size (v1 0) SL wr:=m1.rows 0 (by omega);obtain⟨a,c,h,-⟩:=h3.form;exact⟨a,c,h⟩
    clear m1 ht1 hm1 R1 hq1 hq4 hx64 hnx hv1;go_wp2_with fail;refine(HNP.out wr).mono ?_;rintro e W' ⟨rfl,rfl⟩;go_wp2_with fail;refine(HNP.out wr).mono ?_;rintro e W' ⟨rfl,rfl⟩;have Hy:Hid (Rep.rd (fun z=>z<(wr.alloc (.cells #[.int .i64 pr,.bool false,.int .i64 0,.int .i64 0,.slice none 0 0,.int .i64 0,.int .i64 1,.slice none 0 0,.slice none 0 0,.int .i64 0] 72)).heap.size∧¬WX w1.heap.size g v1 z∧(v1 0).ownBlock≠some z) (wr.alloc (.cells #[.int .i64 pr,.bool false,.int .i64 0,.int .i64 0,.slice none 0 0,.int .i64 0,.int .i64 1,.slice none 0 0,.slice none 0 0,.int .i64 0] 72)) (newSd pr) [.int .i64 pr,.bool false,.int .i64 0,.int .i64 0,.slice none 0 0,.int .i64 0,.int .i64 1,.slice none 0 0,.slice none 0 0,.int .i64 0]):=
     ⟨none,0,none,0,none,0,rfl,RdS.nil _ _,RdS.nil _ _,RdS.nil _ _,H64.out,⟨by unfold I64;simp[newSd],by unfold I64;simp[newSd]⟩,by unfold I64;simp[newSd],by unfold I64;simp[newSd],by unfold I64;simp[newSd]⟩
    go_wp2_with (at_builtin;refine wpList_append_oneO rfl _ _ _ (by rfl) w1.heap.size 72 i0 _ 128 Tryd.underlying27 Hi.out Hy0.out Hy1.out Hy2.out rfl (v1 0) SL (by rfl) ((M1.out.rows 0 (by omega):OwnO (WX w1.heap.size g v1) w1.heap.size (v1 0) SL wr).go ((Below.refl _ wr).alloc (Nat.le_refl _) _)) wr.heap.size 1 _ [.int .i64 pr,.bool false,.int .i64 0,.int .i64 0,.slice none 0 0,.int .i64 0,.int .i64 1,.slice none 0 0,.slice none 0 0,.int .i64 0] (newSd pr) (by rfl) (Blk.new wr _) Hy.out (by have:=Hpl.out;unfold maxLen;omega) (by have:=Hpl.out;omega) (by have:=M1.out.gb;simp;omega) ?_);intro g2 o2 cap w5 hown hgrow hat hlt5;have hM2:=M1.out.go ((Below.refl _ wr).alloc (Nat.le_refl _) (.cells #[.int .i64 pr,.bool false,.int .i64 0,.int .i64 0,.slice none 0 0,.int .i64 0,.int .i64 1,.slice none 0 0,.slice none 0 0,.int .i64 0] 72));obtain⟨k1,k2,k3⟩:=WkG.addSide (v':=.slice (some ⟨g2,o2,none⟩) (SL.length+1) cap) hM2 hgrow (fun k hk=>by
     have e:g2=k:=by simpa[Value.ownBlock]using hk
     subst e;exact hat.imp_right fun h=>by simp;omega) hown
    have HW:Hid (WkS w1.heap.size g ⟨⟨(m:Int),4096*births,0,(m:Int)==0,s,(NB0.take (k+1)).map newSd,[],[]⟩,[],[]⟩ (fun _=>.slice none 0 0) w4 (w5.setCell ⟨g,5,none⟩ (.slice (some ⟨g2,o2,none⟩) (SL.length+1) cap))):=by
     rw[Hnx.out];refine WkS.trans HS1.out.1 HS1.out.2 ⟨_,k1,?_,fun z hz=>?_⟩
     ·exact((Touch.refl _ _).alloc _).trans k2
     ·exact(k3 z hz).imp_right fun h=>by simp at h;omega
    have hb5:=(hM2.box.grown hgrow (fun e=>hM2.ne 0 (by omega) g e.symm rfl));obtain⟨-,-,-,-,-,p5',-⟩:=blk10_cells hb5;have hf5:=hb5.frozen;have hgl5:=hb5.lt;clear hown hgrow hat hM2 k1 k2 k3 hb5 p5 M1 Hy HS1;go_wp2_with fail;go_roundw
    case rel=>exact⟨k+1,by omega,by push_cast;rfl,HW.out⟩
    case measure=>simp[intOf];omega
   ·have hk2:k=NB0.length:=by omega
    have hE:NB0.take k=NB0:=by rw[hk2,List.take_length]
    rw[hE]at m1;have hlt':¬((k:Int)<(NB0.length:Int)):=by omega
    have hTN:TN=⟨⟨(m:Int),4096*births,0,(m:Int)==0,s,NB0.map newSd,[],[]⟩,[],[]⟩:=hbT.out;rw[←hTN]at m1;have hsl:TN.node.sides.length=NB0.length:=by rw[hTN];show(NB0.map newSd).length=_;rw[List.length_map]
    have hpo:TN.posts.length≤1000000:=by rw[hTN];simp
    have M1:=Lib.hid m1;have hpos:0<m→0<TN.node.sides.length:=fun h=>by rw[hsl];exact Hnp.out h
    have Hpos:=Lib.hid hpos;have Hpo:=Lib.hid hpo;have T1:Hid (Touch (fun z=>w1.heap.size≤z) w4 wr):=ht1.mono fun z _ hz=>(M4.out.mine z hz).1;have hGr:Good wr:=(Hg.out.go B4.out).wk M4.out ht1;have HGr:=Lib.hid hGr;clear m1 ht1 hm1 hE hsl hpo hpos hTN hGr;by_cases h0:0<m
    ·have h0':(0:Int)<(m:Int):=by omega
     have HTT:Hid (TT=TN.join):=by unfold Hid;rw[hbT2.out,if_pos h0']
     go_wp2_with fail;refine(ndJoin_any w1.heap.size g TN v1 wr HGr.out M1.out (Hpos.out h0) Hpo.out).mono ?_;rintro e w6 ⟨rfl,v6,m6,ht6,hm6⟩;rw[←HTT.out]at m6;have hT6:Touch (fun z=>w1.heap.size≤z) w4 w6:=T1.out.trans (ht6.mono fun z _ hz=>(M1.out.mine z hz).1);obtain⟨a0,c0,a1,c1,a2,c2,a3,c3,a4,c4,e1,e2,e3,e4⟩:=turn_out m6 (X4.out.touch hT6 (by omega)) hw12 (Nat.le_refl _) (B4.out.trans (hT6.toBelow (by have:=B4.out.size;omega) (fun z hz=>by omega)));obtain⟨p0,p1,p2,p3,p4,p5,p6,p7,p8,p9⟩:=blk10_cells (X4.out.touch hT6 (by omega));have pf:=(X4.out.touch hT6 (by omega)).frozen;have hz:=(X4.out.touch hT6 (by omega)).lt;obtain⟨q0,q1,q2,q3,q4,q5,q6,q7,q8,q9⟩:=blk10_cells e1;have G:=Lib.hid (And.intro e2 (And.intro e3 e4));clear m6 ht6 hm6 hT6 e1 e2 e3 e4 HTT;go_wp2_with fail;refine abs_ret (fun W=>Blk w.heap.size (.cells #[.int .i64 TT.node.me,.int .i64 TT.node.epoch,.int .i64 TT.node.up,.bool TT.node.ready,.string TT.node.text,.slice a0 TT.node.sides.length c0,.slice a1 TT.node.undo.length c1,.slice a2 TT.node.marks.length c2,.slice a3 TT.posts.length c3,.slice a4 TT.recs.length c4] 35 (0,0)) W∧TnVal (Fresh w.heap.size W) TT (.agg #[.int .i64 TT.node.me,.int .i64 TT.node.epoch,.int .i64 TT.node.up,.bool TT.node.ready,.string TT.node.text,.slice a0 TT.node.sides.length c0,.slice a1 TT.node.undo.length c1,.slice a2 TT.node.marks.length c2,.slice a3 TT.posts.length c3,.slice a4 TT.recs.length c4]) W∧Below w.heap.size w W) G.out ?_;rintro W ⟨y1,y2,y3⟩;obtain⟨k0,k1,k2,k3,k4,k5,k6,k7,k8,k9⟩:=blk10_cells y1;exact bodyPost_ret (v:=.tuple #[.agg #[.int .i64 TT.node.me,.int .i64 TT.node.epoch,.int .i64 TT.node.up,.bool TT.node.ready,.string TT.node.text,.slice a0 TT.node.sides.length c0,.slice a1 TT.node.undo.length c1,.slice a2 TT.node.marks.length c2,.slice a3 TT.posts.length c3,.slice a4 TT.recs.length c4],.int .i64 0]) (by simp[results,Tryd.results12,go_sem,k0,k1,k2,k3,k4,k5,k6,k7,k8,k9]) rfl ⟨_,rfl,y2,y3⟩
    ·have h0':¬(0:Int)<(m:Int):=by omega
     have hTT:TT=TN:=by rw[hbT2.out,if_neg h0']
     have m6:=M1.out;rw[←hTT]at m6;have hT6:=T1.out;obtain⟨a0,c0,a1,c1,a2,c2,a3,c3,a4,c4,e1,e2,e3,e4⟩:=turn_out m6 (X4.out.touch hT6 (by omega)) hw12 (Nat.le_refl _) (B4.out.trans (hT6.toBelow (by have:=B4.out.size;omega) (fun z hz=>by omega)));obtain⟨p0,p1,p2,p3,p4,p5,p6,p7,p8,p9⟩:=blk10_cells (X4.out.touch hT6 (by omega));have pf:=(X4.out.touch hT6 (by omega)).frozen;have hz:=(X4.out.touch hT6 (by omega)).lt;obtain⟨q0,q1,q2,q3,q4,q5,q6,q7,q8,q9⟩:=blk10_cells e1;have G:=Lib.hid (And.intro e2 (And.intro e3 e4));clear m6 hT6 e1 e2 e3 e4 hTT;go_wp2_with fail;refine abs_ret (fun W=>Blk w.heap.size (.cells #[.int .i64 TT.node.me,.int .i64 TT.node.epoch,.int .i64 TT.node.up,.bool TT.node.ready,.string TT.node.text,.slice a0 TT.node.sides.length c0,.slice a1 TT.node.undo.length c1,.slice a2 TT.node.marks.length c2,.slice a3 TT.posts.length c3,.slice a4 TT.recs.length c4] 35 (0,0)) W∧TnVal (Fresh w.heap.size W) TT (.agg #[.int .i64 TT.node.me,.int .i64 TT.node.epoch,.int .i64 TT.node.up,.bool TT.node.ready,.string TT.node.text,.slice a0 TT.node.sides.length c0,.slice a1 TT.node.undo.length c1,.slice a2 TT.node.marks.length c2,.slice a3 TT.posts.length c3,.slice a4 TT.recs.length c4]) W∧Below w.heap.size w W) G.out ?_;rintro W ⟨y1,y2,y3⟩;obtain⟨k0,k1,k2,k3,k4,k5,k6,k7,k8,k9⟩:=blk10_cells y1;exact bodyPost_ret (v:=.tuple #[.agg #[.int .i64 TT.node.me,.int .i64 TT.node.epoch,.int .i64 TT.node.up,.bool TT.node.ready,.string TT.node.text,.slice a0 TT.node.sides.length c0,.slice a1 TT.node.undo.length c1,.slice a2 TT.node.marks.length c2,.slice a3 TT.posts.length c3,.slice a4 TT.recs.length c4],.int .i64 0]) (by simp[results,Tryd.results12,go_sem,k0,k1,k2,k3,k4,k5,k6,k7,k8,k9]) rfl ⟨_,rfl,y2,y3⟩
end Go.Proofs.YtkbfhgcjimfgkaaDoor
