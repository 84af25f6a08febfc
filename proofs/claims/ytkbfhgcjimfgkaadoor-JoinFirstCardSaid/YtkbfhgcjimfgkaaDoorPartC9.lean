/- The walk of a turn's away: it joins anew. -/
import Derived.Test.YtkbfhgcjimfgkaaDoorPartC8
import Derived.Test.YtkbfhgcjimfgkaaDoorPartC1
import Derived.Test.YtkbfhgcjimfgkaaDoorPartC6
set_option linter.unusedVariables false
set_option linter.unusedSimpArgs false
set_option linter.unusedSimpArgs false
namespace Go.Proofs.YtkbfhgcjimfgkaaDoor
open Go.RowKit
theorem WkG.updSide {base g r o c:Nat}{t:Tn}{vs:Nat→Value}{w:World}(h:WkM base g t vs w)(s:Nat)(hs:s<t.node.sides.length)(hv:vs 0=.slice (some ⟨r,o,none⟩) t.node.sides.length c)(y:Sd)(hp:I64 y.peer)(he:y.e.fits)(hl:y.l.fits)(h1:y.e.pending=[])(h2:y.l.sent=[])(h3:y.l.queue=[]):
 WkM base g (t.setSide s y) vs (w.setCells r (o+s*10) [.int .i64 y.peer,.bool y.joined,.int .i64 y.e.sent,.int .i64 y.e.heard,.slice none 0 0,.int .i64 y.l.epoch,.int .i64 y.l.next,.slice none 0 0,.slice none 0 0,.int .i64 y.l.heard]):=by
 have:=(h.upd s hs hv 0 [.int .i64 y.peer,.bool y.joined,.int .i64 y.e.sent,.int .i64 y.e.heard,.slice none 0 0,.int .i64 y.l.epoch,.int .i64 y.l.next,.slice none 0 0,.slice none 0 0,.int .i64 y.l.heard] (by simp) y (fun xs hx=>by
  refine⟨_,⟨none,0,none,0,none,0,rfl,by rw[h1];exact RdS.nil _ _,by rw[h2];exact RdS.nil _ _,by rw[h3];exact RdS.nil _ _,hp,he,hl⟩,fun j v hj=>?_⟩;have hj10:j<10:=by
   have:=(List.getElem?_eq_some_iff.1 hj).1;simpa using this
  rw[if_pos (by simp;omega)];unfold sdCells at hj;rw[h1,h2,h3]at hj;exact hj)).1
 exact this
set_option maxRecDepth 100000 in
set_option maxHeartbeats 8000000 in
theorem ndJoined_any (p:Pkt)(hHl:p.f.kind=1→HeardLaw p.f)(tr:List Int)(b0:Int)(base g:Nat)(t:Tn)(vs:Nat→Value)(s:Nat)(fa:Option Addr)(fc:Nat)(w:World)(hg:Good w)(h:WkM base g t vs w)(hs:s<t.node.sides.length)(hr:RdS (NM g vs w) w p.f.op fa p.f.op.length fc)(hp:p.fits)(hG:NG tr b0 (t.open s p).node)(hb:b0<700000)(hpo:t.posts.length≤900)(hre:t.recs.length≤1000)(hpo2:((t.open s p).session s p).posts.length≤1000000):
 Calls Tryd.prog 42 #[.pointer (some ⟨g,0,none⟩),.int .i64 (s:Int),.agg #[.int .i64 p.epoch,.int .i64 p.number,.bool p.bare,.int .i64 p.ack,.int .i64 p.f.kind,.int .i64 p.f.heard,.int .i64 p.f.epoch,.slice fa p.f.op.length fc,.string p.f.text]] w fun e w'=>e=.returned (.tuple #[])∧WkS base g (t.joinedT s p) vs w w':=by
 have HHl:=Lib.hid hHl;clear hHl;have HNP:=Lib.hid (fun W=>node_ptr g W);have HM:=Lib.hid h;have Hg:=Lib.hid hg;have Hr:=Lib.hid hr;obtain⟨sr,so,sc0,-,hv0,-,-,-,-,-,-⟩:=h.side s hs;obtain⟨hpe,-,-,hsr0,hrg,hbr,hnc,hcm⟩:=h.sideAt hs hv0;have hpe64:I64 (t.side s).peer:=by
  obtain⟨_,_,_,xs,-,-,-,-,-,-,hrd,-⟩:=h.side s hs;obtain⟨_,_,_,_,_,_,-,-,-,-,h64,-⟩:=hrd;rw[t.side_get s hs];exact h64
 obtain⟨PE,hPE⟩:∃PE,PE=(t.side s).peer:=⟨_,rfl⟩;obtain⟨on1,on2,on3⟩:=openLk_nil p.epoch;have hof:=openLk_fits p.epoch;have HOp:=Lib.hid (fun W=>open_any p.epoch W hp.1);obtain⟨OE,hOE⟩:∃OE,OE=(openLk p.epoch).epoch:=⟨_,rfl⟩;obtain⟨ON,hON⟩:∃ON,ON=(openLk p.epoch).next:=⟨_,rfl⟩
 have hcellsT:Hid (∀W,Below w.heap.size w W→WkM base g (t.open s p) vs (W.setCells sr (so+s*10) [.int .i64 PE,.bool true,.int .i64 0,.int .i64 0,.slice none 0 0,.int .i64 OE,.int .i64 ON,.slice none 0 0,.slice none 0 0,.int .i64 0])):=by
  unfold Hid;intro W hW;have hk:=WkG.updSide (h.go hW) s hs hv0 ⟨(t.side s).peer,true,⟨0,0,[]⟩,openLk p.epoch⟩ hpe64 ⟨by unfold I64;simp,by unfold I64;simp⟩ hof rfl on1 on2;have e:(openLk p.epoch).heard=0:=on3;rw[hPE,hOE,hON];simp only[e]at hk;exact hk
 rw[←hOE,←hON]at HOp;rw[←hPE]at hpe;have HV0:=Lib.hid hv0;have HSL:=Lib.hid hs;have HPo:=Lib.hid hpo2;obtain⟨N,hN⟩:∃N,N=t.node.sides.length:=⟨_,rfl⟩;rw[←hN]at hnc hs;have hsN:(s:Int)<(N:Int):=by omega
 have hNc:(N:Int)≤(sc0:Int):=by omega
 have hcm2:(sc0:Int)≤9223372036854775807:=by unfold maxLen at hcm;omega
 have HG:=Lib.hid (And.intro hG (And.intro hb (And.intro hpo hre)));have HN:=Lib.hid hN;have Hp:=Lib.hid hp;have HPE0:=Lib.hid hpe;have hgl:=h.lt;have hrM:Hid (Mine g vs sr):=.inr ⟨0,by omega,by rw[HV0.out];rfl⟩;clear h hg hr hpe hPE on1 on2 on3 hof hOE hON hv0 hN hG hb hpo hre hpo2 hp hpe64;go_enter Tryd.func42,Tryd.ntmps42;go_wp2_with fail;refine abs_run (fun W=>Below w.heap.size w W∧Blk w.heap.size (.cells #[.int .i64 p.epoch,.int .i64 p.number,.bool p.bare,.int .i64 p.ack,.int .i64 p.f.kind,.int .i64 p.f.heard,.int .i64 p.f.epoch,.slice fa p.f.op.length fc,.string p.f.text] 46 (0,0)) W) ⟨(Below.refl _ _).alloc (Nat.le_refl _) _,Blk.new w _⟩ ?_;rintro w1 ⟨bb1,x1⟩;have B1:=Lib.hid bb1;have X1:=Lib.hid x1;have q0:w1.cell? ⟨w.heap.size,0,none⟩=some (.int .i64 p.epoch):=x1.cell 0;have hx1l:=x1.lt;clear bb1 x1;refine(HNP.out w1).mono ?_;rintro e w1' ⟨rfl,rfl⟩;go_wp2_with fail;refine(HOp.out w1).mono ?_;rintro e wa ⟨rfl,ba⟩;have Ba:=Lib.hid (up B1.out ba);have Xa:=Lib.hid (X1.out.go ba);have hza:=ba.size;clear ba HOp q0 X1;go_upto_region 3 with fail;obtain⟨lb,hlb⟩:∃lb,lb=wa.heap.size:=⟨_,rfl⟩;refine abs_w (fun W=>Below wa.heap.size wa W∧Blk wa.heap.size (.cells #[.int .i64 OE,.int .i64 ON,.slice none 0 0,.slice none 0 0,.int .i64 0] 70 (0,0)) W) ⟨(Below.refl _ _).alloc (Nat.le_refl _) _,Blk.new wa _⟩ ?_;rintro w2 ⟨bb2,x2⟩;rw[←hlb]at x2⊢;have B2:=Lib.hid (up Ba.out bb2);have X2:=Lib.hid (Xa.out.go bb2);have LB:=Lib.hid x2;have hz2:=bb2.size;have HMx:=Lib.hid (HM.out.go B2.out);have HSx:=HSL;have HVx:=HV0;have hgW0:g<w2.heap.size:=by omega
 have hsrW0:sr<w2.heap.size:=by omega
 have HP5:Hid (w2.cell? ⟨g,5,none⟩=some (.slice (some ⟨sr,so,none⟩) N sc0)):=(HMx.out.box.cell 5).trans (congrArg some (show vs 0=.slice (some ⟨sr,so,none⟩) N sc0 from by rw[HV0.out,HN.out]));have HPE:Hid (w2.cell? ⟨sr,so+s*10,none⟩=some (.int .i64 PE)):=(B2.out.cell (p:=⟨sr,so+s*10,none⟩) hsr0).trans HPE0.out;have HUpd:=Lib.hid (fun W (hB:Below w2.heap.size w2 W)=>hcellsT.out W (up B2.out hB));clear bb2 x2 hlb Ba Xa hcellsT HPE0;obtain⟨Vp,HV⟩:∃Vp:Nat→Value→World→Prop,Hid (Vp=fun i v W=>match i with
  |0=>v=.pointer (some ⟨g,0,none⟩)
  |1=>v=.pointer (some ⟨g,0,none⟩)
  |2=>v=.pointer (some ⟨g,5,none⟩)
  |3=>v=.slice (some ⟨sr,so,none⟩) N sc0
  |4=>v=.int .i64 (s:Int)
  |5=>v=.pointer (some ⟨g,0,none⟩)
  |6=>v=.pointer (some ⟨g,0,none⟩)
  |7=>v=.pointer (some ⟨g,5,none⟩)
  |8=>v=.slice (some ⟨sr,so,none⟩) N sc0
  |9=>v=.int .i64 (s:Int)
  |10=>v=.pointer (some ⟨sr,so+s*10,none⟩)
  |11=>v=.pointer (some ⟨sr,so+s*10,none⟩)
  |12=>v=.int .i64 PE
  |13=>v=.agg #[.int .i64 OE,.int .i64 ON,.slice none 0 0,.slice none 0 0,.int .i64 0]
  |14=>v=.agg #[.int .i64 PE,.bool true,.int .i64 0,.int .i64 0,.slice none 0 0,.int .i64 OE,.int .i64 ON,.slice none 0 0,.slice none 0 0,.int .i64 0]
  |15=>v=.pointer (some ⟨sr,so+s*10,none⟩)
  |_=>v=undef):=⟨_,rfl⟩
 obtain⟨Ip,HIp⟩:∃Ip:(Nat→Bool)→(Nat→Value)→World→Prop,Hid (Ip=fun L x W=>((L 16=false→Below w2.heap.size w2 W)∧(L 16=true→Touch (fun z=>z=sr) w2 W∧WkM base g (t.open s p) vs W))):=⟨_,rfl⟩;refine region_lit3 (by kernel_rfl) (by kernel_rfl) (by kernel_rfl) [[],[0],[0,1],[0,1,2],[],[],[5],[5,6],[5,6,7],[],[5,6,7,8,9],[5,6,7,8,9,10],[5,6,7,8,9,10,11],[],[5,6,7,8,9,10,11,12,13],[0,1,2,3,4],[0,1,2,3,4,5,6,7,8,9,10,11,12,13,14,15]] (by kernel_rfl) [some 17,some 18,some 19,some 20,some 21,some 22,some 23,some 24,some 25,some 26,some 27,some 28,some 29,some 30,some 31,some 32,none] (by kernel_rfl) [[0,1,2,3,15,16],[1,2,3,15,16],[2,3,15,16],[3,15,16],[4,15,16],[5,6,7,8,10,11,12,14,16],[6,7,8,10,11,12,14,16],[7,8,10,11,12,14,16],[8,10,11,12,14,16],[9,10,11,12,14,16],[10,11,12,14,16],[11,12,14,16],[12,14,16],[13,14,16],[14,16],[15,16],[16]] (by kernel_rfl) [[],[],[],[],[],[],[],[],[],[],[],[],[],[],[],[],[]] [[],[0],[1],[2],[],[],[5],[6],[7],[],[8,9],[10],[11],[],[12,13],[3,4],[14,15]] (by kernel_rfl)
  Ip
  Vp
  (fun j W W'=>match j with
   |16=>True
   |_=>Below W.heap.size W W')
  [fun x=>⟨(fZm 6 (.pointer (some ⟨g,0,none⟩)) (fEm 11)).toArray,[]⟩,fun x=>⟨(fZm 17 (x 0) (fEm 1)).toArray,[]⟩,fun x=>⟨(fZm 18 (x 1) (fEm 1)).toArray,[]⟩,fun x=>⟨(fZm 19 (x 2) (fEm 1)).toArray,[]⟩,fun x=>⟨(fZm 1 (.int .i64 (s:Int)) (fEm 20)).toArray,[]⟩,fun x=>⟨(fZm 6 (.pointer (some ⟨g,0,none⟩)) (fEm 16)).toArray,[]⟩,fun x=>⟨(fZm 22 (x 5) (fEm 1)).toArray,[]⟩,fun x=>⟨(fZm 23 (x 6) (fEm 1)).toArray,[]⟩,fun x=>⟨(fZm 24 (x 7) (fEm 1)).toArray,[]⟩,fun x=>⟨(fZm 1 (.int .i64 (s:Int)) (fEm 25)).toArray,[]⟩,fun x=>⟨(fZm 25 (x 8) (fZm 0 (x 9) (fEm 1))).toArray,[]⟩,fun x=>⟨(fZm 27 (x 10) (fEm 1)).toArray,[]⟩,fun x=>⟨(fZm 28 (x 11) (fEm 1)).toArray,[]⟩,fun x=>⟨(fZm 7 (.pointer (some ⟨lb,0,none⟩)) (fEm 23)).toArray,[]⟩,fun x=>⟨(fZm 29 (x 12) (fZm 0 (x 13) (fEm 1))).toArray,[]⟩,fun x=>⟨(fZm 20 (x 3) (fZm 0 (x 4) (fEm 11))).toArray,[]⟩,fun x=>⟨(fZm 31 (x 14) (fZm 0 (x 15) [])).toArray,[]⟩]
  ?hF ?mono ?h0 ?step [0,1,2,3,4,5,6,7,8,9,10,11,12,13,14,15,16] (by kernel_rfl) ?fin
 case hF=>
  iterate 17 refine⟨fun x=>⟨by kernel_rfl,by kernel_rfl⟩,?_⟩
  trivial
 case mono=>
  intro i j hi hj hne hna hnk v W W' hE hv;rw[HV.out]at hv⊢;simp only[List.length_cons,List.length_nil]at hi hj
  match i,hi with
  |0,_|1,_|2,_|3,_|4,_|5,_|6,_|7,_|8,_|9,_|10,_|11,_|12,_|13,_|14,_|15,_|16,_=>exact hv
  |m+17,h=>exact absurd h (by omega)
 case h0=>intro x;exact toI HIp ⟨(fun _=>(Below.refl _ _).drew),(fun h=>by cases h)⟩
 case step=>
  refine⟨?_,?_,?_,?_,?_,?_,?_,?_,?_,?_,?_,?_,?_,?_,?_,?_,?_,trivial⟩
  all_goals
   intro x W L hI hL hV;replace hI:((L 16=false→Below w2.heap.size w2 W)∧(L 16=true→Touch (fun z=>z=sr) w2 W∧WkM base g (t.open s p) vs W)):=ofI HIp hI;rw[HV.out]at hV;simp only[AllV,and_true]at hV;dsimp only[fZm,fEm,List.reduceReplicate,List.cons_append,List.nil_append]
  ·clear hV;have HI:=Lib.hid hI;clear hI;go_wp2_with fail;refine step3_done rfl ?_ ?_ ?_
   ·exact(toI HIp HI.out)
   ·exact(Below.refl _ _)
   ·exact(toV HV rfl)
  ·have u0:=hV;clear hV;simp only[u0];clear u0;have HI:=Lib.hid hI;clear hI;go_wp2_with fail;refine step3_done rfl ?_ ?_ ?_
   ·exact(toI HIp HI.out)
   ·exact(Below.refl _ _)
   ·exact(toV HV rfl)
  ·have u1:=hV;clear hV;simp only[u1];clear u1;have HI:=Lib.hid hI;clear hI;go_wp2_with fail;refine step3_done rfl ?_ ?_ ?_
   ·exact(toI HIp HI.out)
   ·exact(Below.refl _ _)
   ·exact(toV HV rfl)
  ·have u2:=hV;clear hV;simp only[u2];clear u2;have hb:=hI.1 (hL.2 16 (by simp));have q5:W.cell? ⟨g,5,none⟩=some (.slice (some ⟨sr,so,none⟩) N sc0):=(hb.cell (p:=⟨g,5,none⟩) hgW0).trans HP5.out;have HI:=Lib.hid hI;clear hI hb;go_wp2_with fail;refine step3_done rfl ?_ ?_ ?_
   ·exact(toI HIp HI.out)
   ·exact(Below.refl _ _)
   ·exact(toV HV rfl)
  ·clear hV;have HI:=Lib.hid hI;clear hI;go_wp2_with fail;refine step3_done rfl ?_ ?_ ?_
   ·exact(toI HIp HI.out)
   ·exact(Below.refl _ _)
   ·exact(toV HV rfl)
  ·clear hV;have HI:=Lib.hid hI;clear hI;go_wp2_with fail;refine step3_done rfl ?_ ?_ ?_
   ·exact(toI HIp HI.out)
   ·exact(Below.refl _ _)
   ·exact(toV HV rfl)
  ·have u5:=hV;clear hV;simp only[u5];clear u5;have HI:=Lib.hid hI;clear hI;go_wp2_with fail;refine step3_done rfl ?_ ?_ ?_
   ·exact(toI HIp HI.out)
   ·exact(Below.refl _ _)
   ·exact(toV HV rfl)
  ·have u6:=hV;clear hV;simp only[u6];clear u6;have HI:=Lib.hid hI;clear hI;go_wp2_with fail;refine step3_done rfl ?_ ?_ ?_
   ·exact(toI HIp HI.out)
   ·exact(Below.refl _ _)
   ·exact(toV HV rfl)
  ·have u7:=hV;clear hV;simp only[u7];clear u7;have hb:=hI.1 (hL.2 16 (by simp));have q5:W.cell? ⟨g,5,none⟩=some (.slice (some ⟨sr,so,none⟩) N sc0):=(hb.cell (p:=⟨g,5,none⟩) hgW0).trans HP5.out;have HI:=Lib.hid hI;clear hI hb;go_wp2_with fail;refine step3_done rfl ?_ ?_ ?_
   ·exact(toI HIp HI.out)
   ·exact(Below.refl _ _)
   ·exact(toV HV rfl)
  ·clear hV;have HI:=Lib.hid hI;clear hI;go_wp2_with fail;refine step3_done rfl ?_ ?_ ?_
   ·exact(toI HIp HI.out)
   ·exact(Below.refl _ _)
   ·exact(toV HV rfl)
  ·obtain⟨u8,u9⟩:=hV;simp only[u8,u9];clear u8 u9;have HI:=Lib.hid hI;clear hI;go_wp2_with fail;refine step3_done rfl ?_ ?_ ?_
   ·exact(toI HIp HI.out)
   ·exact(Below.refl _ _)
   ·exact(toV HV rfl)
  ·have u10:=hV;clear hV;simp only[u10];clear u10;have HI:=Lib.hid hI;clear hI;go_wp2_with fail;refine step3_done rfl ?_ ?_ ?_
   ·exact(toI HIp HI.out)
   ·exact(Below.refl _ _)
   ·exact(toV HV rfl)
  ·have u11:=hV;clear hV;simp only[u11];clear u11;have hb:=hI.1 (hL.2 16 (by simp));have q0:W.cell? ⟨sr,so+s*10,none⟩=some (.int .i64 PE):=(hb.cell (p:=⟨sr,so+s*10,none⟩) hsrW0).trans HPE.out;have HI:=Lib.hid hI;clear hI hb;go_wp2_with fail;refine step3_done rfl ?_ ?_ ?_
   ·exact(toI HIp HI.out)
   ·exact(Below.refl _ _)
   ·exact(toV HV rfl)
  ·clear hV;have hb:=hI.1 (hL.2 16 (by simp));have l0:W.cell? ⟨lb,0,none⟩=some (.int .i64 OE):=(LB.out.go hb).cell 0;have l1:W.cell? ⟨lb,1,none⟩=some (.int .i64 ON):=(LB.out.go hb).cell 1;have l2:W.cell? ⟨lb,2,none⟩=some (.slice none 0 0):=(LB.out.go hb).cell 2;have l3:W.cell? ⟨lb,3,none⟩=some (.slice none 0 0):=(LB.out.go hb).cell 3;have l4:W.cell? ⟨lb,4,none⟩=some (.int .i64 0):=(LB.out.go hb).cell 4;have HI:=Lib.hid hI;clear hI hb;go_wp2_with fail;refine step3_done rfl ?_ ?_ ?_
   ·exact(toI HIp HI.out)
   ·exact(Below.refl _ _)
   ·exact(toV HV rfl)
  ·obtain⟨u12,u13⟩:=hV;simp only[u12,u13];clear u12 u13;have HI:=Lib.hid hI;clear hI;go_wp2_with fail;refine step3_done rfl ?_ ?_ ?_
   ·exact(toI HIp HI.out)
   ·exact(Below.refl _ _)
   ·exact(toV HV rfl)
  ·obtain⟨u3,u4⟩:=hV;simp only[u3,u4];clear u3 u4;have HI:=Lib.hid hI;clear hI;go_wp2_with fail;refine step3_done rfl ?_ ?_ ?_
   ·exact(toI HIp HI.out)
   ·exact(Below.refl _ _)
   ·exact(toV HV rfl)
  ·obtain⟨u14,u15⟩:=hV;simp only[u14,u15];clear u14 u15;have hb:=hI.1 (hL.2 16 (by simp));have hMW:=HMx.out.go hb;obtain⟨hc,hf,hsW⟩:=hMW.sideThere HSx.out HVx.out;obtain⟨u0',z0⟩:=hc 0 (by omega);have z0':W.cell? ⟨sr,so+s*10,none⟩=some u0':=z0;have f0':W.frozen? ⟨sr,so+s*10,none⟩=false:=hf 0 (by omega);obtain⟨u1',z1⟩:=hc 1 (by omega);have z1':W.cell? ⟨sr,so+s*10+1,none⟩=some u1':=z1;have f1':W.frozen? ⟨sr,so+s*10+1,none⟩=false:=hf 1 (by omega);obtain⟨u2',z2⟩:=hc 2 (by omega);have z2':W.cell? ⟨sr,so+s*10+2,none⟩=some u2':=z2;have f2':W.frozen? ⟨sr,so+s*10+2,none⟩=false:=hf 2 (by omega);obtain⟨u3',z3⟩:=hc 3 (by omega);have z3':W.cell? ⟨sr,so+s*10+3,none⟩=some u3':=z3;have f3':W.frozen? ⟨sr,so+s*10+3,none⟩=false:=hf 3 (by omega);obtain⟨u4',z4⟩:=hc 4 (by omega);have z4':W.cell? ⟨sr,so+s*10+4,none⟩=some u4':=z4;have f4':W.frozen? ⟨sr,so+s*10+4,none⟩=false:=hf 4 (by omega);obtain⟨u5',z5⟩:=hc 5 (by omega);have z5':W.cell? ⟨sr,so+s*10+5,none⟩=some u5':=z5;have f5':W.frozen? ⟨sr,so+s*10+5,none⟩=false:=hf 5 (by omega);obtain⟨u6',z6⟩:=hc 6 (by omega);have z6':W.cell? ⟨sr,so+s*10+6,none⟩=some u6':=z6;have f6':W.frozen? ⟨sr,so+s*10+6,none⟩=false:=hf 6 (by omega);obtain⟨u7',z7⟩:=hc 7 (by omega);have z7':W.cell? ⟨sr,so+s*10+7,none⟩=some u7':=z7;have f7':W.frozen? ⟨sr,so+s*10+7,none⟩=false:=hf 7 (by omega);obtain⟨u8',z8⟩:=hc 8 (by omega);have z8':W.cell? ⟨sr,so+s*10+8,none⟩=some u8':=z8;have f8':W.frozen? ⟨sr,so+s*10+8,none⟩=false:=hf 8 (by omega);obtain⟨u9',z9⟩:=hc 9 (by omega);have z9':W.cell? ⟨sr,so+s*10+9,none⟩=some u9':=z9;have f9':W.frozen? ⟨sr,so+s*10+9,none⟩=false:=hf 9 (by omega);have HB:=Lib.hid hb;have HUp:=Lib.hid (HUpd.out W hb);clear hI hb hMW hc hf z0 z1 z2 z3 z4 z5 z6 z7 z8 z9;go_wp2_with fail;have ht:=touch_setCells W sr (so+s*10) [.int .i64 PE,.bool true,.int .i64 0,.int .i64 0,.slice none 0 0,.int .i64 OE,.int .i64 ON,.slice none 0 0,.slice none 0 0,.int .i64 0];refine step3_done (v:=undef) rfl ?_ ?_ ?_
   ·exact toI HIp ⟨(fun h=>absurd h (by simp[setB])),(fun _=>⟨(Touch.of_below HB.out).trans ht,HUp.out⟩)⟩
   ·exact trivial
   ·exact toV HV rfl
 case fin=>
  intro x W L hL hI hV;replace hI:((L 16=false→Below w2.heap.size w2 W)∧(L 16=true→Touch (fun z=>z=sr) w2 W∧WkM base g (t.open s p) vs W)):=ofI HIp hI;rw[HV.out]at hV;simp only[AllV,and_true]at hV;obtain⟨u0,u1,u2,u3,u4,u5,u6,u7,u8,u9,u10,u11,u12,u13,u14,u15,u16⟩:=hV;simp only[getsD,List.getD_cons_succ,List.getD_cons_zero,List.length_cons,List.length_nil,List.range,List.range.loop,u0,u1,u2,u3,u4,u5,u6,u7,u8,u9,u10,u11,u12,u13,u14,u15,u16,Act.put,List.setIfInBounds_toArray,List.set_cons_succ,List.set_cons_zero];clear u0 u1 u2 u3 u4 u5 u6 u7 u8 u9 u10 u11 u12 u13 u14 u15 u16;obtain⟨hT3,hM3⟩:=hI.2 (hL 16 (by simp));have M3:=Lib.hid hM3;have T03:Hid (Touch (Mine g vs) w W):=(Touch.of_below B2.out).trans (hT3.mono fun z _ hz=>by rw[hz];exact hrM.out);have HR3:Hid (RdS (NM g vs W) W p.f.op fa p.f.op.length fc):=Hr.out.wk T03.out (fun z hz=>.inl hz);have hxb:¬Mine g vs w.heap.size:=fun hm=>by have:=(HM.out.mine _ hm).2;omega
  have X3:=Lib.hid (X2.out.touch hT3 (fun e=>by omega));clear hI hL hT3 hM3;obtain⟨p0,p1,p2,p3,p4,p5,p6,p7,p8⟩:=blk9_cells X3.out;have hx3l:=X3.out.lt;go_wp2_with fail;refine(ndSession_any p HHl.out tr b0 base g (t.open s p) vs s fa fc W (Hg.out.wk HM.out T03.out) M3.out (by show s<(t.node.sides.set s _).length;rw[List.length_set];exact HSL.out) HR3.out Hp.out HG.out.1 (by have:=HG.out;omega) (by have:=HG.out;show t.posts.length≤_;omega) (by have:=HG.out;show t.recs.length≤_;omega)).mono ?_;rintro e w4 ⟨rfl,v4,m4,t4,h4⟩;obtain⟨t2,ht2⟩:∃t2,t2=(t.open s p).session s p:=⟨_,rfl⟩;have hN2:NG tr (b0+2) t2.node:=by rw[ht2];exact HG.out.1.session (by show s<(t.node.sides.set s _).length;rw[List.length_set];exact HSL.out) (by have:=HG.out;omega)
  have hs2:s<t2.node.sides.length:=by
   rw[ht2,session_len]
   show s<(t.node.sides.set s _).length
   rw[List.length_set];exact HSL.out
  have hq2:(t2.side s).l.queue.length≤1000000:=by
   obtain⟨k1,k2,-⟩:=hN2.at hs2;have h3:=(lk_zero (sideOk_all k1).2.1).2.2.1;have:=k2.2.2.1;have:=HG.out;omega
  have hpo2:t2.posts.length≤1000000:=by
   rw[ht2];exact HPo.out
  rw[←ht2]at m4;have HJ:Hid (t.joinedT s p=t2.send s (wholeFr p.epoch t2.node.text)):=by
   unfold Hid Tn.joinedT;rw[←ht2]
  have htx:=m4.fit.2.2.2;have hwf:(wholeFr p.epoch t2.node.text).fits:=⟨by show I64 3;unfold I64;omega,by show I64 0;unfold I64;omega,Hp.out.1,htx⟩;have M4:=Lib.hid m4;have T04:Hid (Touch (Mine g vs) w w4):=T03.out.trans t4;have H4:=Lib.hid (fun z (hz:Mine g v4 z)=>(h4 z hz).imp_right fun h=>(by have:=T03.out.size;omega:w.heap.size≤z));have X4:=Lib.hid (X3.out.touch t4 hxb);have H2:=Lib.hid (And.intro hs2 (And.intro hq2 (And.intro hpo2 hwf)));have hgl4:=m4.lt;clear m4 t4 h4 hN2 hs2 hq2 hpo2 hwf htx ht2 p0 p1 p2 p3 p4 p5 p6 p7 p8 HPo;have HSd:=Lib.hid (fun W (hB:Below w4.heap.size w4 W)=>ndSend_any base g t2 v4 s (wholeFr p.epoch t2.node.text) none 0 W ((Hg.out.wk HM.out T04.out).go hB) (M4.out.go hB) H2.out.1 (RdS.nil _ _) H2.out.2.2.2 H2.out.2.2.1 H2.out.2.1);go_upto_region 5 with fail;obtain⟨Vp,HV⟩:∃Vp:Nat→Value→World→Prop,Hid (Vp=fun i v W=>match i with
   |0=>v=.pointer (some ⟨g,0,none⟩)
   |1=>v=.int .i64 (s:Int)
   |2=>v=.pointer (some ⟨w.heap.size,0,none⟩)
   |3=>v=.int .i64 p.epoch
   |4=>v=.pointer (some ⟨g,0,none⟩)
   |5=>v=.pointer (some ⟨g,0,none⟩)
   |6=>v=.pointer (some ⟨g,4,none⟩)
   |7=>v=.string t2.node.text
   |8=>v=.agg #[.int .i64 3,.int .i64 0,.int .i64 p.epoch,.slice none 0 0,.string t2.node.text]
   |_=>v=.tuple #[]):=⟨_,rfl⟩
  obtain⟨Ip,HIp⟩:∃Ip:(Nat→Bool)→(Nat→Value)→World→Prop,Hid (Ip=fun L x W=>((L 9=false→Below w4.heap.size w4 W)∧(L 9=true→WkS base g (t2.send s (wholeFr p.epoch t2.node.text)) v4 w4 W))):=⟨_,rfl⟩;refine region_lit3 (by kernel_rfl) (by kernel_rfl) (by kernel_rfl) [[],[],[],[2],[],[4],[4,5],[4,5,6],[2,3,4,5,6,7],[0,1,2,3,4,5,6,7,8]] (by kernel_rfl) [some 37,some 38,some 39,some 40,some 41,some 42,some 43,some 44,some 45,some 46] (by kernel_rfl) [[0,9],[1,9],[2,3,8,9],[3,8,9],[4,5,6,7,8,9],[5,6,7,8,9],[6,7,8,9],[7,8,9],[8,9],[9]] (by kernel_rfl) [[],[],[],[],[],[],[],[],[],[]] [[],[],[],[2],[],[4],[5],[6],[3,7],[0,1,8]] (by kernel_rfl)
   Ip
   Vp
   (fun j W W'=>match j with
    |9=>True
    |_=>Below W.heap.size W W')
   [fun x=>⟨(fZm 0 (.pointer (some ⟨g,0,none⟩)) (fEm 37)).toArray,[]⟩,fun x=>⟨(fZm 1 (.int .i64 (s:Int)) (fEm 37)).toArray,[]⟩,fun x=>⟨(fZm 5 (.pointer (some ⟨w.heap.size,0,none⟩)) (fEm 34)).toArray,[]⟩,fun x=>⟨(fZm 39 (x 2) (fEm 1)).toArray,[]⟩,fun x=>⟨(fZm 6 (.pointer (some ⟨g,0,none⟩)) (fEm 35)).toArray,[]⟩,fun x=>⟨(fZm 41 (x 4) (fEm 1)).toArray,[]⟩,fun x=>⟨(fZm 42 (x 5) (fEm 1)).toArray,[]⟩,fun x=>⟨(fZm 43 (x 6) (fEm 1)).toArray,[]⟩,fun x=>⟨(fZm 40 (x 3) (fZm 3 (x 7) (fEm 1))).toArray,[]⟩,fun x=>⟨(fZm 37 (x 0) (fZm 0 (x 1) (fZm 6 (x 8) (fEm 1)))).toArray,[]⟩]
   ?hF ?mono ?h0 ?step [0,1,2,3,4,5,6,7,8,9] (by kernel_rfl) ?fin
  case hF=>
   iterate 10 refine⟨fun x=>⟨by kernel_rfl,by kernel_rfl⟩,?_⟩
   trivial
  case mono=>
   intro i j hi hj hne hna hnk v W W' hE hv;rw[HV.out]at hv⊢;simp only[List.length_cons,List.length_nil]at hi hj
   match i,hi with
   |0,_|1,_|2,_|3,_|4,_|5,_|6,_|7,_|8,_|9,_=>exact hv
   |m+10,h=>exact absurd h (by omega)
  case h0=>intro x;exact toI HIp ⟨(fun _=>(Below.refl _ _).drew),(fun h=>by cases h)⟩
  case step=>
   refine⟨?_,?_,?_,?_,?_,?_,?_,?_,?_,?_,trivial⟩
   all_goals
    intro x W L hI hL hV;replace hI:((L 9=false→Below w4.heap.size w4 W)∧(L 9=true→WkS base g (t2.send s (wholeFr p.epoch t2.node.text)) v4 w4 W)):=ofI HIp hI;rw[HV.out]at hV;simp only[AllV,and_true]at hV;dsimp only[fZm,fEm,List.reduceReplicate,List.cons_append,List.nil_append]
   iterate 3
    ·clear hV;have HI:=Lib.hid hI;clear hI;go_wp2_with fail;refine step3_done rfl ?_ ?_ ?_
     ·exact(toI HIp HI.out)
     ·exact(Below.refl _ _)
     ·exact(toV HV rfl)
   ·have u2:=hV;clear hV;simp only[u2];clear u2;have q0:W.cell? ⟨w.heap.size,0,none⟩=some (.int .i64 p.epoch):=(X4.out.go (hI.1 (hL.2 9 (by simp)))).cell 0;have HI:=Lib.hid hI;clear hI;go_wp2_with fail;refine step3_done rfl ?_ ?_ ?_
    ·exact(toI HIp HI.out)
    ·exact(Below.refl _ _)
    ·exact(toV HV rfl)
   ·clear hV;have HI:=Lib.hid hI;clear hI;go_wp2_with fail;refine step3_done rfl ?_ ?_ ?_
    ·exact(toI HIp HI.out)
    ·exact(Below.refl _ _)
    ·exact(toV HV rfl)
   ·have u4:=hV;clear hV;simp only[u4];clear u4;have HI:=Lib.hid hI;clear hI;go_wp2_with fail;refine step3_done rfl ?_ ?_ ?_
    ·exact(toI HIp HI.out)
    ·exact(Below.refl _ _)
    ·exact(toV HV rfl)
   ·have u5:=hV;clear hV;simp only[u5];clear u5;have HI:=Lib.hid hI;clear hI;go_wp2_with fail;refine step3_done rfl ?_ ?_ ?_
    ·exact(toI HIp HI.out)
    ·exact(Below.refl _ _)
    ·exact(toV HV rfl)
   ·have u6:=hV;clear hV;simp only[u6];clear u6;have q4:W.cell? ⟨g,4,none⟩=some (.string t2.node.text):=(M4.out.go (hI.1 (hL.2 9 (by simp)))).box.cell 4;have HI:=Lib.hid hI;clear hI;go_wp2_with fail;refine step3_done rfl ?_ ?_ ?_
    ·exact(toI HIp HI.out)
    ·exact(Below.refl _ _)
    ·exact(toV HV rfl)
   ·obtain⟨u3,u7⟩:=hV;simp only[u3,u7];clear u3 u7;have HI:=Lib.hid hI;clear hI;go_wp2_with fail;refine step3_done rfl ?_ ?_ ?_
    ·exact(toI HIp HI.out)
    ·exact(Below.refl _ _)
    ·exact(toV HV rfl)
   ·obtain⟨u0,u1,u8⟩:=hV;simp only[u0,u1,u8];clear u0 u1 u8;have hb:=hI.1 (hL.2 9 (by simp));have HB:=Lib.hid hb;clear hI hb;go_wp2_with fail;refine(HSd.out W HB.out).mono ?_;rintro e W' ⟨rfl,hW⟩;have HW:=Lib.hid hW;clear hW;go_wp2_with fail;refine step3_done rfl ?_ ?_ ?_
    ·exact toI HIp ⟨(fun h=>absurd h (by simp[setB])),(fun _=>WkS.trans (Touch.of_below HB.out) (fun z hz=>.inl hz) HW.out)⟩
    ·exact trivial
    ·exact toV HV rfl
  case fin=>
   intro x W L hL hI hV;replace hI:((L 9=false→Below w4.heap.size w4 W)∧(L 9=true→WkS base g (t2.send s (wholeFr p.epoch t2.node.text)) v4 w4 W)):=ofI HIp hI;rw[HV.out]at hV;simp only[AllV,and_true]at hV;obtain⟨u0,u1,u2,u3,u4,u5,u6,u7,u8,u9⟩:=hV;simp only[getsD,List.getD_cons_succ,List.getD_cons_zero,List.length_cons,List.length_nil,List.range,List.range.loop,u0,u1,u2,u3,u4,u5,u6,u7,u8,u9,Act.put,List.setIfInBounds_toArray,List.set_cons_succ,List.set_cons_zero];clear u0 u1 u2 u3 u4 u5 u6 u7 u8 u9;have hW5:=hI.2 (hL 9 (by simp));have HW:Hid (WkS base g (t.joinedT s p) vs w W):=by
    rw[HJ.out];exact WkS.trans T04.out H4.out hW5
   clear hI hL hW5;go_wp2_with fail;go_end0;exact⟨rfl,HW.out⟩
end Go.Proofs.YtkbfhgcjimfgkaaDoor
set_option linter.unusedSimpArgs false
namespace Go.Proofs.YtkbfhgcjimfgkaaDoor
open Go.RowKit
theorem WkG.setMk {base g:Nat}{t:Tn}{vs:Nat→Value}{w w':World}{v':Value}{l:List Mk}(h:WkM base g t vs w)(hg:w.grownBy w' (vs 2).ownBlock)(hv:∀k,v'.ownBlock=some k→(vs 2).ownBlock=some k∨w.heap.size≤k)(hn:OwnO (WX base g vs) base v' l w'):
 WkM base g (t.setMarks l) (fun q=>if q=2 then v' else vs q) (w'.setCell ⟨g,7,none⟩ v')∧Touch (Mine g vs) w (w'.setCell ⟨g,7,none⟩ v')∧∀z,Mine g (fun q=>if q=2 then v' else vs q) z→Mine g vs z∨w.heap.size≤z:=by
 have h1:WkG base g (t.setMarks l) vs (fun q=>if q=2 then v' else vs q) w':=h.grow (t':=t.setMarks l) (j:=2) (by omega) hg hv hn (fun i hi X v W h=>by
  match i,hi with
  |2,hi=>exact absurd rfl hi
  |0,_=>exact h
  |1,_=>exact h
  |3,_=>exact h
  |4,_=>exact h
  |i+5,_=>trivial) rfl h.fit
 have ht:=touch1 (w:=w') (g:=g) (i:=7) v';refine⟨h1.put ht (h1.box.set 7 v') (fun i X v W h=>h) h.fit,?_,?_⟩
 ·have hg':Touch (Mine g vs) w w':=⟨hg.os,hg.tape,hg.output,hg.size,fun k hk hs=>hg.block k hk fun e=>hs (.inr ⟨2,by omega,e.symm⟩)⟩;exact hg'.trans (ht.mono fun k _ hk=>.inl hk)
 ·rintro z (hz|⟨q,hq,hz⟩)
  ·exact .inl (.inl hz)
  ·by_cases e:q=2
   ·subst e;simp only[if_true]at hz;exact(hv z hz).imp_left fun h=>.inr ⟨2,by omega,h⟩
   ·simp only[if_neg e]at hz;exact .inl (.inr ⟨q,hq,hz⟩)
end Go.Proofs.YtkbfhgcjimfgkaaDoor
set_option linter.unusedSimpArgs false
namespace Go.Proofs.YtkbfhgcjimfgkaaDoor
open Go.RowKit
def Tn.fresh (t:Tn)(e:Int)(k:Nat):Tn:={t with node:=⟨t.node.me,e,t.node.up,false,noText,((t.node.sides.take k).map fun s=>newSd s.peer)++t.node.sides.drop k,[],[]⟩}
theorem fresh_len (t:Tn)(e:Int)(k:Nat):(t.fresh e k).node.sides.length=t.node.sides.length:=by
 show(((t.node.sides.take k).map fun s=>newSd s.peer)++t.node.sides.drop k).length=_
 simp;omega
theorem fresh_step (t:Tn)(e:Int)(k:Nat)(h:k<t.node.sides.length):(t.fresh e k).setSide k (newSd (t.side k).peer)=t.fresh e (k+1):=by
 unfold Tn.setSide Tn.fresh;simp only;congr 2;have hl:((t.node.sides.take k).map fun s=>newSd s.peer).length=k:=by simp;omega
 rw[List.set_append_right _ _ (by omega),hl,Nat.sub_self,List.drop_eq_getElem_cons h,List.set_cons_zero,List.take_succ_eq_append_getElem h,List.map_append,t.side_get k h];simp
theorem fresh_side (t:Tn)(e:Int)(k:Nat)(h:k<t.node.sides.length):(t.fresh e k).side k=t.side k:=by
 rw[(t.fresh e k).side_get k (by rw[fresh_len];exact h),t.side_get k h];have h1:(((t.node.sides.take k).map fun s=>newSd s.peer)++t.node.sides.drop k)[k]?=t.node.sides[k]?:=by
  have hl:((t.node.sides.take k).map fun s=>newSd s.peer).length=k:=by simp;omega
  rw[List.getElem?_append_right (by omega),hl,Nat.sub_self,List.getElem?_drop,Nat.add_zero]
 exact Option.some.inj ((List.getElem?_eq_getElem _).symm.trans (h1.trans (List.getElem?_eq_getElem h)))
theorem fresh_all (t:Tn)(e:Int):(t.fresh e t.node.sides.length).node.sides=t.node.sides.map fun s=>newSd s.peer:=by
 show((t.node.sides.take t.node.sides.length).map fun s=>newSd s.peer)++t.node.sides.drop t.node.sides.length=_
 simp
theorem WkG.fresh {base g:Nat}{t:Tn}{vs:Nat→Value}{w:World}(h:WkM base g t vs w):∃vs1,WkM base g (t.fresh t.node.epoch 0) vs1 ((((w.setCell ⟨g,3,none⟩ (.bool false)).setCell ⟨g,4,none⟩ (.string ⟨#[]⟩)).setCell ⟨g,6,none⟩ (.slice none 0 0)).setCell ⟨g,7,none⟩ (.slice none 0 0))∧vs1 0=vs 0∧∀z,Mine g vs1 z→Mine g vs z:=by
 have h1:WkM base g {t with node:={t.node with ready:=false}} vs (w.setCell ⟨g,3,none⟩ (.bool false)):=h.put (touch1 (w:=w) (g:=g) (i:=3) (.bool false)) (h.box.set 3 _) (fun i X v W h=>h) h.fit;have h2:WkM base g {t with node:={t.node with ready:=false,text:=noText}} vs ((w.setCell ⟨g,3,none⟩ (.bool false)).setCell ⟨g,4,none⟩ (.string ⟨#[]⟩)):=h1.put (touch1 (w:=w.setCell ⟨g,3,none⟩ (.bool false)) (g:=g) (i:=4) (.string ⟨#[]⟩)) (h1.box.set 4 _) (fun i X v W h=>h) ⟨h.fit.1,h.fit.2.1,h.fit.2.2.1,by show(noText:Str).size≤strMax;rw[noText_size];unfold strMax;omega⟩;obtain⟨h3,-,h3m⟩:=WkG.setUndo (v':=.slice none 0 0) (l:=[]) h2 (World.grownBy.refl _ _) (fun k hk=>by cases hk) OwnO.nil;obtain⟨h4,-,h4m⟩:=WkG.setMk (v':=.slice none 0 0) (l:=[]) h3 (World.grownBy.refl _ _) (fun k hk=>by cases hk) OwnO.nil;refine⟨_,h4,rfl,fun z hz=>?_⟩;rcases hz with hz|⟨q,hq,hz⟩
 ·exact .inl hz
 ·by_cases e2:q=2
  ·subst e2;simp only[if_true]at hz;cases hz
  ·simp only[if_neg e2]at hz;by_cases e1:q=1
   ·subst e1;simp only[if_true]at hz;cases hz
   ·simp only[if_neg e1]at hz;exact .inr ⟨q,hq,hz⟩
def Tn.setEp (t:Tn)(e:Int):Tn:={t with node:={t.node with epoch:=e}}
def Tn.setUp (t:Tn)(e:Int):Tn:={t with node:={t.node with up:=e}}
set_option maxRecDepth 100000 in
set_option maxHeartbeats 8000000 in
theorem ndAway_any (base g:Nat)(t:Tn)(vs:Nat→Value)(up:Int)(w:World)(hg:Good w)(h:WkM base g t vs w)(hs:0<t.node.sides.length)(hsl:t.node.sides.length≤100)(hup:I64 up)(he0:0≤t.node.epoch)(he1:t.node.epoch≤1048576)(hpo:t.posts.length≤1000):
 Calls Tryd.prog 41 #[.pointer (some ⟨g,0,none⟩),.int .i64 up] w fun e w'=>e=.returned (.tuple #[])∧WkS base g (t.away up) vs w w':=by
 have HNP:=Lib.hid (fun W=>node_ptr g W);have HM:=Lib.hid h;have Hg:=Lib.hid hg;obtain⟨sr,so,sc0,-,hv0,-,-,-,-,-,-⟩:=h.side 0 hs;obtain⟨hpe,-,-,hsr0,hrg,hbr,hnc,hcm⟩:=h.sideAt hs hv0;have hpe64:Hid (∀k,k<t.node.sides.length→I64 (t.side k).peer):=fun k hk=>by
  obtain⟨_,_,_,xs,-,-,-,-,-,-,hrd,-⟩:=h.side k hk;obtain⟨_,_,_,_,_,_,-,-,-,-,h64,-⟩:=hrd;rw[t.side_get k hk];exact h64
 have HV0:=Lib.hid hv0;obtain⟨N,hN⟩:∃N,N=t.node.sides.length:=⟨_,rfl⟩;have HN:=Lib.hid hN;have hN0:0<N:=by omega
 have hNc:(N:Int)≤(sc0:Int):=by omega
 have hN100:(N:Int)≤100:=by omega
 have hcm2:(sc0:Int)≤9223372036854775807:=by unfold maxLen at hcm;omega
 have HP:=Lib.hid (And.intro hup (And.intro he0 (And.intro he1 hpo)));have hgl:=h.lt;obtain⟨p0,p1,p2,p3,p4,p5,p6,p7,p8,p9⟩:=blk10_cells h.box;have hv0':vs 0=.slice (some ⟨sr,so,none⟩) N sc0:=by rw[hv0,hN]
 rw[hv0']at p5;have pf:=h.box.frozen;have hFr:=Lib.hid h.fresh;clear h hg hpe hs hsl hv0 hv0' hup he0 he1 hpo hN;go_enter Tryd.func41,Tryd.ntmps41;go_wp2_with fail;refine(HNP.out w).mono ?_;rintro e w1 ⟨rfl,rfl⟩;go_upto_region 2 with fail;obtain⟨vs1,m1,hvs1,hmn1⟩:=hFr.out;have ht1:Touch (Mine g vs) w ((((w.setCell ⟨g,3,none⟩ (.bool false)).setCell ⟨g,4,none⟩ (.string ⟨#[]⟩)).setCell ⟨g,6,none⟩ (.slice none 0 0)).setCell ⟨g,7,none⟩ (.slice none 0 0)):=((((touch1 (w:=w) (g:=g) (i:=3) (.bool false)).trans (touch1 _)).trans (touch1 _)).trans (touch1 _)).mono fun z _ hz=>.inl hz;refine abs_w (fun W=>WkM base g (t.fresh t.node.epoch 0) vs1 W∧Touch (Mine g vs) w W) ⟨m1,ht1⟩ ?_;rintro w2 ⟨m2,t2⟩;have M2:=Lib.hid m2;have T2:=Lib.hid t2;have hv1:vs1 0=.slice (some ⟨sr,so,none⟩) N sc0:=by rw[hvs1,HV0.out,HN.out]
 have HV1:=Lib.hid hv1;have Hmn1:=Lib.hid hmn1;obtain⟨-,-,-,-,-,q5,-,-,-,-⟩:=blk10_cells m2.box;rw[hv1]at q5;have hgl2:=m2.lt;have hrM:Hid (Mine g vs1 sr):=.inr ⟨0,by omega,by rw[hv1];rfl⟩;obtain⟨up0,hup0⟩:∃up0,up0=t.node.epoch:=⟨_,rfl⟩;rw[←hup0]at M2;have Hup0:=Lib.hid hup0;clear m1 ht1 m2 t2 hFr hvs1 hmn1 hv1 p0 p1 p2 p3 p4 p5 p6 p7 p8 p9 pf hup0;go_wp2_with fail;go_loopw [25] (fun vi wr=>∃k:Nat,k≤N∧vi=.int .i64 (k:Int)∧WkM base g (t.fresh up0 k) vs1 wr∧Touch (Mine g vs1) w2 wr) (fun vi _=>N-(intOf vi).toNat)
 case atStart=>exact⟨0,by omega,rfl,M2.out,Touch.refl _ _⟩
 case round=>
  obtain⟨k,hk,rfl,hm,ht⟩:=hrel;by_cases hlt:k<N
  ·have hlt':(k:Int)<(N:Int):=by omega
   have hkt:k<t.node.sides.length:=by rw[←HN.out];exact hlt
   have HMx:=Lib.hid hm;have Ht:=Lib.hid ht;have HSx:Hid (k<(t.fresh up0 k).node.sides.length):=by unfold Hid;rw[fresh_len];exact hkt
   have HVx:Hid (vs1 0=.slice (some ⟨sr,so,none⟩) (t.fresh up0 k).node.sides.length sc0):=by unfold Hid;rw[fresh_len,←HN.out];exact HV1.out
   obtain⟨hpk,-,-,hsrW0,-⟩:=hm.sideAt HSx.out HVx.out;rw[fresh_side t up0 k hkt]at hpk;have h64:=hpe64.out k hkt;obtain⟨PE,hPE⟩:∃PE,PE=(t.side k).peer:=⟨_,rfl⟩;rw[←hPE]at hpk h64;have HPE:=Lib.hid hpk;have HP5:Hid (wr.cell? ⟨g,5,none⟩=some (.slice (some ⟨sr,so,none⟩) N sc0)):=(hm.box.cell 5).trans (congrArg some HV1.out);have Hstep:Hid ((t.fresh up0 k).setSide k (newSd PE)=t.fresh up0 (k+1)):=by unfold Hid;rw[hPE];exact fresh_step t up0 k hkt
   have hgW0:=hm.lt;have HUpd:Hid (∀W,Below wr.heap.size wr W→WkM base g ((t.fresh up0 k).setSide k (newSd PE)) vs1 (W.setCells sr (so+k*10) [.int .i64 PE,.bool false,.int .i64 0,.int .i64 0,.slice none 0 0,.int .i64 0,.int .i64 1,.slice none 0 0,.slice none 0 0,.int .i64 0])):=fun W hW=>
    WkG.updSide (HMx.out.go hW) k HSx.out HVx.out (newSd PE) h64 ⟨by show I64 0;unfold I64;omega,by show I64 0;unfold I64;omega⟩ ⟨by show I64 0;unfold I64;omega,by show I64 1;unfold I64;omega,by show I64 0;unfold I64;omega⟩ rfl rfl rfl
   clear hm ht hpk hPE h64;go_upto_region 5 with fail;obtain⟨Vp,HV⟩:∃Vp:Nat→Value→World→Prop,Hid (Vp=fun i v W=>match i with
    |0=>v=.pointer (some ⟨g,0,none⟩)
    |1=>v=.pointer (some ⟨g,0,none⟩)
    |2=>v=.pointer (some ⟨g,5,none⟩)
    |3=>v=.slice (some ⟨sr,so,none⟩) N sc0
    |4=>v=.int .i64 (k:Int)
    |5=>v=.pointer (some ⟨g,0,none⟩)
    |6=>v=.pointer (some ⟨g,0,none⟩)
    |7=>v=.pointer (some ⟨g,5,none⟩)
    |8=>v=.slice (some ⟨sr,so,none⟩) N sc0
    |9=>v=.int .i64 (k:Int)
    |10=>v=.pointer (some ⟨sr,so+k*10,none⟩)
    |11=>v=.pointer (some ⟨sr,so+k*10,none⟩)
    |12=>v=.int .i64 PE
    |13=>v=.agg #[.int .i64 0,.int .i64 1,.slice none 0 0,.slice none 0 0,.int .i64 0]
    |14=>v=.agg #[.int .i64 PE,.bool false,.int .i64 0,.int .i64 0,.slice none 0 0,.int .i64 0,.int .i64 1,.slice none 0 0,.slice none 0 0,.int .i64 0]
    |15=>v=.pointer (some ⟨sr,so+k*10,none⟩)
    |_=>v=undef):=⟨_,rfl⟩
   obtain⟨Ip,HIp⟩:∃Ip:(Nat→Bool)→(Nat→Value)→World→Prop,Hid (Ip=fun L x W=>((L 16=false→Below wr.heap.size wr W)∧(L 16=true→Touch (fun z=>z=sr) wr W∧WkM base g ((t.fresh up0 k).setSide k (newSd PE)) vs1 W))):=⟨_,rfl⟩;refine region_lit3 (by kernel_rfl) (by kernel_rfl) (by kernel_rfl) [[],[0],[0,1],[0,1,2],[],[],[5],[5,6],[5,6,7],[],[5,6,7,8,9],[5,6,7,8,9,10],[5,6,7,8,9,10,11],[],[5,6,7,8,9,10,11,12,13],[0,1,2,3,4],[0,1,2,3,4,5,6,7,8,9,10,11,12,13,14,15]] (by kernel_rfl) [some 28,some 29,some 30,some 31,some 32,some 33,some 34,some 35,some 36,some 37,some 38,some 39,some 40,some 41,some 42,some 43,none] (by kernel_rfl) [[0,1,2,3,15,16],[1,2,3,15,16],[2,3,15,16],[3,15,16],[4,15,16],[5,6,7,8,10,11,12,14,16],[6,7,8,10,11,12,14,16],[7,8,10,11,12,14,16],[8,10,11,12,14,16],[9,10,11,12,14,16],[10,11,12,14,16],[11,12,14,16],[12,14,16],[13,14,16],[14,16],[15,16],[16]] (by kernel_rfl) [[],[],[],[],[],[],[],[],[],[],[],[],[],[],[],[],[]] [[],[0],[1],[2],[],[],[5],[6],[7],[],[8,9],[10],[11],[],[12,13],[3,4],[14,15]] (by kernel_rfl)
    Ip
    Vp
    (fun j W W'=>match j with
     |16=>True
     |_=>Below W.heap.size W W')
    [fun x=>⟨(fZm 4 (.pointer (some ⟨g,0,none⟩)) (fEm 24)).toArray,[]⟩,fun x=>⟨(fZm 28 (x 0) (fEm 1)).toArray,[]⟩,fun x=>⟨(fZm 29 (x 1) (fEm 1)).toArray,[]⟩,fun x=>⟨(fZm 30 (x 2) (fEm 1)).toArray,[]⟩,fun x=>⟨(fZm 5 (.int .i64 (k:Int)) (fEm 27)).toArray,[]⟩,fun x=>⟨(fZm 4 (.pointer (some ⟨g,0,none⟩)) (fEm 29)).toArray,[]⟩,fun x=>⟨(fZm 33 (x 5) (fEm 1)).toArray,[]⟩,fun x=>⟨(fZm 34 (x 6) (fEm 1)).toArray,[]⟩,fun x=>⟨(fZm 35 (x 7) (fEm 1)).toArray,[]⟩,fun x=>⟨(fZm 5 (.int .i64 (k:Int)) (fEm 32)).toArray,[]⟩,fun x=>⟨(fZm 36 (x 8) (fZm 0 (x 9) (fEm 1))).toArray,[]⟩,fun x=>⟨(fZm 38 (x 10) (fEm 1)).toArray,[]⟩,fun x=>⟨(fZm 39 (x 11) (fEm 1)).toArray,[]⟩,fun x=>⟨(fEm 42).toArray,[]⟩,fun x=>⟨(fZm 40 (x 12) (fZm 0 (x 13) (fEm 1))).toArray,[]⟩,fun x=>⟨(fZm 31 (x 3) (fZm 0 (x 4) (fEm 11))).toArray,[]⟩,fun x=>⟨(fZm 42 (x 14) (fZm 0 (x 15) [])).toArray,[]⟩]
    ?hF ?mono ?h0 ?step [0,1,2,3,4,5,6,7,8,9,10,11,12,13,14,15,16] (by kernel_rfl) ?fin
   case hF=>
    iterate 17 refine⟨fun x=>⟨by kernel_rfl,by kernel_rfl⟩,?_⟩
    trivial
   case mono=>
    intro i j hi hj hne hna hnk v W W' hE hv;rw[HV.out]at hv⊢;simp only[List.length_cons,List.length_nil]at hi hj
    match i,hi with
    |0,_|1,_|2,_|3,_|4,_|5,_|6,_|7,_|8,_|9,_|10,_|11,_|12,_|13,_|14,_|15,_|16,_=>exact hv
    |m+17,h=>exact absurd h (by omega)
   case h0=>intro x;exact toI HIp ⟨(fun _=>(Below.refl _ _).drew),(fun h=>by cases h)⟩
   case step=>
    refine⟨?_,?_,?_,?_,?_,?_,?_,?_,?_,?_,?_,?_,?_,?_,?_,?_,?_,trivial⟩
    all_goals
     intro x W L hI hL hV;replace hI:((L 16=false→Below wr.heap.size wr W)∧(L 16=true→Touch (fun z=>z=sr) wr W∧WkM base g ((t.fresh up0 k).setSide k (newSd PE)) vs1 W)):=ofI HIp hI;rw[HV.out]at hV;simp only[AllV,and_true]at hV;dsimp only[fZm,fEm,List.reduceReplicate,List.cons_append,List.nil_append]
    ·clear hV;have HI:=Lib.hid hI;clear hI;go_wp2_with fail;refine step3_done rfl ?_ ?_ ?_
     ·exact(toI HIp HI.out)
     ·exact(Below.refl _ _)
     ·exact(toV HV rfl)
    ·have u0:=hV;clear hV;simp only[u0];clear u0;have HI:=Lib.hid hI;clear hI;go_wp2_with fail;refine step3_done rfl ?_ ?_ ?_
     ·exact(toI HIp HI.out)
     ·exact(Below.refl _ _)
     ·exact(toV HV rfl)
    ·have u1:=hV;clear hV;simp only[u1];clear u1;have HI:=Lib.hid hI;clear hI;go_wp2_with fail;refine step3_done rfl ?_ ?_ ?_
     ·exact(toI HIp HI.out)
     ·exact(Below.refl _ _)
     ·exact(toV HV rfl)
    ·have u2:=hV;clear hV;simp only[u2];clear u2;have hb:=hI.1 (hL.2 16 (by simp));have q5:W.cell? ⟨g,5,none⟩=some (.slice (some ⟨sr,so,none⟩) N sc0):=(hb.cell (p:=⟨g,5,none⟩) hgW0).trans HP5.out;have HI:=Lib.hid hI;clear hI hb;go_wp2_with fail;refine step3_done rfl ?_ ?_ ?_
     ·exact(toI HIp HI.out)
     ·exact(Below.refl _ _)
     ·exact(toV HV rfl)
    ·clear hV;have HI:=Lib.hid hI;clear hI;go_wp2_with fail;refine step3_done rfl ?_ ?_ ?_
     ·exact(toI HIp HI.out)
     ·exact(Below.refl _ _)
     ·exact(toV HV rfl)
    ·clear hV;have HI:=Lib.hid hI;clear hI;go_wp2_with fail;refine step3_done rfl ?_ ?_ ?_
     ·exact(toI HIp HI.out)
     ·exact(Below.refl _ _)
     ·exact(toV HV rfl)
    ·have u5:=hV;clear hV;simp only[u5];clear u5;have HI:=Lib.hid hI;clear hI;go_wp2_with fail;refine step3_done rfl ?_ ?_ ?_
     ·exact(toI HIp HI.out)
     ·exact(Below.refl _ _)
     ·exact(toV HV rfl)
    ·have u6:=hV;clear hV;simp only[u6];clear u6;have HI:=Lib.hid hI;clear hI;go_wp2_with fail;refine step3_done rfl ?_ ?_ ?_
     ·exact(toI HIp HI.out)
     ·exact(Below.refl _ _)
     ·exact(toV HV rfl)
    ·have u7:=hV;clear hV;simp only[u7];clear u7;have hb:=hI.1 (hL.2 16 (by simp));have q5:W.cell? ⟨g,5,none⟩=some (.slice (some ⟨sr,so,none⟩) N sc0):=(hb.cell (p:=⟨g,5,none⟩) hgW0).trans HP5.out;have HI:=Lib.hid hI;clear hI hb;go_wp2_with fail;refine step3_done rfl ?_ ?_ ?_
     ·exact(toI HIp HI.out)
     ·exact(Below.refl _ _)
     ·exact(toV HV rfl)
    ·clear hV;have HI:=Lib.hid hI;clear hI;go_wp2_with fail;refine step3_done rfl ?_ ?_ ?_
     ·exact(toI HIp HI.out)
     ·exact(Below.refl _ _)
     ·exact(toV HV rfl)
    ·obtain⟨u8,u9⟩:=hV;simp only[u8,u9];clear u8 u9;have HI:=Lib.hid hI;clear hI;go_wp2_with fail;refine step3_done rfl ?_ ?_ ?_
     ·exact(toI HIp HI.out)
     ·exact(Below.refl _ _)
     ·exact(toV HV rfl)
    ·have u10:=hV;clear hV;simp only[u10];clear u10;have HI:=Lib.hid hI;clear hI;go_wp2_with fail;refine step3_done rfl ?_ ?_ ?_
     ·exact(toI HIp HI.out)
     ·exact(Below.refl _ _)
     ·exact(toV HV rfl)
    ·have u11:=hV;clear hV;simp only[u11];clear u11;have hb:=hI.1 (hL.2 16 (by simp));have q0:W.cell? ⟨sr,so+k*10,none⟩=some (.int .i64 PE):=(hb.cell (p:=⟨sr,so+k*10,none⟩) hsrW0).trans HPE.out;have HI:=Lib.hid hI;clear hI hb;go_wp2_with fail;refine step3_done rfl ?_ ?_ ?_
     ·exact(toI HIp HI.out)
     ·exact(Below.refl _ _)
     ·exact(toV HV rfl)
    ·clear hV;have HI:=Lib.hid hI;clear hI;go_wp2_with fail;refine step3_done rfl ?_ ?_ ?_
     ·exact(toI HIp HI.out)
     ·exact(Below.refl _ _)
     ·exact(toV HV rfl)
    ·obtain⟨u12,u13⟩:=hV;simp only[u12,u13];clear u12 u13;have HI:=Lib.hid hI;clear hI;go_wp2_with fail;refine step3_done rfl ?_ ?_ ?_
     ·exact(toI HIp HI.out)
     ·exact(Below.refl _ _)
     ·exact(toV HV rfl)
    ·obtain⟨u3,u4⟩:=hV;simp only[u3,u4];clear u3 u4;have HI:=Lib.hid hI;clear hI;go_wp2_with fail;refine step3_done rfl ?_ ?_ ?_
     ·exact(toI HIp HI.out)
     ·exact(Below.refl _ _)
     ·exact(toV HV rfl)
    ·obtain⟨u14,u15⟩:=hV;simp only[u14,u15];clear u14 u15;have hb:=hI.1 (hL.2 16 (by simp));have hMW:=HMx.out.go hb;obtain⟨hc,hf,hsW⟩:=hMW.sideThere HSx.out HVx.out;obtain⟨u0',z0⟩:=hc 0 (by omega);have z0':W.cell? ⟨sr,so+k*10,none⟩=some u0':=z0;have f0':W.frozen? ⟨sr,so+k*10,none⟩=false:=hf 0 (by omega);obtain⟨u1',z1⟩:=hc 1 (by omega);have z1':W.cell? ⟨sr,so+k*10+1,none⟩=some u1':=z1;have f1':W.frozen? ⟨sr,so+k*10+1,none⟩=false:=hf 1 (by omega);obtain⟨u2',z2⟩:=hc 2 (by omega);have z2':W.cell? ⟨sr,so+k*10+2,none⟩=some u2':=z2;have f2':W.frozen? ⟨sr,so+k*10+2,none⟩=false:=hf 2 (by omega);obtain⟨u3',z3⟩:=hc 3 (by omega);have z3':W.cell? ⟨sr,so+k*10+3,none⟩=some u3':=z3;have f3':W.frozen? ⟨sr,so+k*10+3,none⟩=false:=hf 3 (by omega);obtain⟨u4',z4⟩:=hc 4 (by omega);have z4':W.cell? ⟨sr,so+k*10+4,none⟩=some u4':=z4;have f4':W.frozen? ⟨sr,so+k*10+4,none⟩=false:=hf 4 (by omega);obtain⟨u5',z5⟩:=hc 5 (by omega);have z5':W.cell? ⟨sr,so+k*10+5,none⟩=some u5':=z5;have f5':W.frozen? ⟨sr,so+k*10+5,none⟩=false:=hf 5 (by omega);obtain⟨u6',z6⟩:=hc 6 (by omega);have z6':W.cell? ⟨sr,so+k*10+6,none⟩=some u6':=z6;have f6':W.frozen? ⟨sr,so+k*10+6,none⟩=false:=hf 6 (by omega);obtain⟨u7',z7⟩:=hc 7 (by omega);have z7':W.cell? ⟨sr,so+k*10+7,none⟩=some u7':=z7;have f7':W.frozen? ⟨sr,so+k*10+7,none⟩=false:=hf 7 (by omega);obtain⟨u8',z8⟩:=hc 8 (by omega);have z8':W.cell? ⟨sr,so+k*10+8,none⟩=some u8':=z8;have f8':W.frozen? ⟨sr,so+k*10+8,none⟩=false:=hf 8 (by omega);obtain⟨u9',z9⟩:=hc 9 (by omega);have z9':W.cell? ⟨sr,so+k*10+9,none⟩=some u9':=z9;have f9':W.frozen? ⟨sr,so+k*10+9,none⟩=false:=hf 9 (by omega);have HB:=Lib.hid hb;have HUp:=Lib.hid (HUpd.out W hb);clear hI hb hMW hc hf z0 z1 z2 z3 z4 z5 z6 z7 z8 z9;go_wp2_with fail;have ht:=touch_setCells W sr (so+k*10) [.int .i64 PE,.bool false,.int .i64 0,.int .i64 0,.slice none 0 0,.int .i64 0,.int .i64 1,.slice none 0 0,.slice none 0 0,.int .i64 0];refine step3_done (v:=undef) rfl ?_ ?_ ?_
     ·exact toI HIp ⟨(fun h=>absurd h (by simp[setB])),(fun _=>⟨(Touch.of_below HB.out).trans ht,HUp.out⟩)⟩
     ·exact trivial
     ·exact toV HV rfl
   case fin=>
    intro x W L hL hI hV;replace hI:((L 16=false→Below wr.heap.size wr W)∧(L 16=true→Touch (fun z=>z=sr) wr W∧WkM base g ((t.fresh up0 k).setSide k (newSd PE)) vs1 W)):=ofI HIp hI;rw[HV.out]at hV;simp only[AllV,and_true]at hV;obtain⟨u0,u1,u2,u3,u4,u5,u6,u7,u8,u9,u10,u11,u12,u13,u14,u15,u16⟩:=hV;simp only[getsD,List.getD_cons_succ,List.getD_cons_zero,List.length_cons,List.length_nil,List.range,List.range.loop,u0,u1,u2,u3,u4,u5,u6,u7,u8,u9,u10,u11,u12,u13,u14,u15,u16,Act.put,List.setIfInBounds_toArray,List.set_cons_succ,List.set_cons_zero];clear u0 u1 u2 u3 u4 u5 u6 u7 u8 u9 u10 u11 u12 u13 u14 u15 u16;obtain⟨hT3,hM3⟩:=hI.2 (hL 16 (by simp));have HR:Hid (WkM base g (t.fresh up0 (k+1)) vs1 W∧Touch (Mine g vs1) w2 W):=⟨by rw[←Hstep.out];exact hM3,Ht.out.trans (hT3.mono fun z _ hz=>by rw[hz];exact hrM.out)⟩;clear hI hL hT3 hM3;go_wp2_with fail
    case roundEnd=>
     refine⟨⟨k+1,by omega,by push_cast;rfl,HR.out⟩,?_⟩;simp[intOf];omega
  ·have hkn:k=N:=by omega
   subst hkn;have hlt':¬((k:Int)<(k:Int)):=by omega
   have MA:=Lib.hid hm;have TA:Hid (Touch (Mine g vs) w wr):=T2.out.trans (ht.mono fun z _ hz=>Hmn1.out z hz);obtain⟨n0,n1,n2,-⟩:=blk10_cells hm.box;have hgW:=hm.lt;have nf:=hm.box.frozen;have n1':wr.cell? ⟨g,1,none⟩=some (.int .i64 up0):=n1;have hu0:up0≤1048576∧0≤up0:=by have:=HP.out;have:=Hup0.out;omega
   obtain⟨hu1,hu2⟩:=hu0;clear hm ht n1;by_cases hep:up0+1<1048576
   ·have hM9:WkM base g (((t.fresh up0 k).setEp (up0+1)).setUp up) vs1 ((wr.setCell ⟨g,1,none⟩ (.int .i64 (up0+1))).setCell ⟨g,2,none⟩ (.int .i64 up)):=by
     have h1:WkM base g ((t.fresh up0 k).setEp (up0+1)) vs1 (wr.setCell ⟨g,1,none⟩ (.int .i64 (up0+1))):=MA.out.put (touch1 _) (MA.out.box.set 1 _) (fun i X v W h=>h) ⟨MA.out.fit.1,⟨by show _≤up0+1;omega,by show up0+1≤_;omega⟩,MA.out.fit.2.2⟩;exact h1.put (touch1 _) (h1.box.set 2 _) (fun i X v W h=>h) ⟨h1.fit.1,h1.fit.2.1,HP.out.1,h1.fit.2.2.2⟩
    have HM9:=Lib.hid hM9;have hlo:Hid ((t.lost up)=((t.fresh up0 k).setEp (up0+1)).setUp up):=by
     unfold Hid Tn.lost Tn.setUp Tn.setEp;rw[←Hup0.out,if_pos hep,HN.out];have:=fresh_all t up0;unfold Tn.fresh at this⊢;simp only at this⊢;rw[this]
    rw[←hlo.out]at HM9;have hep':decide (up0+1<1048576)=true:=by simpa using hep
    clear hM9 hep;go_upto_region 10 with fail;refine abs_w (fun W=>WkM base g (t.lost up) vs1 W∧Touch (Mine g vs) w W) ⟨HM9.out,TA.out.trans ((((touch1 (w:=wr) (g:=g) (i:=1) (.int .i64 (up0+1))).trans (touch1 _))).mono fun z _ hz=>.inl hz)⟩ ?_;rintro w9 ⟨m9,t9⟩;have M9:=Lib.hid m9;have T9:=Lib.hid t9;have hln:0<(t.lost up).node.sides.length:=by
     show 0<(t.node.sides.map _).length
     rw[List.length_map,←HN.out];exact hN0
    clear m9 t9 HM9 n0 n1' n2 nf;go_wp2_with fail;refine(ndJoin_any base g (t.lost up) vs1 w9 (Hg.out.wk HM.out T9.out) M9.out hln (by have:=HP.out;show t.posts.length≤_;omega)).mono ?_;rintro e w10 ⟨rfl,hW⟩;have HW:Hid (WkS base g (t.away up) vs w w10):=WkS.trans T9.out (fun z hz=>.inl (Hmn1.out z hz)) hW;clear hW;go_wp2_with fail;go_end0;exact⟨rfl,HW.out⟩
   ·have hM9:WkM base g ((t.fresh up0 k).setUp up) vs1 (wr.setCell ⟨g,2,none⟩ (.int .i64 up)):=
     MA.out.put (touch1 _) (MA.out.box.set 2 _) (fun i X v W h=>h) ⟨MA.out.fit.1,MA.out.fit.2.1,HP.out.1,MA.out.fit.2.2.2⟩
    have HM9:=Lib.hid hM9;have hlo:Hid ((t.lost up)=(t.fresh up0 k).setUp up):=by
     unfold Hid Tn.lost Tn.setUp;rw[←Hup0.out,if_neg hep,HN.out];have:=fresh_all t up0;unfold Tn.fresh at this⊢;simp only at this⊢;rw[this]
    rw[←hlo.out]at HM9;have hep':decide (up0+1<1048576)=false:=by simpa using hep
    clear hM9 hep;go_upto_region 10 with fail;refine abs_w (fun W=>WkM base g (t.lost up) vs1 W∧Touch (Mine g vs) w W) ⟨HM9.out,TA.out.trans ((touch1 (w:=wr) (g:=g) (i:=2) (.int .i64 up)).mono fun z _ hz=>.inl hz)⟩ ?_;rintro w9 ⟨m9,t9⟩;have M9:=Lib.hid m9;have T9:=Lib.hid t9;have hln:0<(t.lost up).node.sides.length:=by
     show 0<(t.node.sides.map _).length
     rw[List.length_map,←HN.out];exact hN0
    clear m9 t9 HM9 n0 n1' n2 nf;go_wp2_with fail;refine(ndJoin_any base g (t.lost up) vs1 w9 (Hg.out.wk HM.out T9.out) M9.out hln (by have:=HP.out;show t.posts.length≤_;omega)).mono ?_;rintro e w10 ⟨rfl,hW⟩;have HW:Hid (WkS base g (t.away up) vs w w10):=WkS.trans T9.out (fun z hz=>.inl (Hmn1.out z hz)) hW;clear hW;go_wp2_with fail;go_end0;exact⟨rfl,HW.out⟩
end Go.Proofs.YtkbfhgcjimfgkaaDoor
