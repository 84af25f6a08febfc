/- The walk of node.Begin at what is refused. -/
import Derived.Test.YtkbfhgcjimfgkaaDoorPartB3
import Derived.Test.YtkbfhgcjimfgkaaDoorPartB5
import Derived.Test.YtkbfhgcjimfgkaaDoorPartB2
import Derived.Test.YtkbfhgcjimfgkaaDoorPartB4
set_option linter.unusedVariables false
set_option linter.unusedSimpArgs false
set_option linter.unusedSimpArgs false
namespace Go.Proofs.YtkbfhgcjimfgkaaDoor
open Go.RowKit
def Tn.send (t:Tn)(s:Nat)(f:Fr):Tn:=if(t.side s).l.sendE f=0 then(t.setSide s {t.side s with l:=(t.side s).l.sendL f}).post s ((t.side s).l.sendP f)else t
theorem len_setSide {t:Tn}{s:Nat}{y:Sd}:(t.setSide s y).node.sides.length=t.node.sides.length:=by show(t.node.sides.set s y).length=_;rw[List.length_set]
set_option maxRecDepth 100000 in
set_option maxHeartbeats 8000000 in
theorem ndSend_any (base g:Nat)(t:Tn)(vs:Nat→Value)(s:Nat)(f:Fr)(fa:Option Addr)(fc:Nat)(w:World)(hg:Good w)(h:WkM base g t vs w)(hs:s<t.node.sides.length)(hr:RdS (NM g vs w) w f.op fa f.op.length fc)(hf:f.fits)(hn:t.posts.length≤1000000)(hq:(t.side s).l.queue.length≤1000000):
 Calls Tryd.prog 51 #[.pointer (some ⟨g,0,none⟩),.int .i64 (s:Int),.agg #[.int .i64 f.kind,.int .i64 f.heard,.int .i64 f.epoch,.slice fa f.op.length fc,.string f.text]] w fun e w'=>e=.returned (.tuple #[])∧WkS base g (t.send s f) vs w w':=by
 have HM:=Lib.hid h;have Hg:=Lib.hid hg;have hsd:=t.side_get s hs;obtain⟨sr,so,sc,sxs,hv0,hsr1,hsr2,hsr3,hsr4,hsr5,hsr6,hsr7,hsr8⟩:=h.side s hs;obtain⟨ea,ec,la,lc,qa,qc,rfl,he1,he2,he3,hpe,hef,hlf⟩:=hsr6;rw[←hsd]at hsr7 he1 he2 he3 hpe hef hlf;have HS:=Lib.hid (fun W (hW:Good W) h1 h2 h3=>lkSend_any (t.side s).l f la qa fa (t.side s).l.sent.length lc (t.side s).l.queue.length qc f.op.length fc W hW h1 h2 h3 hlf hf hq);unfold LkPksP at HS;obtain⟨hlf',hp⟩:=sendL_fits (t.side s).l f;obtain⟨l',hl'⟩:∃l',l'=(t.side s).l.sendL f:=⟨_,rfl⟩;obtain⟨ps,hps⟩:∃ps,ps=(t.side s).l.sendP f:=⟨_,rfl⟩;obtain⟨E,hE⟩:∃E,E=(t.side s).l.sendE f:=⟨_,rfl⟩;have hTn:Hid (t.send s f=if E=0 then(t.setSide s {t.side s with l:=l'}).post s ps else t):=by unfold Hid Tn.send;rw[hl',hps,hE]
 rw[←hl',←hps,←hE]at HS;rw[←hps]at hp;rw[←hl']at hlf';have HNP:=Lib.hid (fun W=>node_ptr g W);have HV0:=Lib.hid hv0;have Hmine:=Lib.hid h.mine;have Hlf:=Lib.hid hlf';have Hp:=Lib.hid hp;have Hn:=Lib.hid hn;have HR:=Lib.hid hr;have hsI:(s:Int)<(sc:Int):=by omega
 have hsI2:(s:Int)<(t.node.sides.length:Int):=by omega
 have hsc:(sc:Int)≤9223372036854775807:=by unfold maxLen at hsr5;omega
 have hLc:∀W:World,W.heap[sr]?=w.heap[sr]?→W.cell? ⟨sr,so+s*10+5,none⟩=some (.int .i64 (t.side s).l.epoch)∧W.cell? ⟨sr,so+s*10+6,none⟩=some (.int .i64 (t.side s).l.next)∧W.cell? ⟨sr,so+s*10+7,none⟩=some (.slice la (t.side s).l.sent.length lc)∧W.cell? ⟨sr,so+s*10+8,none⟩=some (.slice qa (t.side s).l.queue.length qc)∧W.cell? ⟨sr,so+s*10+9,none⟩=some (.int .i64 (t.side s).l.heard):=fun W hW=>⟨(cell_keep hW).trans (hsr7 5 _ rfl),(cell_keep hW).trans (hsr7 6 _ rfl),(cell_keep hW).trans (hsr7 7 _ rfl),(cell_keep hW).trans (hsr7 8 _ rfl),(cell_keep hW).trans (hsr7 9 _ rfl)⟩;have HLc:=Lib.hid hLc;have HFr:=Lib.hid (fun j (hj:j<sc*10)=>hsr8 j hj);have RS:=Lib.hid (he2.mono fun z hz=>⟨hz.1,rfl⟩:RdS (· <w.heap.size) w (t.side s).l.sent la (t.side s).l.sent.length lc);have RQ:=Lib.hid (he3.mono fun z hz=>⟨hz.1,rfl⟩:RdS (· <w.heap.size) w (t.side s).l.queue qa (t.side s).l.queue.length qc);have RF:=Lib.hid (hr.mono fun z hz=>⟨hz.1,rfl⟩:RdS (· <w.heap.size) w f.op fa f.op.length fc);generalize hlk:(t.side s).l=lk at*;clear hlk hl' hps hE hlf' hp hr hn he1 he2 he3 hLc hsr7 hsr8 hlf hef hpe hsd hf hq hv0;generalize hNS:t.node.sides.length=NS at*;have HNS:=Lib.hid hNS;have bx:=h.box;obtain⟨-,-,-,-,-,p5,-⟩:=blk10_cells bx;rw[HV0.out]at p5;clear h hg bx hNS;go_enter Tryd.func51,Tryd.ntmps51;go_wp2_with fail;refine abs_run (fun W=>Below w.heap.size w W∧Blk w.heap.size (.cells #[.int .i64 f.kind,.int .i64 f.heard,.int .i64 f.epoch,.slice fa f.op.length fc,.string f.text] 44 (0,0)) W) ⟨(Below.refl _ _).alloc (Nat.le_refl _) _,Blk.new w _⟩ ?_;rintro w1 ⟨u1,x1⟩;have B1:=Lib.hid u1;have XF:=Lib.hid x1;have hz1:=x1.lt;have hz01:=u1.size;have p5':=(u1.cell (p:=⟨g,5,none⟩) (HM.out.lt)).trans p5;clear u1 x1 p5;refine(HNP.out w1).mono ?_;rintro e W' ⟨rfl,rfl⟩;go_wp2_with fail;clear p5';obtain⟨Vp,HV⟩:∃Vp:Nat→Value→World→Prop,Hid (Vp=fun i v W=>match i with
  |0=>v=.pointer (some ⟨sr,so+s*10,none⟩)
  |1=>v=.pointer (some ⟨sr,so+s*10,none⟩)
  |2=>v=.pointer (some ⟨sr,so+s*10+5,none⟩)
  |3=>v=.agg #[.int .i64 lk.epoch,.int .i64 lk.next,.slice la lk.sent.length lc,.slice qa lk.queue.length qc,.int .i64 lk.heard]
  |4=>v=.agg #[.int .i64 f.kind,.int .i64 f.heard,.int .i64 f.epoch,.slice fa f.op.length fc,.string f.text]
  |5=>∃y z,v=.tuple #[y,z,.int .i64 E]∧LkVal w1.heap.size l' y W∧PsVal w1.heap.size ps z W
  |6=>∃y z,v=.tuple #[y,z,.int .i64 E]∧LkVal w1.heap.size l' y W∧PsVal w1.heap.size ps z W
  |7=>∃y,v=y∧LkVal w1.heap.size l' y W
  |8=>∃y,v=y∧PsVal w1.heap.size ps y W
  |9=>v=.int .i64 E
  |10=>∃gL,v=.pointer (some ⟨gL,0,none⟩)∧w1.heap.size≤gL∧Blk gL (.cells #[.int .i64 0,.int .i64 0,.slice none 0 0,.slice none 0 0,.int .i64 0] 70 (0,0)) W
  |11=>v=undef
  |12=>∃y,v=y∧PsVal w1.heap.size ps y W
  |_=>v=.int .i64 E):=⟨_,rfl⟩
 obtain⟨Ip,HIp⟩:∃Ip:(Nat→Bool)→(Nat→Value)→World→Prop,Hid (Ip=fun L x W=>(Below w1.heap.size w1 W∧(L 11=true→∃gL,x 10=.pointer (some ⟨gL,0,none⟩)∧w1.heap.size≤gL∧LkBox w1.heap.size gL l' W))):=⟨_,rfl⟩;refine region_lit3 (by kernel_rfl) (by kernel_rfl) (by kernel_rfl) [[],[0],[0,1],[0,1,2],[],[0,1,2,3,4],[0,1,2,3,4,5],[0,1,2,3,4,5,6],[0,1,2,3,4,5,6],[0,1,2,3,4,5,6],[],[0,1,2,3,4,5,6,7,10],[0,1,2,3,4,5,6,8],[0,1,2,3,4,5,6,9]] (by kernel_rfl) [some 18,some 19,some 20,some 21,some 22,some 23,some 17,some 24,some 25,some 26,some 7,none,some 8,some 9] (by kernel_rfl) [[0,1,2,3,5,6,7,8,9,11,12,13],[1,2,3,5,6,7,8,9,11,12,13],[2,3,5,6,7,8,9,11,12,13],[3,5,6,7,8,9,11,12,13],[4,5,6,7,8,9,11,12,13],[5,6,7,8,9,11,12,13],[6,7,8,9,11,12,13],[7,11],[8,12],[9,13],[10,11],[11],[12],[13]] (by kernel_rfl) [[],[],[],[],[],[],[],[11],[],[],[11],[],[],[]] [[],[0],[1],[2],[],[3,4],[5],[6],[6],[6],[],[7,10],[8],[9]] (by kernel_rfl)
  Ip
  Vp
  (fun j W W'=>match j with
   |11=>∃gL,Blk gL (.cells #[.int .i64 0,.int .i64 0,.slice none 0 0,.slice none 0 0,.int .i64 0] 70 (0,0)) W∧Touch (fun z=>z=gL) W W'∧w1.heap.size≤gL
   |_=>Below W.heap.size W W')
  [fun x=>⟨(fZm 6 (.pointer (some ⟨sr,so+s*10,none⟩)) (fEm 12)).toArray,[]⟩,fun x=>⟨(fZm 18 (x 0) (fEm 1)).toArray,[]⟩,fun x=>⟨(fZm 19 (x 1) (fEm 1)).toArray,[]⟩,fun x=>⟨(fZm 20 (x 2) (fEm 1)).toArray,[]⟩,fun x=>⟨(fZm 5 (.pointer (some ⟨w.heap.size,0,none⟩)) (fEm 17)).toArray,[]⟩,fun x=>⟨(fZm 21 (x 3) (fZm 0 (x 4) (fEm 1))).toArray,[]⟩,fun x=>⟨(fZm 23 (x 5) []).toArray,[]⟩,fun x=>⟨(fZm 17 (x 6) (fEm 7)).toArray,[]⟩,fun x=>⟨(fZm 17 (x 6) (fEm 8)).toArray,[]⟩,fun x=>⟨(fZm 17 (x 6) (fEm 9)).toArray,[]⟩,fun x=>⟨(fEm 8).toArray,[]⟩,fun x=>⟨(fZm 7 (x 10) (fZm 16 (x 7) [])).toArray,[]⟩,fun x=>⟨(fZm 25 (x 8) []).toArray,[]⟩,fun x=>⟨(fZm 26 (x 9) []).toArray,[]⟩]
  ?hF ?mono ?h0 ?step [0,1,2,3,4,5,6,8,9,11,12,13] (by kernel_rfl) ?fin
 case hF=>
  iterate 14 refine⟨fun x=>⟨by kernel_rfl,by kernel_rfl⟩,?_⟩
  trivial
 case mono=>
  intro i j hi hj hne hna hnk v W W' hE hv;rw[HV.out]at hv⊢;simp only[List.length_cons,List.length_nil]at hi hj
  match i,hi with
  |0,_|1,_|2,_|3,_|4,_|9,_|11,_|13,_=>exact hv
  |5,_=>
   match j,hj with
   |5,_=>exact absurd rfl hne
   |0,_|1,_|2,_|3,_|4,_=>exact absurd (by simp) hna
   |6,_|7,_|8,_|9,_|10,_|12,_|13,_=>exact(by obtain⟨y,z,e,h,k⟩:=hv;exact⟨y,z,e,h.go hE,k.go hE⟩)
   |11,_=>exact(by obtain⟨y,z,e,h,k⟩:=hv;obtain⟨q,hz,ht,-⟩:=hE;exact⟨y,z,e,h.off hz ht,k.off hz ht⟩)
   |m+14,h=>exact absurd h (by omega)
  |6,_=>
   match j,hj with
   |6,_=>exact absurd rfl hne
   |0,_|1,_|2,_|3,_|4,_|5,_=>exact absurd (by simp) hna
   |7,_|8,_|9,_|10,_|12,_|13,_=>exact(by obtain⟨y,z,e,h,k⟩:=hv;exact⟨y,z,e,h.go hE,k.go hE⟩)
   |11,_=>exact(by obtain⟨y,z,e,h,k⟩:=hv;obtain⟨q,hz,ht,-⟩:=hE;exact⟨y,z,e,h.off hz ht,k.off hz ht⟩)
   |m+14,h=>exact absurd h (by omega)
  |7,_=>
   match j,hj with
   |7,_=>exact absurd rfl hne
   |0,_|1,_|2,_|3,_|4,_|5,_|6,_=>exact absurd (by simp) hna
   |11,_=>exact absurd (by simp) hnk
   |8,_|9,_|10,_|12,_|13,_=>exact(by obtain⟨y,e,h⟩:=hv;exact⟨y,e,h.go hE⟩)
   |m+14,h=>exact absurd h (by omega)
  |8,_=>
   match j,hj with
   |8,_=>exact absurd rfl hne
   |0,_|1,_|2,_|3,_|4,_|5,_|6,_=>exact absurd (by simp) hna
   |7,_|9,_|10,_|12,_|13,_=>exact(by obtain⟨y,e,h⟩:=hv;exact⟨y,e,h.go hE⟩)
   |11,_=>exact(by obtain⟨y,e,h⟩:=hv;obtain⟨q,hz,ht,-⟩:=hE;exact⟨y,e,h.off hz ht⟩)
   |m+14,h=>exact absurd h (by omega)
  |10,_=>
   match j,hj with
   |10,_=>exact absurd rfl hne
   |11,_=>exact absurd (by simp) hnk
   |0,_|1,_|2,_|3,_|4,_|5,_|6,_|7,_|8,_|9,_|12,_|13,_=>exact(by obtain⟨q,h1,h2,h3⟩:=hv;exact⟨q,h1,h2,h3.go hE⟩)
   |m+14,h=>exact absurd h (by omega)
  |12,_=>
   match j,hj with
   |12,_=>exact absurd rfl hne
   |0,_|1,_|2,_|3,_|4,_|5,_|6,_|8,_=>exact absurd (by simp) hna
   |7,_|9,_|10,_|13,_=>exact(by obtain⟨y,e,h⟩:=hv;exact⟨y,e,h.go hE⟩)
   |11,_=>exact(by obtain⟨y,e,h⟩:=hv;obtain⟨q,hz,ht,-⟩:=hE;exact⟨y,e,h.off hz ht⟩)
   |m+14,h=>exact absurd h (by omega)
  |m+14,h=>exact absurd h (by omega)
 case h0=>intro x;exact toI HIp ⟨(Below.refl _ _).drew,(fun h=>by cases h)⟩
 case step=>
  refine⟨?_,?_,?_,?_,?_,?_,?_,?_,?_,?_,?_,?_,?_,?_,trivial⟩
  all_goals
   intro x W L hI hL hV;replace hI:(Below w1.heap.size w1 W∧(L 11=true→∃gL,x 10=.pointer (some ⟨gL,0,none⟩)∧w1.heap.size≤gL∧LkBox w1.heap.size gL l' W)):=ofI HIp hI;rw[HV.out]at hV;simp only[AllV,and_true]at hV;dsimp only[fZm,fEm,List.reduceReplicate,List.cons_append,List.nil_append]
  ·clear hV;have HI:=Lib.hid hI;clear hI;go_wp2_with fail;refine step3_done rfl ?_ ?_ ?_
   ·exact(toI HIp HI.out)
   ·exact(Below.refl _ _)
   ·exact(toV HV rfl)
  ·have u0:=hV;clear hV;simp only[u0];clear u0;have HI:=Lib.hid hI;clear hI;go_wp2_with fail;refine step3_done rfl ?_ ?_ ?_
   ·exact(toI HIp HI.out)
   ·exact(Below.refl _ _)
   ·exact(toV HV rfl)
  ·have u1:=hV;clear hV;simp only[u1];clear u1;have HI:=Lib.hid hI;clear hI;go_wp2_with fail;refine step3_done rfl ?_ ?_ ?_
   ·exact(toI HIp HI.out)
   ·exact(Below.refl _ _)
   ·exact(toV HV rfl)
  ·have u2:=hV;clear hV;simp only[u2];clear u2;obtain⟨p5,p6,p7,p8,p9⟩:=HLc.out W ((hI.1.block sr (by omega)).trans (B1.out.block sr hsr2));have HI:=Lib.hid hI;clear hI;go_wp2_with fail;refine step3_done rfl ?_ ?_ ?_
   ·exact(toI HIp HI.out)
   ·exact(Below.refl _ _)
   ·exact(toV HV rfl)
  ·clear hV;obtain⟨q0,q1,q2,q3,q4⟩:=blk_cells5 (XF.out.go hI.1);have HI:=Lib.hid hI;clear hI;go_wp2_with fail;refine step3_done rfl ?_ ?_ ?_
   ·exact(toI HIp HI.out)
   ·exact(Below.refl _ _)
   ·exact(toV HV rfl)
  ·obtain⟨u3,u4⟩:=hV;simp only[u3,u4];clear u3 u4;have HL:=Lib.hid hL;have HI:=Lib.hid hI;have hzW:=hI.1.size;have hu:=Lib.hid (up B1.out hI.1);clear hI hL;go_wp2_with fail;refine(HS.out _ (Hg.out.go hu.out) (RS.out.go hu.out) (RQ.out.go hu.out) (RF.out.go hu.out)).mono ?_;rintro e W' ⟨xa,xc,ya,yc,pa,pc,rfl,t1,t2,t3,hb⟩;go_wp2_with fail;refine step3_done rfl ?_ ?_ ?_
   ·exact(toI HIp ⟨up HI.out.1 hb,fun h=>absurd ((HL.out.2 11 (by simp)).symm.trans h) (by simp)⟩)
   ·exact hb
   ·exact(toV HV ⟨_,_,rfl,LkVal.deep ⟨xa,xc,ya,yc,rfl,t1,t2⟩ hzW,PsVal.deep ⟨pa,pc,rfl,t3⟩ hzW⟩)
  ·obtain⟨y5,z5,u5,h5,k5⟩:=hV;simp only[u5];have U5:=Lib.hid u5;clear u5;have HI:=Lib.hid hI;clear hI;go_wp2_with fail;refine step3_done rfl ?_ ?_ ?_
   ·exact(toI HIp HI.out)
   ·exact(Below.refl _ _)
   ·exact(toV HV ⟨_,_,rfl,h5,k5⟩)
  ·obtain⟨y6,z6,u6,h6,k6⟩:=hV;simp only[u6];have U6:=Lib.hid u6;clear u6;have HI:=Lib.hid hI;clear hI;go_wp2_with fail;refine step3_done rfl ?_ ?_ ?_
   ·exact(toI HIp HI.out)
   ·exact(Below.refl _ _)
   ·exact(toV HV ⟨_,rfl,h6⟩)
  ·obtain⟨y6,z6,u6,h6,k6⟩:=hV;simp only[u6];have U6:=Lib.hid u6;clear u6;have HI:=Lib.hid hI;clear hI;go_wp2_with fail;refine step3_done rfl ?_ ?_ ?_
   ·exact(toI HIp HI.out)
   ·exact(Below.refl _ _)
   ·exact(toV HV ⟨_,rfl,k6⟩)
  ·obtain⟨y6,z6,u6,h6,k6⟩:=hV;simp only[u6];have U6:=Lib.hid u6;clear u6;have HI:=Lib.hid hI;clear hI;go_wp2_with fail;refine step3_done rfl ?_ ?_ ?_
   ·exact(toI HIp HI.out)
   ·exact(Below.refl _ _)
   ·exact(toV HV rfl)
  ·clear hV;have HL:=Lib.hid hL;have HI:=Lib.hid hI;have hzW:=hI.1.size;clear hI hL;go_wp2_with fail;have uW:∀o,Below W.heap.size W (W.alloc o):=fun o=>(Below.refl _ _).alloc (Nat.le_refl _) o;refine step3_done rfl ?_ ?_ ?_
   ·exact(toI HIp ⟨up HI.out.1 (uW _),fun h=>absurd ((HL.out.2 11 (by simp)).symm.trans h) (by simp)⟩)
   ·exact(uW _)
   ·exact(toV HV ⟨_,rfl,hzW,Blk.new _ _⟩)
  ·obtain⟨⟨y7,u7,h7⟩,⟨g10,u10,l10,b10⟩⟩:=hV;simp only[u10,u7];have U7:=Lib.hid u7;have U10:=Lib.hid u10;clear u7 u10;have hoff:=fun W' (ht:Touch (fun z=>z=g10) W W')=>h7.off b10 ht;obtain⟨sb,sd,qb,qd,rfl,-,-⟩:=h7;obtain⟨q0,q1,q2,q3,q4⟩:=blk_cells5 b10;have fW:=b10.frozen;have hg9:=b10.lt;have B7:=Lib.hid (blk_set5 b10 (.int .i64 l'.epoch) (.int .i64 l'.next) (.slice sb l'.sent.length sd) (.slice qb l'.queue.length qd) (.int .i64 l'.heard));have HT:=Lib.hid (touch5 W g10 (.int .i64 l'.epoch) (.int .i64 l'.next) (.slice sb l'.sent.length sd) (.slice qb l'.queue.length qd) (.int .i64 l'.heard));have HLV:=Lib.hid (hoff _ HT.out);have HI:=Lib.hid hI;have HB9:=Lib.hid b10;clear hI b10 hoff;go_wp2_with fail;refine step3_done (v:=undef) rfl (toI HIp ⟨HI.out.1.trans (HT.out.toBelow HI.out.1.size (fun k hk=>by omega)),fun _=>⟨g10,U10.out,l10,?_⟩⟩) ⟨g10,HB9.out,HT.out,l10⟩ (toV HV rfl);obtain⟨sb',sd',qb',qd',e',t1,t2⟩:=HLV.out;simp only[Value.agg.injEq,Array.mk.injEq,List.cons.injEq,Value.slice.injEq,true_and,and_true]at e';obtain⟨⟨rfl,rfl⟩,rfl,rfl⟩:=e';exact⟨sb,sd,qb,qd,B7.out,t1,t2⟩
  ·obtain⟨y8,u8,h8⟩:=hV;simp only[u8];have U8:=Lib.hid u8;clear u8;have HI:=Lib.hid hI;clear hI;go_wp2_with fail;refine step3_done rfl ?_ ?_ ?_
   ·exact(toI HIp HI.out)
   ·exact(Below.refl _ _)
   ·exact(toV HV ⟨_,rfl,h8⟩)
  ·have u9:=hV;clear hV;simp only[u9];clear u9;have HI:=Lib.hid hI;clear hI;go_wp2_with fail;refine step3_done rfl ?_ ?_ ?_
   ·exact(toI HIp HI.out)
   ·exact(Below.refl _ _)
   ·exact(toV HV rfl)
 case fin=>
  intro x W L hL hI hV;replace hI:(Below w1.heap.size w1 W∧(L 11=true→∃gL,x 10=.pointer (some ⟨gL,0,none⟩)∧w1.heap.size≤gL∧LkBox w1.heap.size gL l' W)):=ofI HIp hI;rw[HV.out]at hV;simp only[AllV,and_true]at hV;obtain⟨u0,u1,u2,u3,u4,⟨y5,z5,u5,h5,k5⟩,⟨y6,z6,u6,h6,k6⟩,⟨y8,u8,h8⟩,u9,u11,⟨y12,u12,h12⟩,u13⟩:=hV;simp only[getsD,List.getD_cons_succ,List.getD_cons_zero,List.length_cons,List.length_nil,List.range,List.range.loop,u0,u1,u2,u3,u4,u5,u6,u8,u9,u11,u12,u13,Act.put,List.setIfInBounds_toArray,List.set_cons_succ,List.set_cons_zero];clear u0 u1 u2 u3 u4 u5 u6 u8 u9 u11 u12 u13;obtain⟨gL,hxL,hlL,bL⟩:=hI.2 (hL 11 (by simp));have hb:=hI.1;simp only[hxL];obtain⟨sb,sd,qb,qd,bL2,rl1,rl2⟩:=bL;have hrw:W.heap[sr]?=w.heap[sr]?:=(hb.block sr (by omega)).trans (B1.out.block sr hsr2);have B2:=Lib.hid (up B1.out hb);have M2:=Lib.hid (HM.out.go B2.out);obtain⟨pa,pc,rfl,rp⟩:=h12;have RP:=Lib.hid rp;have XL:=Lib.hid bL2;have RL:=Lib.hid (And.intro rl1 rl2);have hz2:=hb.size;obtain⟨w2,rfl⟩:∃x:World,x=W:=⟨_,rfl⟩;clear hI hL hb bL2 rl1 rl2 rp HS RS RQ B1 XF;by_cases hE0:E=0
  ·subst hE0;obtain⟨p5,p6,p7,p8,p9⟩:=HLc.out w2 hrw;have hfr:∀j,j<sc*10→w2.frozen? ⟨sr,so+j,none⟩=false:=fun j hj=>(World.frozen?_of_block (a:=⟨sr,so+j,none⟩) hrw).trans (HFr.out j hj);have f5:w2.frozen? ⟨sr,so+s*10+5,none⟩=false:=hfr (s*10+5) (by omega);have f6:w2.frozen? ⟨sr,so+s*10+6,none⟩=false:=hfr (s*10+6) (by omega);have f7:w2.frozen? ⟨sr,so+s*10+7,none⟩=false:=hfr (s*10+7) (by omega);have f8:w2.frozen? ⟨sr,so+s*10+8,none⟩=false:=hfr (s*10+8) (by omega);have f9:w2.frozen? ⟨sr,so+s*10+9,none⟩=false:=hfr (s*10+9) (by omega);obtain⟨q0,q1,q2,q3,q4⟩:=blk_cells5 XL.out;have hfresh:∀z,Fresh w1.heap.size w2 z→z<w2.heap.size∧¬WX base g vs z∧z≠sr:=fun z hz=>⟨hz.2,(fun h=>by
    rcases h with h|h
    ·have:=HM.out.gb;have:=HM.out.lt;have:=hz.1;omega
    ·have:=(Hmine.out z h).2;have:=hz.1;omega),fun e=>by have:=hz.1;omega⟩
   obtain⟨hu1,hu2⟩:=M2.out.updLink s (by rw[HNS.out];exact hs) (by rw[HNS.out];exact HV0.out) l' Hlf.out sb sd qb qd (RL.out.1.mono fun z hz=>⟨hfresh z hz,rfl⟩) (RL.out.2.mono fun z hz=>⟨hfresh z hz,rfl⟩);obtain⟨W3,hW3⟩:∃W3,W3=((((w2.setCell ⟨sr,so+s*10+5,none⟩ (.int .i64 l'.epoch)).setCell ⟨sr,so+s*10+5+1,none⟩ (.int .i64 l'.next)).setCell ⟨sr,so+s*10+5+2,none⟩ (.slice sb l'.sent.length sd)).setCell ⟨sr,so+s*10+5+3,none⟩ (.slice qb l'.queue.length qd)).setCell ⟨sr,so+s*10+5+4,none⟩ (.int .i64 l'.heard):=⟨_,rfl⟩;have M3:Hid (WkM base g (t.setSide s {t.side s with l:=l'}) vs W3):=by rw[hW3];exact hu1
   have T3:Hid (Touch (Mine g vs) w2 W3):=by rw[hW3];exact hu2
   have T03:Hid (Touch (Mine g vs) w W3):=(Touch.of_below B2.out).trans T3.out;have hT2:t.send s f=(t.setSide s {t.side s with l:=l'}).post s ps:=by rw[hTn.out,if_pos rfl]
   have HT2:=Lib.hid hT2;have HW3:=Lib.hid hW3;have RP3:Hid (RdS (NB base g vs W3) W3 ps pa ps.length pc):=(RP.out.mono fun z hz=>⟨⟨by have:=HM.out.gb;have:=HM.out.lt;have:=hz.1;omega,Nat.lt_of_lt_of_le hz.2 T3.out.size,fun h=>by have:=(Hmine.out z h).2;have:=hz.1;omega⟩,T3.out.block z hz.2 (fun h=>by have:=(Hmine.out z h).2;have:=hz.1;omega)⟩:RdS (NB base g vs W3) W3 ps pa ps.length pc);clear hfr hrw hu1 hu2 hW3 hT2 hfresh RP RL M2 B2 XL;go_wp2_with fail;rw[←HW3.out];refine(post_any base g _ vs s ps pa pc W3 M3.out (by rw[len_setSide,HNS.out];exact hs) RP3.out Hn.out (by have:=Hp.out;omega)).mono ?_;rintro e w4 ⟨rfl,m4⟩;have HW:Hid (WkS base g (t.send s f) vs w w4):=by rw[HT2.out];exact WkS.trans T03.out (fun z h=>.inl h) m4
   clear m4 HT2;go_wp2_with fail;go_end0;exact⟨rfl,HW.out⟩
  ·have hEb:(E==0)=false:=by simpa using hE0
   have hT2:t.send s f=t:=by rw[hTn.out,if_neg hE0]
   have HW:Hid (WkS base g (t.send s f) vs w w2):=by rw[hT2];exact HM.out.stayB B2.out
   clear hT2 hrw;go_wp2_with fail;go_end0;exact⟨rfl,HW.out⟩
end Go.Proofs.YtkbfhgcjimfgkaaDoor
set_option linter.unusedSimpArgs false
namespace Go.Proofs.YtkbfhgcjimfgkaaDoor
open Go.RowKit
def Tn.joinFr (t:Tn):Fr:=⟨2,t.node.up,t.node.epoch,[],noText⟩
def Tn.relink (t:Tn):Tn:=t.setSide 0 {t.side 0 with l:=openLk t.node.epoch}
def Tn.join (t:Tn):Tn:=t.relink.send 0 t.joinFr
theorem openLk_fits (ep:Int):(openLk ep).fits:=by
 unfold openLk;split
 ·exact⟨by unfold I64;decide,by unfold I64;decide,by unfold I64;decide⟩
 ·exact⟨by unfold I64;simp only;omega,by unfold I64;simp,by unfold I64;simp⟩
theorem openLk_nil (ep:Int):(openLk ep).sent=[]∧(openLk ep).queue=[]∧(openLk ep).heard=0:=by
 unfold openLk;split<;>exact⟨rfl,rfl,rfl⟩
theorem side_setSide {t:Tn}{s:Nat}{y:Sd}(hs:s<t.node.sides.length):(t.setSide s y).side s=y:=by
 unfold Tn.side Tn.setSide;simp only[List.getD_eq_getElem?_getD];rw[List.getElem?_set_self hs];rfl
set_option maxRecDepth 100000 in
set_option maxHeartbeats 8000000 in
theorem ndJoin_any (base g:Nat)(t:Tn)(vs:Nat→Value)(w:World)(hg:Good w)(h:WkM base g t vs w)(hs:0<t.node.sides.length)(hn:t.posts.length≤1000000):
 Calls Tryd.prog 28 #[.pointer (some ⟨g,0,none⟩)] w fun e w'=>e=.returned (.tuple #[])∧WkS base g t.join vs w w':=by
 have HM:=Lib.hid h;have Hg:=Lib.hid hg;obtain⟨sr,so,sc,sxs,hv0,hsr1,hsr2,hsr3,hsr4,hsr5,hsr6,hsr7,hsr8⟩:=h.side 0 hs;have hft:=h.fit;have HO:=Lib.hid (fun W=>open_any t.node.epoch W hft.2.1);obtain⟨on1,on2,on3⟩:=openLk_nil t.node.epoch;have hof:=openLk_fits t.node.epoch;have HNP:=Lib.hid (fun W=>node_ptr g W);have HV0:=Lib.hid hv0;have Hmine:=Lib.hid h.mine;have hsI2:(0:Int)<(t.node.sides.length:Int):=by omega
 have hsI:(0:Int)<(sc:Int):=by omega
 have hsc:(sc:Int)≤9223372036854775807:=by unfold maxLen at hsr5;omega
 have hRel:t.relink=t.setSide 0 {t.side 0 with l:=openLk t.node.epoch}:=rfl;have HSd:=Lib.hid (fun(W:World)(vs':Nat→Value)(hW:Good W)(hM:WkM base g t.relink vs' W)=>ndSend_any base g t.relink vs' 0 t.joinFr none 0 W hW hM (by rw[hRel,len_setSide];exact hs) (RdS.nil _ _) ⟨by show I64 2;unfold I64;decide,hft.2.2.1,hft.2.1,by show noText.size≤strMax;rw[noText_size];unfold strMax;omega⟩ hn (by rw[hRel,side_setSide hs];simp only;rw[on2];simp));generalize hlk:openLk t.node.epoch=lk at*;have Hof:=Lib.hid hof;have Hon:=Lib.hid (And.intro on1 (And.intro on2 on3));have HRel:=Lib.hid hRel;have hxs:∀j v,sxs[j]?=some v→w.cell? ⟨sr,so+j,none⟩=some v:=fun j v hj=>by have:=hsr7 j v hj;simpa using this
 have hlen:=Rep.len hsr6;have Hcl:Hid (∀j,j<10→(w.cell? ⟨sr,so+j,none⟩).isSome=true):=fun j hj=>by
  have h10:j<sxs.length:=by rw[hlen];exact hj
  rw[hxs j sxs[j] (List.getElem?_eq_getElem h10)];rfl
 have HFr:=Lib.hid (fun j (hj:j<sc*10)=>hsr8 j hj);have bx:=h.box;obtain⟨-,p1,p2,-,-,p5,-⟩:=blk10_cells bx;rw[HV0.out]at p5;have Hepo:=Lib.hid hft;clear hsr6 hsr7 hsr8 hxs hlen hof on1 on2 on3 hRel hft hv0 h hg hn bx hlk;generalize hNS:t.node.sides.length=NS at*;have HNS:=Lib.hid hNS;clear hNS;go_enter Tryd.func28,Tryd.ntmps28;go_wp2_with fail;refine(HNP.out w).mono ?_;rintro e W' ⟨rfl,rfl⟩;go_wp2_with fail;refine(HO.out w).mono ?_;rintro e w1 ⟨rfl,b1⟩;have B1:=Lib.hid b1;clear b1;go_wp2_with fail;refine abs_w (fun W=>Below w1.heap.size w1 W∧Blk w1.heap.size (.cells #[.int .i64 lk.epoch,.int .i64 lk.next,.slice none 0 0,.slice none 0 0,.int .i64 0] 70 (0,0)) W) ⟨(Below.refl _ _).alloc (Nat.le_refl _) _,Blk.new w1 _⟩ ?_;rintro w2 ⟨b2,x2⟩;have B2:=Lib.hid (up B1.out b2);have X2:=Lib.hid x2;have M2:=Lib.hid (HM.out.go B2.out);have hz1:=B1.out.size;have hz2:=B2.out.size;clear b2 x2 p1 p2 p5;obtain⟨Vp,HV⟩:∃Vp:Nat→Value→World→Prop,Hid (Vp=fun i v W=>match i with
  |0=>v=.pointer (some ⟨g,0,none⟩)
  |1=>v=.pointer (some ⟨g,0,none⟩)
  |2=>v=.pointer (some ⟨g,5,none⟩)
  |3=>v=.slice (some ⟨sr,so,none⟩) NS sc
  |4=>v=.agg #[.int .i64 lk.epoch,.int .i64 lk.next,.slice none 0 0,.slice none 0 0,.int .i64 0]
  |5=>v=.pointer (some ⟨sr,so,none⟩)
  |6=>v=.pointer (some ⟨sr,so+5,none⟩)
  |_=>v=undef):=⟨_,rfl⟩
 obtain⟨Ip,HIp⟩:∃Ip:(Nat→Bool)→(Nat→Value)→World→Prop,Hid (Ip=fun L x W=>(Touch (Mine g vs) w2 W∧(L 7=false→WkM base g t vs W∧W.heap[sr]?=w2.heap[sr]?)∧(L 7=true→WkM base g t.relink vs W))):=⟨_,rfl⟩;refine region_lit3 (by kernel_rfl) (by kernel_rfl) (by kernel_rfl) [[],[0],[0,1],[0,1,2],[],[0,1,2,3],[0,1,2,3,5],[0,1,2,3,4,5,6]] (by kernel_rfl) [some 15,some 16,some 17,some 18,some 19,some 20,some 21,none] (by kernel_rfl) [[0,1,2,3,5,6,7],[1,2,3,5,6,7],[2,3,5,6,7],[3,5,6,7],[4,7],[5,6,7],[6,7],[7]] (by kernel_rfl) [[],[],[],[],[],[],[],[]] [[],[0],[1],[2],[],[3],[5],[4,6]] (by kernel_rfl)
  Ip
  Vp
  (fun j W W'=>match j with
   |7=>Touch (Mine g vs) W W'
   |_=>Below W.heap.size W W')
  [fun x=>⟨(fZm 2 (.pointer (some ⟨g,0,none⟩)) (fEm 13)).toArray,[]⟩,fun x=>⟨(fZm 15 (x 0) (fEm 1)).toArray,[]⟩,fun x=>⟨(fZm 16 (x 1) (fEm 1)).toArray,[]⟩,fun x=>⟨(fZm 17 (x 2) (fEm 1)).toArray,[]⟩,fun x=>⟨(fZm 3 (.pointer (some ⟨w1.heap.size,0,none⟩)) (fEm 16)).toArray,[]⟩,fun x=>⟨(fZm 18 (x 3) (fEm 2)).toArray,[]⟩,fun x=>⟨(fZm 20 (x 5) (fEm 1)).toArray,[]⟩,fun x=>⟨(fZm 19 (x 4) (fZm 1 (x 6) [])).toArray,[]⟩]
  ?hF ?mono ?h0 ?step [0,1,2,3,4,5,6,7] (by kernel_rfl) ?fin
 case hF=>
  iterate 8 refine⟨fun x=>⟨by kernel_rfl,by kernel_rfl⟩,?_⟩
  trivial
 case mono=>
  intro i j hi hj hne hna hnk v W W' hE hv;rw[HV.out]at hv⊢;simp only[List.length_cons,List.length_nil]at hi hj
  match i,hi with
  |0,_|1,_|2,_|3,_|4,_|5,_|6,_|7,_=>exact hv
  |m+8,h=>exact absurd h (by omega)
 case h0=>intro x;exact toI HIp ⟨(Touch.refl _ _).drew,(fun _=>⟨M2.out.go (Below.refl _ _).drew,rfl⟩),(fun h=>by cases h)⟩
 case step=>
  refine⟨?_,?_,?_,?_,?_,?_,?_,?_,trivial⟩
  all_goals
   intro x W L hI hL hV;replace hI:(Touch (Mine g vs) w2 W∧(L 7=false→WkM base g t vs W∧W.heap[sr]?=w2.heap[sr]?)∧(L 7=true→WkM base g t.relink vs W)):=ofI HIp hI;rw[HV.out]at hV;simp only[AllV,and_true]at hV;dsimp only[fZm,fEm,List.reduceReplicate,List.cons_append,List.nil_append]
  ·clear hV;have HI:=Lib.hid hI;clear hI;go_wp2_with fail;refine step3_done rfl ?_ ?_ ?_
   ·exact(toI HIp HI.out)
   ·exact(Below.refl _ _)
   ·exact(toV HV rfl)
  ·have u0:=hV;clear hV;simp only[u0];clear u0;have HI:=Lib.hid hI;clear hI;go_wp2_with fail;refine step3_done rfl ?_ ?_ ?_
   ·exact(toI HIp HI.out)
   ·exact(Below.refl _ _)
   ·exact(toV HV rfl)
  ·have u1:=hV;clear hV;simp only[u1];clear u1;have HI:=Lib.hid hI;clear hI;go_wp2_with fail;refine step3_done rfl ?_ ?_ ?_
   ·exact(toI HIp HI.out)
   ·exact(Below.refl _ _)
   ·exact(toV HV rfl)
  ·have u2:=hV;clear hV;simp only[u2];clear u2;obtain⟨-,-,-,-,-,p5,-⟩:=blk10_cells (hI.2.1 (hL.2 7 (by simp))).1.box;rw[HV0.out]at p5;have HI:=Lib.hid hI;clear hI;go_wp2_with fail;refine step3_done rfl ?_ ?_ ?_
   ·exact(toI HIp HI.out)
   ·exact(Below.refl _ _)
   ·exact(toV HV rfl)
  ·clear hV;obtain⟨q0,q1,q2,q3,q4⟩:=blk_cells5 (X2.out.touch hI.1 (fun h=>by have:=(Hmine.out _ h).2;omega));have HI:=Lib.hid hI;clear hI;go_wp2_with fail;refine step3_done rfl ?_ ?_ ?_
   ·exact(toI HIp HI.out)
   ·exact(Below.refl _ _)
   ·exact(toV HV rfl)
  ·have u3:=hV;clear hV;simp only[u3];clear u3;have HI:=Lib.hid hI;clear hI;go_wp2_with fail;refine step3_done rfl ?_ ?_ ?_
   ·exact(toI HIp HI.out)
   ·exact(Below.refl _ _)
   ·exact(toV HV rfl)
  ·have u5:=hV;clear hV;simp only[u5];clear u5;have HI:=Lib.hid hI;clear hI;go_wp2_with fail;refine step3_done rfl ?_ ?_ ?_
   ·exact(toI HIp HI.out)
   ·exact(Below.refl _ _)
   ·exact(toV HV rfl)
  ·obtain⟨u4,u6⟩:=hV;simp only[u4,u6];clear u4 u6;have hM:=(hI.2.1 (hL.2 7 (by simp))).1;have hrw:W.heap[sr]?=w.heap[sr]?:=(hI.2.1 (hL.2 7 (by simp))).2.trans (B2.out.block sr hsr2);have hq:∀j,j<10→∃v,W.cell? ⟨sr,so+j,none⟩=some v:=fun j hj=>by
    rw[cell_keep hrw];exact Option.isSome_iff_exists.1 (Hcl.out j hj)
   have hfr:∀j,j<sc*10→W.frozen? ⟨sr,so+j,none⟩=false:=fun j hj=>(World.frozen?_of_block (a:=⟨sr,so+j,none⟩) hrw).trans (HFr.out j hj);obtain⟨c5,k5⟩:=hq 5 (by omega);obtain⟨c6,k6⟩:=hq 6 (by omega);obtain⟨c7,k7⟩:=hq 7 (by omega);obtain⟨c8,k8⟩:=hq 8 (by omega);obtain⟨c9,k9⟩:=hq 9 (by omega);have f5:=hfr 5 (by omega);have f6:=hfr 6 (by omega);have f7:=hfr 7 (by omega);have f8:=hfr 8 (by omega);have f9:=hfr 9 (by omega);have hup:=hM.updLink (r:=sr) (o:=so) (c:=sc) 0 (by rw[HNS.out];exact hs) (by rw[HNS.out];exact HV0.out) lk Hof.out none 0 none 0 (by rw[Hon.out.1];exact RdS.nil _ _) (by rw[Hon.out.2.1];exact RdS.nil _ _);rw[←HRel.out,Hon.out.1,Hon.out.2.1,Hon.out.2.2]at hup;simp only[Nat.zero_mul,Nat.add_zero,List.length_nil]at hup;have HU:=Lib.hid hup;have HL:=Lib.hid hL;have HI:=Lib.hid hI;clear hI hL hM hrw hq hfr hup;go_wp2_with fail;refine step3_done (v:=undef) rfl ?_ ?_ ?_
   ·exact(toI HIp ⟨HI.out.1.trans HU.out.2,(fun h=>absurd h (by simp[setB])),(fun _=>HU.out.1)⟩)
   ·exact HU.out.2
   ·exact(toV HV rfl)
 case fin=>
  intro x W L hL hI hV;replace hI:(Touch (Mine g vs) w2 W∧(L 7=false→WkM base g t vs W∧W.heap[sr]?=w2.heap[sr]?)∧(L 7=true→WkM base g t.relink vs W)):=ofI HIp hI;rw[HV.out]at hV;simp only[AllV,and_true]at hV;obtain⟨u0,u1,u2,u3,u4,u5,u6,u7⟩:=hV;simp only[getsD,List.getD_cons_succ,List.getD_cons_zero,List.length_cons,List.length_nil,List.range,List.range.loop,u0,u1,u2,u3,u4,u5,u6,u7,Act.put,List.setIfInBounds_toArray,List.set_cons_succ,List.set_cons_zero];clear u0 u1 u2 u3 u4 u5 u6 u7;have hM:=hI.2.2 (hL 7 (by simp));have hT:=hI.1;have M3:=Lib.hid hM;have T3:Hid (Touch (Mine g vs) w W):=(Touch.of_below B2.out).trans hT;obtain⟨w3,rfl⟩:∃x:World,x=W:=⟨_,rfl⟩;have G3:=Lib.hid (Hg.out.wk HM.out T3.out);clear hI hL hM hT M2 X2 B2 B1;go_wp2_with fail;obtain⟨Vp,HV⟩:∃Vp:Nat→Value→World→Prop,Hid (Vp=fun i v W=>match i with
   |0=>v=.pointer (some ⟨g,0,none⟩)
   |1=>v=.pointer (some ⟨g,0,none⟩)
   |2=>v=.pointer (some ⟨g,0,none⟩)
   |3=>v=.pointer (some ⟨g,1,none⟩)
   |4=>v=.int .i64 t.node.epoch
   |5=>v=.pointer (some ⟨g,0,none⟩)
   |6=>v=.pointer (some ⟨g,0,none⟩)
   |7=>v=.pointer (some ⟨g,2,none⟩)
   |8=>v=.int .i64 t.node.up
   |9=>v=.agg #[.int .i64 2,.int .i64 t.node.up,.int .i64 t.node.epoch,.slice none 0 0,.string ⟨#[]⟩]
   |_=>v=.tuple #[]):=⟨_,rfl⟩
  obtain⟨Ip,HIp⟩:∃Ip:(Nat→Bool)→(Nat→Value)→World→Prop,Hid (Ip=fun L x W=>((L 10=false→Below w3.heap.size w3 W)∧(L 10=true→WkS base g t.join vs w3 W))):=⟨_,rfl⟩;refine region_lit3 (by kernel_rfl) (by kernel_rfl) (by kernel_rfl) [[],[],[1],[1,2],[1,2,3],[],[5],[5,6],[5,6,7],[1,2,3,4,5,6,7,8],[0,1,2,3,4,5,6,7,8,9]] (by kernel_rfl) [some 22,some 23,some 24,some 25,some 26,some 27,some 28,some 29,some 30,some 31,some 32] (by kernel_rfl) [[0,10],[1,2,3,4,9,10],[2,3,4,9,10],[3,4,9,10],[4,9,10],[5,6,7,8,9,10],[6,7,8,9,10],[7,8,9,10],[8,9,10],[9,10],[10]] (by kernel_rfl) [[],[],[],[],[],[],[],[],[],[],[]] [[],[],[1],[2],[3],[],[5],[6],[7],[4,8],[0,9]] (by kernel_rfl)
   Ip
   Vp
   (fun j W W'=>match j with
    |10=>True
    |_=>Below W.heap.size W W')
   [fun x=>⟨(fZm 0 (.pointer (some ⟨g,0,none⟩)) (fEm 22)).toArray,[]⟩,fun x=>⟨(fZm 2 (.pointer (some ⟨g,0,none⟩)) (fEm 21)).toArray,[]⟩,fun x=>⟨(fZm 23 (x 1) (fEm 1)).toArray,[]⟩,fun x=>⟨(fZm 24 (x 2) (fEm 1)).toArray,[]⟩,fun x=>⟨(fZm 25 (x 3) (fEm 1)).toArray,[]⟩,fun x=>⟨(fZm 2 (.pointer (some ⟨g,0,none⟩)) (fEm 25)).toArray,[]⟩,fun x=>⟨(fZm 27 (x 5) (fEm 1)).toArray,[]⟩,fun x=>⟨(fZm 28 (x 6) (fEm 1)).toArray,[]⟩,fun x=>⟨(fZm 29 (x 7) (fEm 1)).toArray,[]⟩,fun x=>⟨(fZm 26 (x 4) (fZm 3 (x 8) (fEm 1))).toArray,[]⟩,fun x=>⟨(fZm 22 (x 0) (fZm 8 (x 9) (fEm 1))).toArray,[]⟩]
   ?hF ?mono ?h0 ?step [0,1,2,3,4,5,6,7,8,9,10] (by kernel_rfl) ?fin
  case hF=>
   iterate 11 refine⟨fun x=>⟨by kernel_rfl,by kernel_rfl⟩,?_⟩
   trivial
  case mono=>
   intro i j hi hj hne hna hnk v W W' hE hv;rw[HV.out]at hv⊢;simp only[List.length_cons,List.length_nil]at hi hj
   match i,hi with
   |0,_|1,_|2,_|3,_|4,_|5,_|6,_|7,_|8,_|9,_|10,_=>exact hv
   |m+11,h=>exact absurd h (by omega)
  case h0=>intro x;exact toI HIp ⟨(fun _=>(Below.refl _ _).drew),(fun h=>by cases h)⟩
  case step=>
   refine⟨?_,?_,?_,?_,?_,?_,?_,?_,?_,?_,?_,trivial⟩
   all_goals
    intro x W L hI hL hV;replace hI:((L 10=false→Below w3.heap.size w3 W)∧(L 10=true→WkS base g t.join vs w3 W)):=ofI HIp hI;rw[HV.out]at hV;simp only[AllV,and_true]at hV;dsimp only[fZm,fEm,List.reduceReplicate,List.cons_append,List.nil_append]
   ·clear hV;have HI:=Lib.hid hI;clear hI;go_wp2_with fail;refine step3_done rfl ?_ ?_ ?_
    ·exact(toI HIp HI.out)
    ·exact(Below.refl _ _)
    ·exact(toV HV rfl)
   ·clear hV;have HI:=Lib.hid hI;clear hI;go_wp2_with fail;refine step3_done rfl ?_ ?_ ?_
    ·exact(toI HIp HI.out)
    ·exact(Below.refl _ _)
    ·exact(toV HV rfl)
   ·have u1:=hV;clear hV;simp only[u1];clear u1;have HI:=Lib.hid hI;clear hI;go_wp2_with fail;refine step3_done rfl ?_ ?_ ?_
    ·exact(toI HIp HI.out)
    ·exact(Below.refl _ _)
    ·exact(toV HV rfl)
   ·have u2:=hV;clear hV;simp only[u2];clear u2;have HI:=Lib.hid hI;clear hI;go_wp2_with fail;refine step3_done rfl ?_ ?_ ?_
    ·exact(toI HIp HI.out)
    ·exact(Below.refl _ _)
    ·exact(toV HV rfl)
   ·have u3:=hV;clear hV;simp only[u3];clear u3;have hMW:=M3.out.go (hI.1 (hL.2 10 (by simp)));obtain⟨-,p1,-⟩:=blk10_cells hMW.box;have HI:=Lib.hid hI;clear hI hMW;have hp1:W.cell? ⟨g,1,none⟩=some (.int .i64 t.node.epoch):=p1;clear p1;go_wp2_with fail;refine step3_done rfl ?_ ?_ ?_
    ·exact(toI HIp HI.out)
    ·exact(Below.refl _ _)
    ·exact(toV HV rfl)
   ·clear hV;have HI:=Lib.hid hI;clear hI;go_wp2_with fail;refine step3_done rfl ?_ ?_ ?_
    ·exact(toI HIp HI.out)
    ·exact(Below.refl _ _)
    ·exact(toV HV rfl)
   ·have u5:=hV;clear hV;simp only[u5];clear u5;have HI:=Lib.hid hI;clear hI;go_wp2_with fail;refine step3_done rfl ?_ ?_ ?_
    ·exact(toI HIp HI.out)
    ·exact(Below.refl _ _)
    ·exact(toV HV rfl)
   ·have u6:=hV;clear hV;simp only[u6];clear u6;have HI:=Lib.hid hI;clear hI;go_wp2_with fail;refine step3_done rfl ?_ ?_ ?_
    ·exact(toI HIp HI.out)
    ·exact(Below.refl _ _)
    ·exact(toV HV rfl)
   ·have u7:=hV;clear hV;simp only[u7];clear u7;have hMW:=M3.out.go (hI.1 (hL.2 10 (by simp)));obtain⟨-,-,p2,-⟩:=blk10_cells hMW.box;have HI:=Lib.hid hI;clear hI hMW;have hp2:W.cell? ⟨g,2,none⟩=some (.int .i64 t.node.up):=p2;clear p2;go_wp2_with fail;refine step3_done rfl ?_ ?_ ?_
    ·exact(toI HIp HI.out)
    ·exact(Below.refl _ _)
    ·exact(toV HV rfl)
   ·obtain⟨u4,u8⟩:=hV;simp only[u4,u8];clear u4 u8;have HI:=Lib.hid hI;clear hI;go_wp2_with fail;refine step3_done rfl ?_ ?_ ?_
    ·exact(toI HIp HI.out)
    ·exact(Below.refl _ _)
    ·exact(toV HV rfl)
   ·obtain⟨u0,u9⟩:=hV;simp only[u0,u9];clear u0 u9;have hb:=hI.1 (hL.2 10 (by simp));have HB:=Lib.hid hb;clear hI hL hb;go_wp2_with fail;refine(HSd.out W vs (G3.out.go HB.out) (M3.out.go HB.out)).mono ?_;rintro e W' ⟨rfl,hs'⟩;have HW:Hid (WkS base g t.join vs w3 W'):=WkS.trans (Touch.of_below HB.out) (fun z h=>.inl h) hs';clear hs';go_wp2_with fail;refine step3_done rfl ?_ ?_ ?_
    ·exact(toI HIp ⟨(fun h=>absurd h (by simp[setB])),(fun _=>HW.out)⟩)
    ·exact trivial
    ·exact(toV HV rfl)
  case fin=>
   intro x W L hL hI hV;replace hI:((L 10=false→Below w3.heap.size w3 W)∧(L 10=true→WkS base g t.join vs w3 W)):=ofI HIp hI;rw[HV.out]at hV;simp only[AllV,and_true]at hV;obtain⟨u0,u1,u2,u3,u4,u5,u6,u7,u8,u9,u10⟩:=hV;simp only[getsD,List.getD_cons_succ,List.getD_cons_zero,List.length_cons,List.length_nil,List.range,List.range.loop,u0,u1,u2,u3,u4,u5,u6,u7,u8,u9,u10,Act.put,List.setIfInBounds_toArray,List.set_cons_succ,List.set_cons_zero];clear u0 u1 u2 u3 u4 u5 u6 u7 u8 u9 u10;have hW:=hI.2 (hL 10 (by simp));have HW:Hid (WkS base g t.join vs w W):=WkS.trans T3.out (fun z h=>.inl h) hW;clear hI hL hW;go_wp2_with fail;go_end0;exact⟨rfl,HW.out⟩
end Go.Proofs.YtkbfhgcjimfgkaaDoor
set_option linter.unusedSimpArgs false
namespace Go.Proofs.YtkbfhgcjimfgkaaDoor
open Go.RowKit
theorem WkM.new {base g:Nat}{me epoch up:Int}{ready:Bool}{s:Str}{w:World}(hb:Blk g (.cells #[.int .i64 me,.int .i64 epoch,.int .i64 up,.bool ready,.string s,.slice none 0 0,.slice none 0 0,.slice none 0 0,.slice none 0 0,.slice none 0 0] 82 (0,0)) w)(hg:base≤g)(h2:2≤base)(hf:I64 me∧I64 epoch∧I64 up∧s.size≤strMax):
 WkM base g ⟨⟨me,epoch,up,ready,s,[],[],[]⟩,[],[]⟩ (fun _=>.slice none 0 0) w:=
 ⟨hb,(fun j hj=>by
  match j,hj with
  |0,_=>exact OwnO.nil
  |1,_=>exact OwnO.nil
  |2,_=>exact OwnO.nil
  |3,_=>exact OwnO.nil
  |4,_=>exact OwnO.nil),hg,(fun i hi z hz=>by cases hz),(fun i j hi hj hij z hz=>by cases hz),hf,h2⟩
theorem WkG.val {base g:Nat}{t:Tn}{vs:Nat→Value}{w:World}(h:WkM base g t vs w):TnVal (Fresh base w) t (.agg (tnCells t vs)) w:=by
 have key:∀{α:Type} [Rep α] {l:List α} {j:Nat},j<5→OwnO (WX base g vs) base (vs j) l w→∃a c,vs j=.slice a l.length c∧RdS (Fresh base w) w l a l.length c:=by
  intro α _ l j hj ho;rcases ho.row with⟨a,hv,hl,h2⟩|⟨q,off,cap,hv,h1,h2,h3,h4,h5,h6⟩
  ·subst hl;exact⟨a,0,hv,RdS.empty' _ _ _⟩
  ·exact⟨_,cap,hv,rfl,h3,h4,(fun e=>by cases e),fun _=>⟨q,off,rfl,⟨h1,h2⟩,h2,h6.imp rfl fun b hb=>⟨⟨Nat.le_of_not_lt fun hlt=>hb.2.1 (.inl hlt),hb.1⟩,rfl⟩⟩⟩
 exact⟨vs,rfl,h.fit,key (by omega) (h.rows 0 (by omega)),key (by omega) (h.rows 1 (by omega)),key (by omega) (h.rows 2 (by omega)),key (by omega) (h.rows 3 (by omega)),key (by omega) (h.rows 4 (by omega))⟩
def TurnP (t:Tn)(w:World)(e:Ending)(w':World):Prop:=∃v,e=.returned (.tuple #[v,.int .i64 0])∧TnVal (Fresh w.heap.size w') t v w'∧Below w.heap.size w w'
theorem TnVal.open {A:Nat→Prop}{t:Tn}{v:Value}{w:World}(h:TnVal A t v w):∃a0 c0 a1 c1 a2 c2 a3 c3 a4 c4,v=.agg #[.int .i64 t.node.me,.int .i64 t.node.epoch,.int .i64 t.node.up,.bool t.node.ready,.string t.node.text,.slice a0 t.node.sides.length c0,.slice a1 t.node.undo.length c1,.slice a2 t.node.marks.length c2,.slice a3 t.posts.length c3,.slice a4 t.recs.length c4]∧t.node.fits∧
 RdS A w t.node.sides a0 t.node.sides.length c0∧RdS A w t.node.undo a1 t.node.undo.length c1∧RdS A w t.node.marks a2 t.node.marks.length c2∧RdS A w t.posts a3 t.posts.length c3∧RdS A w t.recs a4 t.recs.length c4:=by
 obtain⟨us,e,hf,⟨a0,c0,e0,r0⟩,⟨a1,c1,e1,r1⟩,⟨a2,c2,e2,r2⟩,⟨a3,c3,e3,r3⟩,a4,c4,e4,r4⟩:=h;refine⟨a0,c0,a1,c1,a2,c2,a3,c3,a4,c4,?_,hf,r0,r1,r2,r3,r4⟩;rw[e];unfold tnCells;rw[e0,e1,e2,e3,e4]
theorem turn_out {base g b B:Nat}{t:Tn}{vs:Nat→Value}{w W:World}(h:WkM base g t vs W)(hx:Blk b (.cells zeroTn 35 (0,0)) W)(h1:b<base)(h2:B≤b)(h3:Below B w W):
 ∃a0 c0 a1 c1 a2 c2 a3 c3 a4 c4,Blk g (.cells #[.int .i64 t.node.me,.int .i64 t.node.epoch,.int .i64 t.node.up,.bool t.node.ready,.string t.node.text,.slice a0 t.node.sides.length c0,.slice a1 t.node.undo.length c1,.slice a2 t.node.marks.length c2,.slice a3 t.posts.length c3,.slice a4 t.recs.length c4] 82 (0,0)) W∧Blk b (.cells #[.int .i64 t.node.me,.int .i64 t.node.epoch,.int .i64 t.node.up,.bool t.node.ready,.string t.node.text,.slice a0 t.node.sides.length c0,.slice a1 t.node.undo.length c1,.slice a2 t.node.marks.length c2,.slice a3 t.posts.length c3,.slice a4 t.recs.length c4] 35 (0,0)) (set10w W b (.int .i64 t.node.me) (.int .i64 t.node.epoch) (.int .i64 t.node.up) (.bool t.node.ready) (.string t.node.text) (.slice a0 t.node.sides.length c0) (.slice a1 t.node.undo.length c1) (.slice a2 t.node.marks.length c2) (.slice a3 t.posts.length c3) (.slice a4 t.recs.length c4))∧
  TnVal (Fresh B (set10w W b (.int .i64 t.node.me) (.int .i64 t.node.epoch) (.int .i64 t.node.up) (.bool t.node.ready) (.string t.node.text) (.slice a0 t.node.sides.length c0) (.slice a1 t.node.undo.length c1) (.slice a2 t.node.marks.length c2) (.slice a3 t.posts.length c3) (.slice a4 t.recs.length c4))) t (.agg #[.int .i64 t.node.me,.int .i64 t.node.epoch,.int .i64 t.node.up,.bool t.node.ready,.string t.node.text,.slice a0 t.node.sides.length c0,.slice a1 t.node.undo.length c1,.slice a2 t.node.marks.length c2,.slice a3 t.posts.length c3,.slice a4 t.recs.length c4]) (set10w W b (.int .i64 t.node.me) (.int .i64 t.node.epoch) (.int .i64 t.node.up) (.bool t.node.ready) (.string t.node.text) (.slice a0 t.node.sides.length c0) (.slice a1 t.node.undo.length c1) (.slice a2 t.node.marks.length c2) (.slice a3 t.posts.length c3) (.slice a4 t.recs.length c4))∧Below B w (set10w W b (.int .i64 t.node.me) (.int .i64 t.node.epoch) (.int .i64 t.node.up) (.bool t.node.ready) (.string t.node.text) (.slice a0 t.node.sides.length c0) (.slice a1 t.node.undo.length c1) (.slice a2 t.node.marks.length c2) (.slice a3 t.posts.length c3) (.slice a4 t.recs.length c4)):=by
 have hv:=h.val;have hgl:=hx.lt;have hsz:=h3.size;obtain⟨us,e,hf,⟨a0,c0,e0,r0⟩,⟨a1,c1,e1,r1⟩,⟨a2,c2,e2,r2⟩,⟨a3,c3,e3,r3⟩,a4,c4,e4,r4⟩:=hv;have hbx:=h.box;have eb:tnCells t vs=tnCells t us:=by injection e
 rw[eb]at hbx;unfold tnCells at hbx;rw[e0,e1,e2,e3,e4]at hbx;have ht:=touch10 W b (.int .i64 t.node.me) (.int .i64 t.node.epoch) (.int .i64 t.node.up) (.bool t.node.ready) (.string t.node.text) (.slice a0 t.node.sides.length c0) (.slice a1 t.node.undo.length c1) (.slice a2 t.node.marks.length c2) (.slice a3 t.posts.length c3) (.slice a4 t.recs.length c4);have hA:∀z,Fresh base W z→Fresh B (set10w W b (.int .i64 t.node.me) (.int .i64 t.node.epoch) (.int .i64 t.node.up) (.bool t.node.ready) (.string t.node.text) (.slice a0 t.node.sides.length c0) (.slice a1 t.node.undo.length c1) (.slice a2 t.node.marks.length c2) (.slice a3 t.posts.length c3) (.slice a4 t.recs.length c4)) z∧(set10w W b (.int .i64 t.node.me) (.int .i64 t.node.epoch) (.int .i64 t.node.up) (.bool t.node.ready) (.string t.node.text) (.slice a0 t.node.sides.length c0) (.slice a1 t.node.undo.length c1) (.slice a2 t.node.marks.length c2) (.slice a3 t.posts.length c3) (.slice a4 t.recs.length c4)).heap[z]?=W.heap[z]?:=fun z hz=>⟨⟨by have:=hz.1;omega,Nat.lt_of_lt_of_le hz.2 ht.size⟩,ht.block z hz.2 (by have:=hz.1;omega)⟩;refine⟨a0,c0,a1,c1,a2,c2,a3,c3,a4,c4,hbx,blk_set10 hx _ _ _ _ _ _ _ _ _ _,⟨us,?_,hf,⟨a0,c0,e0,r0.mono hA⟩,⟨a1,c1,e1,r1.mono hA⟩,⟨a2,c2,e2,r2.mono hA⟩,⟨a3,c3,e3,r3.mono hA⟩,a4,c4,e4,r4.mono hA⟩,h3.trans (ht.toBelow (by omega) (fun z hz=>by omega))⟩;unfold tnCells;rw[e0,e1,e2,e3,e4]
end Go.Proofs.YtkbfhgcjimfgkaaDoor
set_option linter.unusedSimpArgs false
namespace Go.Proofs.YtkbfhgcjimfgkaaDoor
open Go.RowKit
def beginE (t:List Int)(me births:Int)(s:Str):Int:=
 if checkTree t≠0 then checkTree t else if me<0∨(t.length:Int)≤me then 13 else if births<1∨250<births then 2 else if checkText s≠0 then checkText s else if 0<me∧emptyS s=false then 4 else 0
end Go.Proofs.YtkbfhgcjimfgkaaDoor
