/- The walk of a turn's told: a frame came on a side. -/
import Derived.Test.YtkbfhgcjimfgkaaDoorPartC6
set_option linter.unusedVariables false
set_option linter.unusedSimpArgs false
set_option linter.unusedSimpArgs false
namespace Go.Proofs.YtkbfhgcjimfgkaaDoor
open Go.RowKit
def Tn.wh (t:Tn)(s:Nat)(f:Fr)(a b c:Bool):Tn:={t with node:={t.node with ready:=(bif a then true else t.node.ready),text:=(bif b then f.text else t.node.text),sides:=(bif c then t.node.sides.set s {t.side s with joined:=true}else t.node.sides)}}
section
variable {base g:Nat} {t:Tn} {vs:Nat→Value} {w:World} {s:Nat} {f:Fr}
theorem wh_ready (b c:Bool)(h:WkM base g (t.wh s f false b c) vs w):WkM base g (t.wh s f true b c) vs (w.setCell ⟨g,3,none⟩ (.bool true)):=
 h.put (touch1 (w:=w) (g:=g) (i:=3) (.bool true)) (h.box.set 3 _) (fun i X v W h=>h) h.fit
theorem wh_text (a c:Bool)(hf:f.text.size≤strMax)(h:WkM base g (t.wh s f a false c) vs w):WkM base g (t.wh s f a true c) vs (w.setCell ⟨g,4,none⟩ (.string f.text)):=
 h.put (touch1 (w:=w) (g:=g) (i:=4) (.string f.text)) (h.box.set 4 _) (fun i X v W h=>h) ⟨h.fit.1,h.fit.2.1,h.fit.2.2.1,hf⟩
theorem wh_joined {r o c':Nat}(a b:Bool)(hs:s<t.node.sides.length)(hv:vs 0=.slice (some ⟨r,o,none⟩) t.node.sides.length c')(h:WkM base g (t.wh s f a b false) vs w):WkM base g (t.wh s f a b true) vs (w.setCell ⟨r,o+s*10+1,none⟩ (.bool true)):=by
 have e:t.side s=t.node.sides[s]:=t.side_get s hs;exact(h.upd s hs hv 1 [.bool true] (by simp) {t.side s with joined:=true} (fun xs hx=>by
  obtain⟨a,ac,sa,sc,qa,qc,rfl,p1,p2,p3,p4,p5,p6⟩:=hx;rw[e];refine⟨_,⟨a,ac,sa,sc,qa,qc,rfl,p1,p2,p3,p4,p5,p6⟩,fun j v hj=>?_⟩
  match j with
  |0|1|2|3|4|5|6|7|8|9=>exact hj
  |j+10=>cases hj)).1
theorem WkG.sideAt {us:Nat→Value}(h:WkG base g t us vs w)(hs:s<t.node.sides.length){r o c:Nat}(hv:vs 0=.slice (some ⟨r,o,none⟩) t.node.sides.length c):
 w.cell? ⟨r,o+s*10,none⟩=some (.int .i64 (t.side s).peer)∧w.cell? ⟨r,o+s*10+1,none⟩=some (.bool (t.side s).joined)∧(∀j,j<10→w.frozen? ⟨r,o+s*10+j,none⟩=false)∧r<w.heap.size∧r≠g∧base≤r∧t.node.sides.length≤c∧c≤maxLen:=by
 obtain⟨r',o',c',xs,hv',h1,hr',h2,hn',hm',hrd',hcs',hfz'⟩:=h.side s hs;rw[hv]at hv';injection hv' with e1 e2 e3;injection e1 with e1;injection e1 with e4 e5;subst e3 e4 e5;rw[t.side_get s hs];obtain⟨_,_,_,_,_,_,rfl,-⟩:=hrd';exact⟨hcs' 0 _ rfl,hcs' 1 _ rfl,fun j hj=>by
  have h3:=hfz' (s*10+j) (by omega);rwa[←Nat.add_assoc]at h3,hr',h2,h1,hn',hm'⟩
end
def HeardLaw (f:Fr):Prop:=∀(tr:List Int)(b0:Int)(base g:Nat)(t:Tn)(vs:Nat→Value)(s:Nat)(fa:Option Addr)(fc:Nat)(w:World),Good w→WkM base g t vs w→s<t.node.sides.length→RdS (NM g vs w) w f.op fa f.op.length fc→f.fits→NG tr b0 t.node→b0<900000→(t.side s).joined=true→t.posts.length≤1000→t.recs.length≤1000→
 Calls Tryd.prog 88 #[.pointer (some ⟨g,0,none⟩),.int .i64 (s:Int),.agg #[.int .i64 f.kind,.int .i64 f.heard,.int .i64 f.epoch,.slice fa f.op.length fc,.string f.text]] w fun e w'=>e=.returned (.tuple #[])∧WkS base g (t.heard s f) vs w w'
set_option maxRecDepth 100000 in
set_option maxHeartbeats 8000000 in
theorem ndTold_any (f:Fr)(hH:f.kind=1→HeardLaw f)(tr:List Int)(b0:Int)(base g:Nat)(t:Tn)(vs:Nat→Value)(s:Nat)(fa:Option Addr)(fc:Nat)(w:World)(hg:Good w)(h:WkM base g t vs w)(hs:s<t.node.sides.length)(hr:RdS (NM g vs w) w f.op fa f.op.length fc)(hf:f.fits)(hG:NG tr b0 t.node)(hb:b0<900000)(hpo:t.posts.length≤1000)(hre:t.recs.length≤1000):
 Calls Tryd.prog 67 #[.pointer (some ⟨g,0,none⟩),.int .i64 (s:Int),.agg #[.int .i64 f.kind,.int .i64 f.heard,.int .i64 f.epoch,.slice fa f.op.length fc,.string f.text]] w fun e w'=>e=.returned (.tuple #[])∧WkS base g (t.told s f) vs w w':=by
 have HNP:=Lib.hid (fun W=>node_ptr g W);have HM:=Lib.hid h;have Hg:=Lib.hid hg;obtain⟨sr,so,sc,-,hv0,-,-,-,-,-,-⟩:=h.side s hs;have hsd:=h.sideAt hs hv0;obtain⟨hc0,hc1,hfz,hsr,hrg,hbr,hnc,hcm⟩:=hsd;have HHd:Hid (f.kind=1→(t.side s).joined=true→∀W,Below w.heap.size w W→Calls Tryd.prog 88 #[.pointer (some ⟨g,0,none⟩),.int .i64 (s:Int),.agg #[.int .i64 f.kind,.int .i64 f.heard,.int .i64 f.epoch,.slice fa f.op.length fc,.string f.text]] W fun e w'=>e=.returned (.tuple #[])∧WkS base g (t.heard s f) vs W w'):=fun hk hj W hW=>
  hH hk tr b0 base g t vs s fa fc W (hg.go hW) (h.go hW) hs (hr.mono fun z hz=>⟨⟨Nat.lt_of_lt_of_le hz.1 hW.size,hz.2⟩,hW.block z hz.1⟩) hf hG hb hj hpo hre
 obtain⟨J,hJ⟩:∃J,J=(t.side s).joined:=⟨_,rfl⟩;have HV0:=Lib.hid hv0;obtain⟨N,hN⟩:∃N,N=t.node.sides.length:=⟨_,rfl⟩;have HSL:=Lib.hid hs;rw[←hN]at hnc hs;have hsN:(s:Int)<(N:Int):=by omega
 have hNc:(N:Int)≤(sc:Int):=by omega
 have hcm2:(sc:Int)≤9223372036854775807:=by unfold maxLen at hcm;omega
 have HN:=Lib.hid hN;have HJ:=Lib.hid hJ;have Hf:=Lib.hid hf;have HFZ:=Lib.hid hfz;rw[←hJ]at hc1;have HC1:=Lib.hid hc1;have hgl:=h.lt;clear h hg hr hv0 hN hJ hf hG hpo hre hc0 hc1 hfz hH;go_enter Tryd.func67,Tryd.ntmps67;go_wp2_with fail;refine abs_run (fun W=>Below w.heap.size w W∧Blk w.heap.size (.cells #[.int .i64 f.kind,.int .i64 f.heard,.int .i64 f.epoch,.slice fa f.op.length fc,.string f.text] 44 (0,0)) W) ⟨(Below.refl _ _).alloc (Nat.le_refl _) _,Blk.new w _⟩ ?_;rintro w1 ⟨bb1,x1⟩;have B1:=Lib.hid bb1;have X1:=Lib.hid x1;have M1:=Lib.hid (HM.out.go bb1);have hsr1:sr<w1.heap.size:=by have:=bb1.size;omega
 have k0:w1.cell? ⟨w.heap.size,0,none⟩=some (.int .i64 f.kind):=x1.cell 0;have k1:w1.cell? ⟨w.heap.size,1,none⟩=some (.int .i64 f.heard):=x1.cell 1;have k2:w1.cell? ⟨w.heap.size,2,none⟩=some (.int .i64 f.epoch):=x1.cell 2;have k3:w1.cell? ⟨w.heap.size,3,none⟩=some (.slice fa f.op.length fc):=x1.cell 3;have k4:w1.cell? ⟨w.heap.size,4,none⟩=some (.string f.text):=x1.cell 4;have q1:w1.cell? ⟨sr,so+s*10+1,none⟩=some (.bool J):=(bb1.cell (p:=⟨sr,so+s*10+1,none⟩) hsr).trans HC1.out;have p0:w1.cell? ⟨g,0,none⟩=some (.int .i64 t.node.me):=M1.out.box.cell 0;have p1:w1.cell? ⟨g,1,none⟩=some (.int .i64 t.node.epoch):=M1.out.box.cell 1;have p5:w1.cell? ⟨g,5,none⟩=some (.slice (some ⟨sr,so,none⟩) N sc):=(M1.out.box.cell 5).trans (congrArg some (show vs 0=.slice (some ⟨sr,so,none⟩) N sc from by rw[HV0.out,HN.out]));clear bb1 x1 HC1;refine(HNP.out w1).mono ?_;rintro e w2 ⟨rfl,rfl⟩;go_upto_region 3 with fail;go_cut [16,17,18,19,20,21,22,23,24,25]from 17 to 25 (fun s16 _ _ _ _ _ _ _ _ _ W=>s16=.bool (decide (f.kind=1)&&J)∧w1=W)
 case first=>
  by_cases hk1:f.kind=1
  ·have d1:(f.kind==1)=true:=by simp[hk1]
   have D2:=Lib.hid (show decide (f.kind=1)=true by simp[hk1]);clear hk1;go_wp2_with fail;go_meet
   case rel=>exact⟨by rw[D2.out];rfl,rfl⟩
  ·have d1:(f.kind==1)=false:=by simp[hk1]
   have D2:=Lib.hid (show decide (f.kind=1)=false by simp[hk1]);clear hk1;go_wp2_with fail;go_meet
   case rel=>exact⟨by rw[D2.out];rfl,rfl⟩
 case rest=>
  obtain⟨rfl,rfl⟩:=hcut;by_cases hE:f.kind=1∧J=true
  ·have hJ1:=HHd.out hE.1 (by rw[←HJ.out];exact hE.2) w1 B1.out;have HCall:=Lib.hid hJ1;have HTo:Hid (t.told s f=t.heard s f):=by
    unfold Hid Tn.told;rw[if_pos ⟨hE.1,by rw[←HJ.out];exact hE.2⟩]
   have d3:(decide (f.kind=1)&&J)=true:=by simp[hE.1,hE.2]
   rw[d3];clear hJ1 hE;go_wp2_with fail;refine HCall.out.mono ?_;rintro e w3 ⟨rfl,hW⟩;have HW:Hid (WkS base g (t.told s f) vs w w3):=by
    rw[HTo.out];exact WkS.trans (Touch.of_below B1.out) (fun z hz=>.inl hz) hW
   clear hW;go_wp2_with fail;go_end0;exact⟨rfl,HW.out⟩
  ·have d3:(decide (f.kind=1)&&J)=false:=by
    cases hh:(decide (f.kind=1)&&J)with
    |false=>rfl
    |true=>
     simp only[Bool.and_eq_true,decide_eq_true_eq]at hh;exact absurd hh hE
   rw[d3];have HTo:Hid (t.told s f=if f.kind=3∧s=0∧0<t.node.me∧J=false∧f.epoch=t.node.epoch then t.whole s f else t):=by
    unfold Hid Tn.told;rw[if_neg (by rw[←HJ.out];exact hE),←HJ.out]
   clear hE d3 HHd;go_upto_region 5 with fail;go_cut [30,31,32,33,34,35,36,37,38,39,40,41,42,43,44,45,46,47,48,49,50,51,52,53,54,55,56,57,58,59,60]from 31 to 60 (fun s30 _ _ _ _ _ _ _ _ _ _ _ _ _ _ _ _ _ _ _ _ _ _ _ _ _ _ _ _ _ _ W=>s30=.bool (decide (f.kind=3∧s=0∧0<t.node.me∧J=false∧f.epoch=t.node.epoch))∧Below w1.heap.size w1 W)
   case first=>
    by_cases e1:f.kind=3
    ·have d1:(f.kind==3)=true:=by simp[e1]
     by_cases e2:s=0
     ·have d2:((s:Int)==0)=true:=by simp[e2]
      by_cases e3:0<t.node.me
      ·have d3:decide (0<t.node.me)=true:=by simpa using e3
       cases J with
       |false=>
        by_cases e5:f.epoch=t.node.epoch
        ·have d5:(f.epoch==t.node.epoch)=true:=by simp[e5]
         have D6:=Lib.hid (show decide (f.kind=3∧s=0∧0<t.node.me∧false=false∧f.epoch=t.node.epoch)=true by simp[e1,e2,e3,e5]);clear e1 e2 e3 e5;go_quiet (fail);go_wp2_with fail;go_meet
         case rel=>exact⟨by rw[D6.out],by(repeat (first|exact Below.refl _ _|assumption|(refine Below.drew ?_)|(refine below_drewN ?_ _)|(refine Below.alloc ?_ (by first|(simp;done)|(simp;omega)|omega) _)|(refine Below.setCell ?_ (by first|(simp;done)|(simp;omega)|omega) _)|(refine Below.trans ?_ (Below.mono (by assumption) (by first|(simp;done)|(simp;omega)|omega)))))⟩
        ·have d5:(f.epoch==t.node.epoch)=false:=by simp[e5]
         have D6:=Lib.hid (show decide (f.kind=3∧s=0∧0<t.node.me∧false=false∧f.epoch=t.node.epoch)=false by simp[e5]);clear e1 e2 e3 e5;go_quiet (fail);go_wp2_with fail;go_meet
         case rel=>exact⟨by rw[D6.out],by(repeat (first|exact Below.refl _ _|assumption|(refine Below.drew ?_)|(refine below_drewN ?_ _)|(refine Below.alloc ?_ (by first|(simp;done)|(simp;omega)|omega) _)|(refine Below.setCell ?_ (by first|(simp;done)|(simp;omega)|omega) _)|(refine Below.trans ?_ (Below.mono (by assumption) (by first|(simp;done)|(simp;omega)|omega)))))⟩
       |true=>
        have D6:=Lib.hid (show decide (f.kind=3∧s=0∧0<t.node.me∧true=false∧f.epoch=t.node.epoch)=false by simp);clear e1 e2 e3;go_quiet (fail);go_wp2_with fail;go_meet
        case rel=>exact⟨by rw[D6.out],by(repeat (first|exact Below.refl _ _|assumption|(refine Below.drew ?_)|(refine below_drewN ?_ _)|(refine Below.alloc ?_ (by first|(simp;done)|(simp;omega)|omega) _)|(refine Below.setCell ?_ (by first|(simp;done)|(simp;omega)|omega) _)|(refine Below.trans ?_ (Below.mono (by assumption) (by first|(simp;done)|(simp;omega)|omega)))))⟩
      ·have d3:decide (0<t.node.me)=false:=by simpa using e3
       have D6:=Lib.hid (show decide (f.kind=3∧s=0∧0<t.node.me∧J=false∧f.epoch=t.node.epoch)=false by simp[e3]);clear e1 e2 e3;go_quiet (fail);go_wp2_with fail;go_meet
       case rel=>exact⟨by rw[D6.out],by(repeat (first|exact Below.refl _ _|assumption|(refine Below.drew ?_)|(refine below_drewN ?_ _)|(refine Below.alloc ?_ (by first|(simp;done)|(simp;omega)|omega) _)|(refine Below.setCell ?_ (by first|(simp;done)|(simp;omega)|omega) _)|(refine Below.trans ?_ (Below.mono (by assumption) (by first|(simp;done)|(simp;omega)|omega)))))⟩
     ·have d2:((s:Int)==0)=false:=by simp[e2]
      have D6:=Lib.hid (show decide (f.kind=3∧s=0∧0<t.node.me∧J=false∧f.epoch=t.node.epoch)=false by simp[e2]);clear e1 e2;go_quiet (fail);go_wp2_with fail;go_meet
      case rel=>exact⟨by rw[D6.out],by(repeat (first|exact Below.refl _ _|assumption|(refine Below.drew ?_)|(refine below_drewN ?_ _)|(refine Below.alloc ?_ (by first|(simp;done)|(simp;omega)|omega) _)|(refine Below.setCell ?_ (by first|(simp;done)|(simp;omega)|omega) _)|(refine Below.trans ?_ (Below.mono (by assumption) (by first|(simp;done)|(simp;omega)|omega)))))⟩
    ·have d1:(f.kind==3)=false:=by simp[e1]
     have D6:=Lib.hid (show decide (f.kind=3∧s=0∧0<t.node.me∧J=false∧f.epoch=t.node.epoch)=false by simp[e1]);clear e1;go_quiet (fail);go_wp2_with fail;go_meet
     case rel=>exact⟨by rw[D6.out],by(repeat (first|exact Below.refl _ _|assumption|(refine Below.drew ?_)|(refine below_drewN ?_ _)|(refine Below.alloc ?_ (by first|(simp;done)|(simp;omega)|omega) _)|(refine Below.setCell ?_ (by first|(simp;done)|(simp;omega)|omega) _)|(refine Below.trans ?_ (Below.mono (by assumption) (by first|(simp;done)|(simp;omega)|omega)))))⟩
   case rest=>
    obtain⟨rfl,bq⟩:=hcut;have Bq:=Lib.hid (up B1.out bq);have Xq:=Lib.hid (X1.out.go bq);have Mq:=Lib.hid (M1.out.go bq);clear bq;by_cases hE:f.kind=3∧s=0∧0<t.node.me∧J=false∧f.epoch=t.node.epoch
    ·have hTo2:Hid (t.told s f=t.wh s f true true true):=by rw[HTo.out,if_pos hE];rfl
     have hD:decide (f.kind=3∧s=0∧0<t.node.me∧J=false∧f.epoch=t.node.epoch)=true:=by simpa using hE
     rw[hD];have M2:Hid (WkM base g (t.wh s f false false false) vs wc):=Mq.out;have hrM:Hid (Mine g vs sr):=.inr ⟨0,by omega,by rw[HV0.out];rfl⟩;clear hE hD HTo;go_upto_region 6 with fail;obtain⟨Vp,HV⟩:∃Vp:Nat→Value→World→Prop,Hid (Vp=fun i v W=>match i with
      |0=>v=.pointer (some ⟨g,0,none⟩)
      |1=>v=.pointer (some ⟨g,0,none⟩)
      |2=>v=.pointer (some ⟨sr,so+s*10,none⟩)
      |3=>v=.pointer (some ⟨w.heap.size,4,none⟩)
      |4=>v=.string f.text
      |5=>v=.pointer (some ⟨g,0,none⟩)
      |6=>v=.pointer (some ⟨g,3,none⟩)
      |7=>v=undef
      |8=>v=.pointer (some ⟨g,0,none⟩)
      |9=>v=.pointer (some ⟨g,4,none⟩)
      |10=>v=undef
      |11=>v=.pointer (some ⟨sr,so+s*10,none⟩)
      |12=>v=.pointer (some ⟨sr,so+s*10+1,none⟩)
      |_=>v=undef):=⟨_,rfl⟩
     obtain⟨Ip,HIp⟩:∃Ip:(Nat→Bool)→(Nat→Value)→World→Prop,Hid (Ip=fun L x W=>(Touch (Mine g vs) wc W∧WkM base g (t.wh s f (L 7) (L 10) (L 13)) vs W)):=⟨_,rfl⟩;refine region_lit3 (by kernel_rfl) (by kernel_rfl) (by kernel_rfl) [[],[],[],[],[3],[0],[0,5],[0,5,6],[1],[1,8],[1,3,4,8,9],[2],[2,11],[2,11,12]] (by kernel_rfl) [some 61,some 62,some 63,some 64,some 65,some 66,some 67,none,some 68,some 69,none,some 70,some 71,none] (by kernel_rfl) [[0,5,6,7],[1,8,9,10],[2,11,12,13],[3,4,10],[4,10],[5,6,7],[6,7],[7],[8,9,10],[9,10],[10],[11,12,13],[12,13],[13]] (by kernel_rfl) [[],[],[],[],[],[],[],[],[],[],[],[],[],[]] [[],[],[],[],[3],[0],[5],[6],[1],[8],[4,9],[2],[11],[12]] (by kernel_rfl)
      Ip
      Vp
      (fun j W W'=>match j with
       |7=>True
       |10=>True
       |13=>True
       |_=>Below W.heap.size W W')
      [fun x=>⟨(fZm 6 (.pointer (some ⟨g,0,none⟩)) (fEm 55)).toArray,[]⟩,fun x=>⟨(fZm 6 (.pointer (some ⟨g,0,none⟩)) (fEm 56)).toArray,[]⟩,fun x=>⟨(fZm 7 (.pointer (some ⟨sr,so+s*10,none⟩)) (fEm 56)).toArray,[]⟩,fun x=>⟨(fZm 5 (.pointer (some ⟨w.heap.size,0,none⟩)) (fEm 59)).toArray,[]⟩,fun x=>⟨(fZm 64 (x 3) (fEm 1)).toArray,[]⟩,fun x=>⟨(fZm 61 (x 0) (fEm 5)).toArray,[]⟩,fun x=>⟨(fZm 66 (x 5) (fEm 1)).toArray,[]⟩,fun x=>⟨(fZm 67 (x 6) []).toArray,[]⟩,fun x=>⟨(fZm 62 (x 1) (fEm 6)).toArray,[]⟩,fun x=>⟨(fZm 68 (x 8) (fEm 1)).toArray,[]⟩,fun x=>⟨(fZm 65 (x 4) (fZm 3 (x 9) [])).toArray,[]⟩,fun x=>⟨(fZm 63 (x 2) (fEm 7)).toArray,[]⟩,fun x=>⟨(fZm 70 (x 11) (fEm 1)).toArray,[]⟩,fun x=>⟨(fZm 71 (x 12) []).toArray,[]⟩]
      ?hF ?mono ?h0 ?step [0,1,2,3,4,5,6,7,8,9,10,11,12,13] (by kernel_rfl) ?fin
     case hF=>
      iterate 14 refine⟨fun x=>⟨by kernel_rfl,by kernel_rfl⟩,?_⟩
      trivial
     case mono=>
      intro i j hi hj hne hna hnk v W W' hE hv;rw[HV.out]at hv⊢;simp only[List.length_cons,List.length_nil]at hi hj
      match i,hi with
      |0,_|1,_|2,_|3,_|4,_|5,_|6,_|7,_|8,_|9,_|10,_|11,_|12,_|13,_=>exact hv
      |m+14,h=>exact absurd h (by omega)
     case h0=>intro x;exact toI HIp ⟨(Touch.refl _ _).drew,M2.out.go (Below.refl _ _).drew⟩
     case step=>
      refine⟨?_,?_,?_,?_,?_,?_,?_,?_,?_,?_,?_,?_,?_,?_,trivial⟩
      all_goals
       intro x W L hI hL hV;replace hI:(Touch (Mine g vs) wc W∧WkM base g (t.wh s f (L 7) (L 10) (L 13)) vs W):=ofI HIp hI;rw[HV.out]at hV;simp only[AllV,and_true]at hV;dsimp only[fZm,fEm,List.reduceReplicate,List.cons_append,List.nil_append]
      iterate 4
       ·clear hV;have HI:=Lib.hid hI;clear hI;go_wp2_with fail;refine step3_done rfl ?_ ?_ ?_
        ·exact(toI HIp HI.out)
        ·exact(Below.refl _ _)
        ·exact(toV HV rfl)
      ·have u3:=hV;clear hV;simp only[u3];clear u3;have hx:=Xq.out.touch hI.1 (fun hm=>by have:=(HM.out.mine _ hm).2;omega);have z4:W.cell? ⟨w.heap.size,4,none⟩=some (.string f.text):=hx.cell 4;have HI:=Lib.hid hI;clear hI hx;go_wp2_with fail;refine step3_done rfl ?_ ?_ ?_
       ·exact(toI HIp HI.out)
       ·exact(Below.refl _ _)
       ·exact(toV HV rfl)
      ·have u0:=hV;clear hV;simp only[u0];clear u0;have HI:=Lib.hid hI;clear hI;go_wp2_with fail;refine step3_done rfl ?_ ?_ ?_
       ·exact(toI HIp HI.out)
       ·exact(Below.refl _ _)
       ·exact(toV HV rfl)
      ·have u5:=hV;clear hV;simp only[u5];clear u5;have HI:=Lib.hid hI;clear hI;go_wp2_with fail;refine step3_done rfl ?_ ?_ ?_
       ·exact(toI HIp HI.out)
       ·exact(Below.refl _ _)
       ·exact(toV HV rfl)
      ·have u6:=hV;clear hV;simp only[u6];clear u6;have hM:=hI.2;rw[hL.2 7 (by simp)]at hM;have HMh:=Lib.hid hM;have HI:=Lib.hid hI;obtain⟨v3,z3⟩:∃v,W.cell? ⟨g,3,none⟩=some v:=⟨_,hM.box.cell 3⟩;have zf:=hM.box.frozen 3;have hgW:=hM.lt;clear hI hM;go_wp2_with fail;have ht:=touch1 (w:=W) (g:=g) (i:=3) (.bool true);refine step3_done (v:=undef) rfl ?_ ?_ ?_
       ·exact toI HIp ⟨HI.out.1.trans (ht.mono fun z _ hz=>.inl hz),wh_ready _ _ HMh.out⟩
       ·exact trivial
       ·exact toV HV rfl
      ·have u1:=hV;clear hV;simp only[u1];clear u1;have HI:=Lib.hid hI;clear hI;go_wp2_with fail;refine step3_done rfl ?_ ?_ ?_
       ·exact(toI HIp HI.out)
       ·exact(Below.refl _ _)
       ·exact(toV HV rfl)
      ·have u8:=hV;clear hV;simp only[u8];clear u8;have HI:=Lib.hid hI;clear hI;go_wp2_with fail;refine step3_done rfl ?_ ?_ ?_
       ·exact(toI HIp HI.out)
       ·exact(Below.refl _ _)
       ·exact(toV HV rfl)
      ·obtain⟨u4,u9⟩:=hV;simp only[u4,u9];clear u4 u9;have hM:=hI.2;rw[hL.2 10 (by simp)]at hM;have HMh:=Lib.hid hM;have HI:=Lib.hid hI;obtain⟨v3,z3⟩:∃v,W.cell? ⟨g,4,none⟩=some v:=⟨_,hM.box.cell 4⟩;have zf:=hM.box.frozen 4;have hgW:=hM.lt;clear hI hM;go_wp2_with fail;have ht:=touch1 (w:=W) (g:=g) (i:=4) (.string f.text);refine step3_done (v:=undef) rfl ?_ ?_ ?_
       ·exact toI HIp ⟨HI.out.1.trans (ht.mono fun z _ hz=>.inl hz),wh_text _ _ Hf.out.2.2.2 HMh.out⟩
       ·exact trivial
       ·exact toV HV rfl
      ·have u2:=hV;clear hV;simp only[u2];clear u2;have HI:=Lib.hid hI;clear hI;go_wp2_with fail;refine step3_done rfl ?_ ?_ ?_
       ·exact(toI HIp HI.out)
       ·exact(Below.refl _ _)
       ·exact(toV HV rfl)
      ·have u11:=hV;clear hV;simp only[u11];clear u11;have HI:=Lib.hid hI;clear hI;go_wp2_with fail;refine step3_done rfl ?_ ?_ ?_
       ·exact(toI HIp HI.out)
       ·exact(Below.refl _ _)
       ·exact(toV HV rfl)
      ·have u12:=hV;clear hV;simp only[u12];clear u12;have hM:=hI.2;rw[hL.2 13 (by simp)]at hM;have HMh:=Lib.hid hM;have HI:=Lib.hid hI;obtain⟨-,z3,zf,hgW,-⟩:=hM.sideAt (s:=s) HSL.out HV0.out;have zf1:=zf 1 (by omega);clear hI hM zf;go_wp2_with fail;have ht:=touch1 (w:=W) (g:=sr) (i:=so+s*10+1) (.bool true);refine step3_done (v:=undef) rfl ?_ ?_ ?_
       ·exact toI HIp ⟨HI.out.1.trans (ht.mono fun z _ hz=>by rw[hz];exact hrM.out),wh_joined _ _ HSL.out HV0.out HMh.out⟩
       ·exact trivial
       ·exact toV HV rfl
     case fin=>
      intro x W L hL hI hV;replace hI:(Touch (Mine g vs) wc W∧WkM base g (t.wh s f (L 7) (L 10) (L 13)) vs W):=ofI HIp hI;rw[HV.out]at hV;simp only[AllV,and_true]at hV;obtain⟨u0,u1,u2,u3,u4,u5,u6,u7,u8,u9,u10,u11,u12,u13⟩:=hV;simp only[getsD,List.getD_cons_succ,List.getD_cons_zero,List.length_cons,List.length_nil,List.range,List.range.loop,u0,u1,u2,u3,u4,u5,u6,u7,u8,u9,u10,u11,u12,u13,Act.put,List.setIfInBounds_toArray,List.set_cons_succ,List.set_cons_zero];clear u0 u1 u2 u3 u4 u5 u6 u7 u8 u9 u10 u11 u12 u13;have hM:=hI.2;rw[hL 7 (by simp),hL 10 (by simp),hL 13 (by simp)]at hM;have HW:Hid (WkS base g (t.told s f) vs w W):=by
       rw[hTo2.out];exact WkS.trans (Touch.of_below Bq.out) (fun z hz=>.inl hz) ⟨vs,hM,hI.1,fun z hz=>.inl hz⟩
      clear hI hL hM;go_wp2_with fail;go_end0;exact⟨rfl,HW.out⟩
    ·have hD:decide (f.kind=3∧s=0∧0<t.node.me∧J=false∧f.epoch=t.node.epoch)=false:=by simpa using hE
     rw[hD];have HW:Hid (WkS base g (t.told s f) vs w wc):=by
      rw[HTo.out,if_neg hE];exact HM.out.stayB Bq.out
     clear hE hD HTo;go_wp2_with fail;go_end0;exact⟨rfl,HW.out⟩
end Go.Proofs.YtkbfhgcjimfgkaaDoor
