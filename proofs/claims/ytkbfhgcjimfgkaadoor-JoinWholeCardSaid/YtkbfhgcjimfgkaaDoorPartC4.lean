/- The arguments of laws opened: strings, bools, raw things; and the tables of package unicode/utf8 off the row's list. (open_slice_fields, open_agg5: lines of the guide's, to be copied by its word.) -/
import Derived.Test.YtkbfhgcjimfgkaaDoorPartC3
import Derived.Test.YtkbfhgcjimfgkaaDoorRows
import Derived.Test.YtkbfhgcjimfgkaaDoorPartA0
import Derived.ProofKit
import Derived.OpenShut
import Derived.Test.YtkbfhgcjimfgkaaDoorPartA3
import Derived.Test.YtkbfhgcjimfgkaaDoorShelf
import Derived.Deep.Slices
import Derived.Deep.Fields
import Derived.ChangeSame
import Derived.Lib.SmallJoins
import Derived.Lib.LaidIn
import Derived.Lib.LaidU8T
import Derived.PinnedBridge
import Derived.Deep.DeepHandedRow
import Derived.Deep.DeepWitnessRowRef
import Derived.SizedLaws
set_option linter.unusedVariables false
set_option linter.unusedSimpArgs false
set_option linter.unusedSimpArgs false
namespace Go.Proofs.YtkbfhgcjimfgkaaDoor
open Go.RowKit
set_option maxRecDepth 100000 in
set_option maxHeartbeats 8000000 in
theorem joinWhole_walk (w:World)(hg:Good w)(s:Str)(hs:s.size≤maxLen)(x:Int)(hx:I64 x)(y:Int)(hy:I64 y):
 Calls Tryd.prog 8 #[.string s,.int .i64 x,.int .i64 y] w fun e w'=>e=.returned (.bool true)∧Below w.heap.size w w':=by
 have HLt:=Lib.hid (fun W=>letters_any s 20 W hs (by omega));rw[show((20:Nat):Int)=20 from rfl]at HLt;obtain⟨l1,l2,l3,l4⟩:=letters_ok s 20 (by omega);generalize letters s 20=c at*;have Hp:=Lib.hid (fun W=>picked_any x 5000 W hx (by omega) (by omega));have Hq:=Lib.hid (fun W=>picked_any y 9 W hy (by omega) (by omega));have r1:=pk_range x 5000 (by omega);have r2:=pk_range y 9 (by omega);clear hx hy;generalize pk x 5000=k at*;generalize pk y 9=p at*;obtain⟨tb,htb⟩:∃tb,tb=w.heap.size:=⟨_,rfl⟩;have HBo:=Lib.hid (fun W (hW:Good W)(hR:RdS (· <W.heap.size) W ([-1,0]:List Int) (some ⟨tb,0,none⟩) 2 2)=>begin_ok [-1,0] _ 2 2 0 1 c W hW hR (by unfold I64;omega) (by unfold strMax;omega) (j_beginE l1));rw[j_begin]at HBo;have Hg:=Lib.hid hg;have hgz:=hg.size;have Hl:=Lib.hid l1;have HNG:=Lib.hid (j_good l1);obtain⟨k0,k1⟩:=r1;obtain⟨p0,p1⟩:=r2;clear hg hs l1 l2 l3 l4;go_enter Tryd.func8,Tryd.ntmps8;go_wp2_with fail;refine abs_run (fun W=>Below w.heap.size w W∧Blk w.heap.size (.cells #[.int .i64 (-1),.int .i64 0] 3 (0,0)) W) ⟨(Below.refl _ _).alloc (Nat.le_refl _) _,Blk.new w _⟩ ?_;rintro w0 ⟨b0,x0⟩;rw[←htb]at x0⊢;clear htb;have B0:=Lib.hid b0;have X0:=Lib.hid x0;have hx0:=x0.lt;clear b0 x0;refine(HLt.out _).mono ?_;rintro e w1 ⟨rfl,b1⟩;have B1:=Lib.hid (up B0.out b1);have XT1:=Lib.hid (two_tree (X0.out.go b1));clear b1 HLt X0;go_wp2_with fail;refine(HBo.out w1 (Hg.out.go B1.out) XT1.out).mono ?_;rintro e w2 ⟨v,rfl,hv,b2⟩;obtain⟨a0,c0,a1,c1,a2,c2,a3,c3,a4,c4,rfl,hf,r0,r1,r2,r3,r5⟩:=hv.open;have hlt:∀z,Fresh w1.heap.size w2 z→z<w2.heap.size∧w2.heap[z]?=w2.heap[z]?:=fun z hz=>⟨hz.2,rfl⟩;have HR2:=Lib.hid (And.intro (r0.mono hlt) (And.intro (r1.mono hlt) (And.intro (r2.mono hlt) hf)));have B2:=Lib.hid (up B1.out b2);have XT2:=Lib.hid (XT1.out.go b2);clear b2 hv r0 r1 r2 r3 r5 hf hlt HBo B1 XT1;go_upto_region 4 with fail;refine abs_w (fun W=>Below w2.heap.size w2 W∧Blk w2.heap.size (.cells #[.int .i64 0,.int .i64 4096,.int .i64 0,.bool true,.string c,.slice a0 1 c0,.slice a1 0 c1,.slice a2 0 c2,.slice a3 0 c3,.slice a4 0 c4] 35 (0,0)) W) ⟨(Below.refl _ _).alloc (Nat.le_refl _) _,Blk.new w2 _⟩ ?_;rintro w3 ⟨b3,x3⟩;have B3:=Lib.hid (up B2.out b3);have X3:=Lib.hid x3;have HR3:=Lib.hid (And.intro (HR2.out.1.go b3) (And.intro (HR2.out.2.1.go b3) (And.intro (HR2.out.2.2.1.go b3) HR2.out.2.2.2)));have XT3:=Lib.hid (XT2.out.go b3);obtain⟨q0,q1,q2,q3,q4,q5,q6,q7,q8,q9⟩:=blk10_cells x3;have hx3:=x3.lt;clear b3 x3 HR2 XT2 B2;go_wp2_with fail;refine(Hp.out _).mono ?_;rintro e w4 ⟨rfl,rfl⟩;go_upto_region 6 with fail;obtain⟨g12,hg12⟩:∃g12,g12=w3.heap.size:=⟨_,rfl⟩;refine abs_w (fun W=>Below w3.heap.size w3 W∧Blk w3.heap.size (.cells #[.int .i64 0,.int .i64 4096,.int .i64 0,.bool true,.string c,.slice a0 1 c0,.slice a1 0 c1,.slice a2 0 c2] 31 (0,0)) W) ⟨(Below.refl _ _).alloc (Nat.le_refl _) _,Blk.new w3 _⟩ ?_;rintro w7 ⟨b7,x7⟩;have hne:∀z,z<w3.heap.size→(z<w7.heap.size∧z≠g12)∧w7.heap[z]?=w3.heap[z]?:=fun z hz=>⟨⟨Nat.lt_of_lt_of_le hz b7.size,by omega⟩,b7.block z hz⟩;rw[←hg12]at x7⊢;have XN7:Hid (NdBox g12 (jNd c (newSd 1)) w7):=⟨a0,c0,a1,c1,a2,c2,x7,HR3.out.1.mono hne,HR3.out.2.1.mono hne,HR3.out.2.2.1.mono hne,HR3.out.2.2.2⟩;have B7:=Lib.hid (up B3.out b7);have XT7:=Lib.hid (XT3.out.mono (fun z hz=>hne z hz));have hgw:w.heap.size≤g12:=by have:=B3.out.size;omega
 have hg7:=x7.lt;clear b7 x7 hne HR3 B3 hg12 X3 XT3 q0 q1 q2 q3 q4 q5 q6 q7 q8 q9 hx3 hx0;go_wp2_with fail;go_loopw [11,13] (fun vk vi wr=>∃(j:Nat)(K:Int)(sd:Sd),j≤2∧vk=.int .i64 K∧vi=.int .i64 (j:Int)∧NdBox g12 (jNd c sd) wr∧Touch (fun z=>z=g12) w7 wr∧sd.peer=1∧sd.l.epoch<K∧NG [-1,0] (2+3*(j:Int)) (jNd c sd)∧1+(j:Int)≤K∧K≤6000+10*(j:Int)∧(0<j→sd=jSd c (K-(1+p))∧(j:Int)≤K-(1+p))) (fun _ vi _=>2-(intOf vi).toNat)
 case atStart=>exact⟨0,1+k,newSd 1,by omega,rfl,rfl,XN7.out,Touch.refl _ _,rfl,by show(0:Int)<1+k;omega,HNG.out,by omega,by omega,fun h=>absurd h (by omega)⟩
 case round=>
  obtain⟨j,K,sd,hj,rfl,rfl,hx,ht,hpe,hle,hng,hK1,hK2,hjs⟩:=hrel;obtain⟨a,c1,ua,uc,ma,mc,hxb0,hs0,hs1,hs2,hfit⟩:=hx;have hxb:Blk g12 (.cells #[.int .i64 0,.int .i64 4096,.int .i64 0,.bool true,.string c,.slice a 1 c1,.slice ua 0 uc,.slice ma 0 mc] 31 (0,0)) wr:=hxb0;have hA:∀z,(z<wr.heap.size∧z≠g12)→z<wr.heap.size∧wr.heap[z]?=wr.heap[z]?:=fun z hz=>⟨hz.1,rfl⟩;have HTr:Hid (RdS (· <wr.heap.size) wr ([-1,0]:List Int) (some ⟨tb,0,none⟩) 2 2):=XT7.out.mono fun z hz=>⟨Nat.lt_of_lt_of_le hz.1 ht.size,ht.block z hz.1 hz.2⟩;have HGr:Hid (Good wr):=(Hg.out.go B7.out).keep ht.size fun b hb=>ht.block b (by have:=(Hg.out.go B7.out).size;omega) (by omega);have TR:=Lib.hid ht;have XB:=Lib.hid hxb;by_cases hlt:j<2
  ·have hlt':(j:Int)<2:=by omega
   have HCall:=Lib.hid (join_round (some ⟨tb,0,none⟩) c sd K _ wr HGr.out HTr.out Hl.out a ua ma c1 uc mc (hs0.mono hA) (hs1.mono hA) (hs2.mono hA) hfit hng (by omega) (by omega) hpe (by omega) (by omega) hle);have HNs:=Lib.hid (j_step hng Hl.out hpe (by omega) (by omega) hle (by omega) (by omega));have hgl:=hxb.lt;obtain⟨q0,q1,q2,q3,q4,q5,q6,q7⟩:=blk8_cells hxb;clear hxb hxb0 hs0 hs1 hs2 hfit hA ht hng hjs hpe hle HTr HGr XN7 HNG XT7;go_wp2_with fail;refine HCall.out.mono ?_;rintro e W ⟨sb,so,d0,a1,d1,a2,d2,pb,po,d3,a4,d4,fa,fc,rfl,hb,hf,n0,n1,n2,hsb,hpb,hd1,hd2,hd3,hd4,hsc,hpc⟩;have T1:=Lib.hid (TR.out.trans (Touch.of_below hb));have XB1:=Lib.hid (XB.out.go hb);have hbz:=hb.size;have HR1:=Lib.hid (And.intro n0 (And.intro n1 (And.intro n2 hf)));have HPC:=Lib.hid (And.intro hsc hpc);clear hb hf n0 n1 n2 hsc hpc q0 q1 q2 q3 q4 q5 q6 q7 HCall;go_upto_region 10 with fail;obtain⟨g14,hg14⟩:∃g14,g14=W.heap.size:=⟨_,rfl⟩;refine abs_w (fun W'=>Below W.heap.size W W'∧Blk W.heap.size (.cells #[.int .i64 0,.int .i64 4096,.int .i64 0,.bool true,.string c,.slice (some ⟨sb,so,none⟩) 1 d0,.slice a1 0 d1,.slice a2 0 d2,.slice (some ⟨pb,po,none⟩) 2 d3,.slice a4 0 d4] 35 (0,0)) W') ⟨(Below.refl _ _).alloc (Nat.le_refl _) _,Blk.new W _⟩ ?_;rintro W2 ⟨b2,x2⟩;rw[←hg14]at x2⊢;clear hg14;have T2:=Lib.hid (T1.out.trans (Touch.of_below b2));have XB2:=Lib.hid (XB1.out.go b2);have HR2:=Lib.hid (fun z (hz:Fresh wr.heap.size W z)=>(⟨⟨hz.1,hz.2⟩,b2.block z hz.2⟩:Fresh wr.heap.size W z∧W2.heap[z]?=W.heap[z]?));have HN2:=Lib.hid (And.intro (HR1.out.1.mono HR2.out) (And.intro (HR1.out.2.1.mono HR2.out) (And.intro (HR1.out.2.2.1.mono HR2.out) HR1.out.2.2.2)));have X2:=Lib.hid x2;have hb2z:=b2.size;have u1:W2.cell? ⟨sb,so+1,none⟩=some (.bool true):=(b2.cell (p:=⟨sb,so+1,none⟩) hsb).trans HPC.out.1;have v0:W2.cell? ⟨pb,po+10+1,none⟩=some (.int .i64 K):=(b2.cell (p:=⟨pb,po+10+1,none⟩) hpb).trans (HPC.out.2 0 _ rfl);have v1:W2.cell? ⟨pb,po+10+1+1,none⟩=some (.int .i64 1):=(b2.cell (p:=⟨pb,po+10+1+1,none⟩) hpb).trans (HPC.out.2 1 _ rfl);have v2:W2.cell? ⟨pb,po+10+1+2,none⟩=some (.bool false):=(b2.cell (p:=⟨pb,po+10+1+2,none⟩) hpb).trans (HPC.out.2 2 _ rfl);have v3:W2.cell? ⟨pb,po+10+1+3,none⟩=some (.int .i64 1):=(b2.cell (p:=⟨pb,po+10+1+3,none⟩) hpb).trans (HPC.out.2 3 _ rfl);have v4:W2.cell? ⟨pb,po+10+1+4,none⟩=some (.int .i64 3):=(b2.cell (p:=⟨pb,po+10+1+4,none⟩) hpb).trans (HPC.out.2 4 _ rfl);have v5:W2.cell? ⟨pb,po+10+1+5,none⟩=some (.int .i64 0):=(b2.cell (p:=⟨pb,po+10+1+5,none⟩) hpb).trans (HPC.out.2 5 _ rfl);have v6:W2.cell? ⟨pb,po+10+1+6,none⟩=some (.int .i64 K):=(b2.cell (p:=⟨pb,po+10+1+6,none⟩) hpb).trans (HPC.out.2 6 _ rfl);have v7:W2.cell? ⟨pb,po+10+1+7,none⟩=some (.slice fa 0 fc):=(b2.cell (p:=⟨pb,po+10+1+7,none⟩) hpb).trans (HPC.out.2 7 _ rfl);have v8:W2.cell? ⟨pb,po+10+1+8,none⟩=some (.string c):=(b2.cell (p:=⟨pb,po+10+1+8,none⟩) hpb).trans (HPC.out.2 8 _ rfl);obtain⟨q0,q1,q2,q3,q4,q5,q6,q7,q8,q9⟩:=blk10_cells x2;have hg14l:=x2.lt;have hd2i:(d0:Int)≤9223372036854775807:=by unfold maxLen at hd2;omega
   have hd4i:(d3:Int)≤9223372036854775807:=by unfold maxLen at hd4;omega
   have hsb2:sb<W2.heap.size:=by omega
   have hpb2:pb<W2.heap.size:=by omega
   have hgg:g12<W.heap.size:=by omega
   clear b2 x2 HPC HR1 XB1 T1;go_upto_region 13 with fail;obtain⟨g16,hg16⟩:∃g16,g16=W2.heap.size:=⟨_,rfl⟩;refine abs_w (fun W'=>Below W2.heap.size W2 W'∧Blk W2.heap.size (.cells #[.int .i64 K,.int .i64 1,.bool false,.int .i64 1,.int .i64 3,.int .i64 0,.int .i64 K,.slice fa 0 fc,.string c] 46 (0,0)) W') ⟨(Below.refl _ _).alloc (Nat.le_refl _) _,Blk.new W2 _⟩ ?_;rintro W3 ⟨b3,x3⟩;rw[←hg16]at x3⊢;clear hg16;have T3:=Lib.hid (T2.out.trans (Touch.of_below b3));have XB3:=Lib.hid (XB2.out.go b3);have HR3:=Lib.hid (fun z (hz:Fresh wr.heap.size W z)=>(⟨⟨hz.1,hz.2⟩,b3.block z (by have:=hz.2;omega)⟩:Fresh wr.heap.size W z∧W3.heap[z]?=W2.heap[z]?));have HN3:=Lib.hid (And.intro (HN2.out.1.mono HR3.out) (And.intro (HN2.out.2.1.mono HR3.out) (And.intro (HN2.out.2.2.1.mono HR3.out) HN2.out.2.2.2)));have hb3z:=b3.size;have X3:=Lib.hid (X2.out.go b3);obtain⟨k0',k1',k2',k3',k4',k5',k6',k7',k8'⟩:=blk9_cells x3;have hg16l:=x3.lt;clear q0 q1 q2 q3 q4 q5 q6 q7 q8 q9 v0 v1 v2 v3 v4 v5 v6 v7 v8 u1;obtain⟨q0,q1,q2,q3,q4,q5,q6,q7,q8,q9⟩:=blk10_cells X3.out;have hgl3:=XB3.out.lt;have qf:=XB3.out.frozen;obtain⟨y0,y1,y2,y3,y4,y5,y6,y7⟩:=blk8_cells XB3.out;clear b3 x3 HN2 XB2 T2;go_upto_region 16 with fail;have HT8:=touch8 W3 g12 (.int .i64 0) (.int .i64 4096) (.int .i64 0) (.bool true) (.string c) (.slice (some ⟨sb,so,none⟩) 1 d0) (.slice a1 0 d1) (.slice a2 0 d2);have hm:∀z,Fresh wr.heap.size W z→(z<(set8w W3 g12 (.int .i64 0) (.int .i64 4096) (.int .i64 0) (.bool true) (.string c) (.slice (some ⟨sb,so,none⟩) 1 d0) (.slice a1 0 d1) (.slice a2 0 d2)).heap.size∧z≠g12)∧(set8w W3 g12 (.int .i64 0) (.int .i64 4096) (.int .i64 0) (.bool true) (.string c) (.slice (some ⟨sb,so,none⟩) 1 d0) (.slice a1 0 d1) (.slice a2 0 d2)).heap[z]?=W3.heap[z]?:=fun z hz=>by
    have h1:=hz.1;have h2:=hz.2;have h3:=HT8.size;exact⟨⟨by omega,by omega⟩,HT8.block z (by omega) (by omega)⟩
   refine abs_w (fun W'=>NdBox g12 (jNd c (jSd c K)) W'∧Touch (fun z=>z=g12) w7 W') ⟨⟨some ⟨sb,so,none⟩,d0,a1,d1,a2,d2,blk_set8 XB3.out _ _ _ _ _ _ _ _,HN3.out.1.mono hm,HN3.out.2.1.mono hm,HN3.out.2.2.1.mono hm,HN3.out.2.2.2⟩,T3.out.trans HT8⟩ ?_;rintro W4 ⟨x4,t4⟩;have X4:=Lib.hid x4;have T4:=Lib.hid t4;clear x4 t4 hm HT8 q0 q1 q2 q3 q4 q5 q6 q7 q8 q9 y0 y1 y2 y3 y4 y5 y6 y7 qf k0' k1' k2' k3' k4' k5' k6' k7' k8';go_wp2_with fail;refine(Hq.out _).mono ?_;rintro e W5 ⟨rfl,rfl⟩;go_wp2_with fail;go_roundw
   case rel=>exact⟨j+1,K+(1+p),jSd c K,by omega,rfl,by push_cast;rfl,X4.out,T4.out,rfl,by show K<K+(1+p);omega,by have h:=HNs.out;rw[show(2:Int)+3*((j+1:Nat):Int)=2+3*(j:Int)+3 from by push_cast;omega];exact h,by push_cast;omega,by push_cast;omega,fun _=>⟨by rw[show K+(1+p)-(1+p)=K from by omega],by push_cast;omega⟩⟩
   case measure=>simp[intOf];omega
  ·have hj2:j=2:=by omega
   subst hj2;have hlt':¬((2:Int)<2):=by omega
   obtain⟨rfl,hKp⟩:=hjs (by omega);have HLa:=Lib.hid (fun W (hW:Below wr.heap.size wr W)=>join_late (some ⟨tb,0,none⟩) c (K-(1+p)) (K-1-p-1) _ W (HGr.out.go hW) (HTr.out.go hW) a ua ma c1 uc mc ((hs0.mono hA).go hW) ((hs1.mono hA).go hW) ((hs2.mono hA).go hW) hfit hng (by omega) (by omega) (by omega) (by omega) (by omega));have HBw:=Lib.hid (B7.out.trans (ht.toBelow (by have:=B7.out.size;omega) (fun z hz=>by omega)));clear hxb hxb0 hs0 hs1 hs2 hfit hA ht hng hjs hpe hle HTr HGr XN7 HNG XT7 TR hj hlt;go_upto_region 17 with fail;obtain⟨Vp,HV⟩:∃Vp:Nat→Value→World→Prop,Hid (Vp=fun i v W=>match i with
    |0=>v=.slice (some ⟨tb,0,none⟩) 2 2
    |1=>v=.agg #[.int .i64 0,.int .i64 4096,.int .i64 0,.bool true,.string c,.slice a 1 c1,.slice ua 0 uc,.slice ma 0 mc]
    |2=>v=.int .i64 K
    |3=>v=.int .i64 (K-1)
    |4=>v=.int .i64 y
    |5=>v=.int .i64 p
    |6=>v=.int .i64 (K-1-p)
    |7=>v=.int .i64 (K-1-p-1)
    |8=>v=.agg #[.int .i64 (K-1-p-1),.int .i64 0,.bool true,.int .i64 0,.int .i64 0,.int .i64 0,.int .i64 0,.slice none 0 0,.string ⟨#[]⟩]
    |9=>∃y,v=y
    |10=>∃y,v=y
    |11=>∃y,v=y
    |12=>v=.int .i64 12
    |13=>∃y,v=y
    |14=>v=undef
    |_=>v=.int .i64 12):=⟨_,rfl⟩
   obtain⟨Ip,HIp⟩:∃Ip:(Nat→Bool)→(Nat→Value)→World→Prop,Hid (Ip=fun L x W=>(Below wr.heap.size wr W∧∃(dz:Nat),(L 9=true→x 9=.tuple #[.agg zeroTn,.int .i64 12]∧RdS (fun z=>wr.heap.size≤z∧z<W.heap.size∧(L 13=true→x 13≠.pointer (some ⟨z,0,none⟩))) W ([]:List Int) none ([]:List Int).length 0)∧(L 13=true→∃b,x 13=.pointer (some ⟨b,0,none⟩)∧wr.heap.size≤b∧Blk b (.cells (bif L 14 then #[.int .i64 0,.int .i64 0,.int .i64 0,.bool false,.string ⟨#[]⟩,.slice none 0 0,.slice none 0 0,.slice none 0 0,.slice none 0 0,.slice none 0 0]else #[.int .i64 0,.int .i64 0,.int .i64 0,.bool false,.string ⟨#[]⟩,.slice none 0 0,.slice none 0 0,.slice none 0 0,.slice none 0 0,.slice none 0 0]) 35 (0,0)) W)∧(L 10=true→x 10=x 9)∧(L 11=true→x 11=.agg #[.int .i64 0,.int .i64 0,.int .i64 0,.bool false,.string ⟨#[]⟩,.slice none 0 0,.slice none 0 0,.slice none 0 0,.slice none 0 0,.slice none 0 0]))):=⟨_,rfl⟩;refine region_lit3 (by kernel_rfl) (by kernel_rfl) (by kernel_rfl) [[],[],[],[2],[],[4],[2,3,4,5],[2,3,4,5,6],[2,3,4,5,6,7],[0,1,2,3,4,5,6,7,8],[0,1,2,3,4,5,6,7,8,9],[0,1,2,3,4,5,6,7,8,9,10],[0,1,2,3,4,5,6,7,8,9,10],[],[0,1,2,3,4,5,6,7,8,9,10,11,13],[0,1,2,3,4,5,6,7,8,9,10,12]] (by kernel_rfl) [some 103,some 104,some 105,some 106,some 107,some 108,some 109,some 110,some 111,some 112,some 102,some 113,some 114,some 17,none,some 18] (by kernel_rfl) [[0,9,10,11,12,14,15],[1,9,10,11,12,14,15],[2,3,6,7,8,9,10,11,12,14,15],[3,6,7,8,9,10,11,12,14,15],[4,5,6,7,8,9,10,11,12,14,15],[5,6,7,8,9,10,11,12,14,15],[6,7,8,9,10,11,12,14,15],[7,8,9,10,11,12,14,15],[8,9,10,11,12,14,15],[9,10,11,12,14,15],[10,11,12,14,15],[11,14],[12,15],[13,14],[14],[15]] (by kernel_rfl) [[],[],[],[],[],[],[],[],[],[],[],[],[],[],[],[]] [[],[],[],[2],[],[4],[3,5],[6],[7],[0,1,8],[9],[9,10],[9,10],[],[11,13],[12]] (by kernel_rfl)
    Ip
    Vp
    (fun j W W'=>match j with
     |14=>True
     |_=>Below W.heap.size W W')
    [fun x=>⟨(fZm 7 (.slice (some ⟨tb,0,none⟩) 2 2) (fEm 96)).toArray,[]⟩,fun x=>⟨(fZm 12 (.pointer (some ⟨g12,0,none⟩)) (fEm 92)).toArray,[]⟩,fun x=>⟨(fZm 11 (.int .i64 K) (fEm 94)).toArray,[]⟩,fun x=>⟨(fZm 105 (x 2) (fEm 1)).toArray,[]⟩,fun x=>⟨(fZm 2 (.int .i64 y) (fEm 105)).toArray,[]⟩,fun x=>⟨(fZm 107 (x 4) (fEm 1)).toArray,[]⟩,fun x=>⟨(fZm 106 (x 3) (fZm 1 (x 5) (fEm 1))).toArray,[]⟩,fun x=>⟨(fZm 109 (x 6) (fEm 1)).toArray,[]⟩,fun x=>⟨(fZm 110 (x 7) (fEm 1)).toArray,[]⟩,fun x=>⟨(fZm 103 (x 0) (fZm 0 (x 1) (fZm 6 (x 8) (fEm 1)))).toArray,[]⟩,fun x=>⟨(fZm 112 (x 9) []).toArray,[]⟩,fun x=>⟨(fZm 102 (x 10) (fEm 11)).toArray,[]⟩,fun x=>⟨(fZm 102 (x 10) (fEm 12)).toArray,[]⟩,fun x=>⟨(fEm 18).toArray,[]⟩,fun x=>⟨(fZm 17 (x 13) (fZm 95 (x 11) [])).toArray,[]⟩,fun x=>⟨(fZm 114 (x 12) []).toArray,[]⟩]
    ?hF ?mono ?h0 ?step [0,1,2,3,4,5,6,7,8,9,10,11,12,13,14,15] (by kernel_rfl) ?fin
   case hF=>
    iterate 16 refine⟨fun x=>⟨by kernel_rfl,by kernel_rfl⟩,?_⟩
    trivial
   case mono=>
    intro i j hi hj hne hna hnk v W W' hE hv;rw[HV.out]at hv⊢;simp only[List.length_cons,List.length_nil]at hi hj
    match i,hi with
    |0,_|1,_|2,_|3,_|4,_|5,_|6,_|7,_|8,_|12,_|14,_|15,_=>exact hv
    |9,_=>
     match j,hj with
     |9,_=>exact absurd rfl hne
     |0,_|1,_|2,_|3,_|4,_|5,_|6,_|7,_|8,_=>exact absurd (by simp) hna
     |10,_|11,_|12,_|13,_|14,_|15,_=>exact(id hv)
     |m+16,h=>exact absurd h (by omega)
    |10,_=>
     match j,hj with
     |10,_=>exact absurd rfl hne
     |0,_|1,_|2,_|3,_|4,_|5,_|6,_|7,_|8,_|9,_=>exact absurd (by simp) hna
     |11,_|12,_|13,_|14,_|15,_=>exact(id hv)
     |m+16,h=>exact absurd h (by omega)
    |11,_=>
     match j,hj with
     |11,_=>exact absurd rfl hne
     |0,_|1,_|2,_|3,_|4,_|5,_|6,_|7,_|8,_|9,_|10,_=>exact absurd (by simp) hna
     |12,_|13,_|14,_|15,_=>exact(id hv)
     |m+16,h=>exact absurd h (by omega)
    |13,_=>
     match j,hj with
     |13,_=>exact absurd rfl hne
     |0,_|1,_|2,_|3,_|4,_|5,_|6,_|7,_|8,_|9,_|10,_|11,_|12,_|14,_|15,_=>exact(id hv)
     |m+16,h=>exact absurd h (by omega)
    |m+16,h=>exact absurd h (by omega)
   case h0=>intro x;exact toI HIp ⟨(Below.refl _ _).drew,0,(fun h=>by cases h),(fun h=>by cases h),(fun h=>by cases h),(fun h=>by cases h)⟩
   case step=>
    refine⟨?_,?_,?_,?_,?_,?_,?_,?_,?_,?_,?_,?_,?_,?_,?_,?_,trivial⟩
    all_goals
     intro x W L hI hL hV;replace hI:(Below wr.heap.size wr W∧∃(dz:Nat),(L 9=true→x 9=.tuple #[.agg zeroTn,.int .i64 12]∧RdS (fun z=>wr.heap.size≤z∧z<W.heap.size∧(L 13=true→x 13≠.pointer (some ⟨z,0,none⟩))) W ([]:List Int) none ([]:List Int).length 0)∧(L 13=true→∃b,x 13=.pointer (some ⟨b,0,none⟩)∧wr.heap.size≤b∧Blk b (.cells (bif L 14 then #[.int .i64 0,.int .i64 0,.int .i64 0,.bool false,.string ⟨#[]⟩,.slice none 0 0,.slice none 0 0,.slice none 0 0,.slice none 0 0,.slice none 0 0]else #[.int .i64 0,.int .i64 0,.int .i64 0,.bool false,.string ⟨#[]⟩,.slice none 0 0,.slice none 0 0,.slice none 0 0,.slice none 0 0,.slice none 0 0]) 35 (0,0)) W)∧(L 10=true→x 10=x 9)∧(L 11=true→x 11=.agg #[.int .i64 0,.int .i64 0,.int .i64 0,.bool false,.string ⟨#[]⟩,.slice none 0 0,.slice none 0 0,.slice none 0 0,.slice none 0 0,.slice none 0 0])):=ofI HIp hI;rw[HV.out]at hV;simp only[AllV,and_true]at hV;dsimp only[fZm,fEm,List.reduceReplicate,List.cons_append,List.nil_append]
    ·clear hV;have HI:=Lib.hid hI;clear hI;go_wp2_with fail;refine step3_done rfl ?_ ?_ ?_
     ·exact(toI HIp HI.out)
     ·exact(Below.refl _ _)
     ·exact(toV HV rfl)
    ·clear hV;obtain⟨q0,q1,q2,q3,q4,q5,q6,q7⟩:=blk8_cells (XB.out.go hI.1);have HI:=Lib.hid hI;clear hI;go_wp2_with fail;refine step3_done rfl ?_ ?_ ?_
     ·exact(toI HIp HI.out)
     ·exact(Below.refl _ _)
     ·exact(toV HV rfl)
    ·clear hV;have HI:=Lib.hid hI;clear hI;go_wp2_with fail;refine step3_done rfl ?_ ?_ ?_
     ·exact(toI HIp HI.out)
     ·exact(Below.refl _ _)
     ·exact(toV HV rfl)
    ·have u2:=hV;clear hV;simp only[u2];clear u2;have HI:=Lib.hid hI;clear hI;go_wp2_with fail;refine step3_done rfl ?_ ?_ ?_
     ·exact(toI HIp HI.out)
     ·exact(Below.refl _ _)
     ·exact(toV HV rfl)
    ·clear hV;have HI:=Lib.hid hI;clear hI;go_wp2_with fail;refine step3_done rfl ?_ ?_ ?_
     ·exact(toI HIp HI.out)
     ·exact(Below.refl _ _)
     ·exact(toV HV rfl)
    ·have u4:=hV;clear hV;simp only[u4];clear u4;have HI:=Lib.hid hI;clear hI;go_wp2_with fail;refine(Hq.out W).mono ?_;rintro e W' ⟨rfl,rfl⟩;go_wp2_with fail;refine step3_done rfl ?_ ?_ ?_
     ·exact(toI HIp HI.out)
     ·exact(Below.refl _ _)
     ·exact(toV HV rfl)
    ·obtain⟨u3,u5⟩:=hV;simp only[u3,u5];clear u3 u5;have HI:=Lib.hid hI;clear hI;go_wp2_with fail;refine step3_done rfl ?_ ?_ ?_
     ·exact(toI HIp HI.out)
     ·exact(Below.refl _ _)
     ·exact(toV HV rfl)
    ·have u6:=hV;clear hV;simp only[u6];clear u6;have HI:=Lib.hid hI;clear hI;go_wp2_with fail;refine step3_done rfl ?_ ?_ ?_
     ·exact(toI HIp HI.out)
     ·exact(Below.refl _ _)
     ·exact(toV HV rfl)
    ·have u7:=hV;clear hV;simp only[u7];clear u7;have HI:=Lib.hid hI;clear hI;go_wp2_with fail;refine step3_done rfl ?_ ?_ ?_
     ·exact(toI HIp HI.out)
     ·exact(Below.refl _ _)
     ·exact(toV HV rfl)
    ·obtain⟨u0,u1,u8⟩:=hV;simp only[u0,u1,u8];clear u0 u1 u8;have HL:=Lib.hid hL;have HI:=Lib.hid hI;have hzW:=hI.1.size;clear hI hL;go_wp2_with fail;refine(HLa.out W HI.out.1).mono ?_;rintro e W' ⟨dz',rfl,r0,hb⟩;have HB:=Lib.hid hb;have R0:=Lib.hid r0;clear hb r0;go_wp2_with fail;obtain⟨hB0,_,c0,b0,m0,e_11⟩:=HI.out;refine step3_done rfl ?_ ?_ ?_
     ·exact toI HIp ⟨up hB0 HB.out,dz',(fun _=>⟨rfl,R0.out.mono fun z hz=>⟨⟨Nat.le_trans hzW hz.1,hz.2,(fun h e=>(by obtain⟨b,e1,h4,h5⟩:=b0 h;have e2:=e1.symm.trans e;injection e2 with e2;injection e2 with e2;injection e2 with e2;have:=h5.lt;have:=hz.1;omega))⟩,rfl⟩⟩),(fun h=>(by obtain⟨b,e,h1,h2⟩:=b0 h;have hs:=HL.out.2 14 (by simp);refine⟨b,e,h1,?_⟩;show Blk b (.cells (bif L 14 then _ else _) _ _) _;rw[hs]at h2⊢;exact h2.go HB.out)),(fun h=>absurd ((HL.out.2 10 (by simp)).symm.trans h) (by simp)),(fun h=>absurd ((HL.out.2 11 (by simp)).symm.trans h) (by simp))⟩
     ·exact HB.out
     ·exact toV HV ⟨_,rfl⟩
    ·obtain⟨y9,u9⟩:=hV;simp only[u9];have U9:=Lib.hid u9;clear u9;have HL:=Lib.hid hL;have HI:=Lib.hid hI;clear hI hL;go_wp2_with fail;obtain⟨hB0,dz,c0,b0,m0,e_11⟩:=HI.out;refine step3_done rfl ?_ ?_ ?_
     ·exact toI HIp ⟨hB0,dz,c0,b0,(fun _=>U9.out.symm),e_11⟩
     ·exact Below.refl _ _
     ·exact toV HV ⟨_,rfl⟩
    ·obtain⟨⟨y9,u9⟩,⟨y10,u10⟩⟩:=hV;simp only[u10];have U9:=Lib.hid u9;have U10:=Lib.hid u10;clear u9 u10;have HL:=Lib.hid hL;have HI:=Lib.hid hI;obtain⟨hB0,dz,c0,b0,m0,e_11⟩:=HI.out;have e9:y10=.tuple #[.agg zeroTn,.int .i64 12]:=U10.out.symm.trans ((m0 (hL.1 10 (by simp))).trans (c0 (hL.1 9 (by simp))).1);subst e9;have HX:=Lib.hid (And.intro hB0 (And.intro c0 (And.intro b0 (And.intro m0 (e_11)))));clear hI hL hB0 c0 b0 m0 e_11;go_wp2_with fail;obtain⟨hB0,c0,b0,m0,e_11⟩:=HX.out;refine step3_done rfl ?_ ?_ ?_
     ·exact toI HIp ⟨hB0,dz,c0,b0,m0,(fun _=>rfl)⟩
     ·exact Below.refl _ _
     ·exact toV HV ⟨_,rfl⟩
    ·obtain⟨⟨y9,u9⟩,⟨y10,u10⟩⟩:=hV;simp only[u10];have U9:=Lib.hid u9;have U10:=Lib.hid u10;clear u9 u10;have HL:=Lib.hid hL;have HI:=Lib.hid hI;obtain⟨hB0,dz,c0,b0,m0,e_11⟩:=HI.out;have e9:y10=.tuple #[.agg zeroTn,.int .i64 12]:=U10.out.symm.trans ((m0 (hL.1 10 (by simp))).trans (c0 (hL.1 9 (by simp))).1);subst e9;have HX:=Lib.hid (And.intro hB0 (And.intro c0 (And.intro b0 (And.intro m0 (e_11)))));clear hI hL hB0 c0 b0 m0 e_11;go_wp2_with fail;obtain⟨hB0,c0,b0,m0,e_11⟩:=HX.out;refine step3_done rfl ?_ ?_ ?_
     ·exact toI HIp ⟨hB0,dz,c0,b0,m0,e_11⟩
     ·exact Below.refl _ _
     ·exact toV HV rfl
    ·clear hV;have HL:=Lib.hid hL;have HI:=Lib.hid hI;have hzW:=hI.1.size;clear hI hL;go_wp2_with fail;have uW:∀o,Below W.heap.size W (W.alloc o):=fun o=>(Below.refl _ _).alloc (Nat.le_refl _) o;obtain⟨hB0,dz,c0,b0,m0,e_11⟩:=HI.out;refine step3_done rfl ?_ ?_ ?_
     ·exact toI HIp ⟨up hB0 (uW _),dz,(fun h=>⟨(c0 h).1,(c0 h).2.mono fun z hz=>⟨⟨hz.1,Nat.lt_of_lt_of_le hz.2.1 (uW _).size,(fun _ e=>(by injection e with e;injection e with e;injection e with e;have:=hz.2.1;omega))⟩,(uW _).block z hz.2.1⟩⟩),(fun _=>(by have hs:=HL.out.2 14 (by simp);refine⟨_,rfl,hzW,?_⟩;show Blk _ (.cells (bif L 14 then _ else _) _ _) _;rw[hs];exact Blk.new _ _)),m0,e_11⟩
     ·exact uW _
     ·exact toV HV ⟨_,rfl⟩
    ·obtain⟨⟨y11,u11⟩,⟨y13,u13⟩⟩:=hV;simp only[u13,u11];have U11:=Lib.hid u11;have U13:=Lib.hid u13;clear u11 u13;have HL:=Lib.hid hL;have HI:=Lib.hid hI;obtain⟨hB0,dz,c0,b0,m0,e_11⟩:=HI.out;obtain⟨b,e11,hb1,hb2⟩:=b0 (hL.1 13 (by simp));have f9:y11=.agg #[.int .i64 0,.int .i64 0,.int .i64 0,.bool false,.string ⟨#[]⟩,.slice none 0 0,.slice none 0 0,.slice none 0 0,.slice none 0 0,.slice none 0 0]:=U11.out.symm.trans (e_11 (hL.1 11 (by simp)));have f11:y13=.pointer (some ⟨b,0,none⟩):=U13.out.symm.trans e11;subst f9 f11;rw[hL.2 14 (by simp)]at hb2;have hb2':Blk b (.cells #[.int .i64 0,.int .i64 0,.int .i64 0,.bool false,.string ⟨#[]⟩,.slice none 0 0,.slice none 0 0,.slice none 0 0,.slice none 0 0,.slice none 0 0] 35 (0,0)) W:=hb2;have p0:W.cell? ⟨b,0,none⟩=some (.int .i64 0):=hb2'.cell 0;have p1:W.cell? ⟨b,1,none⟩=some (.int .i64 0):=hb2'.cell 1;have p2:W.cell? ⟨b,2,none⟩=some (.int .i64 0):=hb2'.cell 2;have p3:W.cell? ⟨b,3,none⟩=some (.bool false):=hb2'.cell 3;have p4:W.cell? ⟨b,4,none⟩=some (.string ⟨#[]⟩):=hb2'.cell 4;have p5:W.cell? ⟨b,5,none⟩=some (.slice none 0 0):=hb2'.cell 5;have p6:W.cell? ⟨b,6,none⟩=some (.slice none 0 0):=hb2'.cell 6;have p7:W.cell? ⟨b,7,none⟩=some (.slice none 0 0):=hb2'.cell 7;have p8:W.cell? ⟨b,8,none⟩=some (.slice none 0 0):=hb2'.cell 8;have p9:W.cell? ⟨b,9,none⟩=some (.slice none 0 0):=hb2'.cell 9;have pf:=hb2'.frozen;have hlt:=hb2'.lt;have HX:=Lib.hid (And.intro hB0 (And.intro c0 (And.intro b0 (And.intro m0 (e_11)))));have HZ:=Lib.hid (And.intro hb2' (And.intro e11 hb1));clear hI hL hB0 c0 b0 m0 e_11 hb2 hb2' e11 hb1;go_wp2_with fail;obtain⟨hB0,c0,b0,m0,e_11⟩:=HX.out;obtain⟨hb2,e11,hb1⟩:=HZ.out;have HT:=touch_setCells W b 0 [.int .i64 0,.int .i64 0,.int .i64 0,.bool false,.string ⟨#[]⟩,.slice none 0 0,.slice none 0 0,.slice none 0 0,.slice none 0 0,.slice none 0 0];have HC:=blk_setL b 35 [.int .i64 0,.int .i64 0,.int .i64 0,.bool false,.string ⟨#[]⟩,.slice none 0 0,.slice none 0 0,.slice none 0 0,.slice none 0 0,.slice none 0 0] [] [.int .i64 0,.int .i64 0,.int .i64 0,.bool false,.string ⟨#[]⟩,.slice none 0 0,.slice none 0 0,.slice none 0 0,.slice none 0 0,.slice none 0 0] W rfl hb2;refine step3_done (v:=undef) rfl ?_ ?_ ?_
     ·exact toI HIp ⟨hB0.trans (HT.toBelow hB0.size (fun z hz=>by omega)),dz,(fun h=>⟨(c0 h).1,(c0 h).2.mono fun z hz=>⟨⟨hz.1,Nat.lt_of_lt_of_le hz.2.1 HT.size,hz.2.2⟩,HT.block z hz.2.1 (fun e=>(hz.2.2) (HL.out.1 13 (by simp)) (by rw[e];exact e11))⟩⟩),(fun _=>⟨b,e11,hb1,HC⟩),m0,e_11⟩
     ·exact trivial
     ·exact toV HV rfl
    ·have u12:=hV;clear hV;simp only[u12];clear u12;have HI:=Lib.hid hI;clear hI;go_wp2_with fail;refine step3_done rfl ?_ ?_ ?_
     ·exact(toI HIp HI.out)
     ·exact(Below.refl _ _)
     ·exact(toV HV rfl)
   case fin=>
    intro x W L hL hI hV;replace hI:(Below wr.heap.size wr W∧∃(dz:Nat),(L 9=true→x 9=.tuple #[.agg zeroTn,.int .i64 12]∧RdS (fun z=>wr.heap.size≤z∧z<W.heap.size∧(L 13=true→x 13≠.pointer (some ⟨z,0,none⟩))) W ([]:List Int) none ([]:List Int).length 0)∧(L 13=true→∃b,x 13=.pointer (some ⟨b,0,none⟩)∧wr.heap.size≤b∧Blk b (.cells (bif L 14 then #[.int .i64 0,.int .i64 0,.int .i64 0,.bool false,.string ⟨#[]⟩,.slice none 0 0,.slice none 0 0,.slice none 0 0,.slice none 0 0,.slice none 0 0]else #[.int .i64 0,.int .i64 0,.int .i64 0,.bool false,.string ⟨#[]⟩,.slice none 0 0,.slice none 0 0,.slice none 0 0,.slice none 0 0,.slice none 0 0]) 35 (0,0)) W)∧(L 10=true→x 10=x 9)∧(L 11=true→x 11=.agg #[.int .i64 0,.int .i64 0,.int .i64 0,.bool false,.string ⟨#[]⟩,.slice none 0 0,.slice none 0 0,.slice none 0 0,.slice none 0 0,.slice none 0 0])):=ofI HIp hI;rw[HV.out]at hV;simp only[AllV,and_true]at hV;obtain⟨u0,u1,u2,u3,u4,u5,u6,u7,u8,⟨y9,u9⟩,⟨y10,u10⟩,⟨y11,u11⟩,u12,⟨y13,u13⟩,u14,u15⟩:=hV;simp only[getsD,List.getD_cons_succ,List.getD_cons_zero,List.length_cons,List.length_nil,List.range,List.range.loop,u0,u1,u2,u3,u4,u5,u6,u7,u8,u9,u10,u11,u12,u13,u14,u15,Act.put,List.setIfInBounds_toArray,List.set_cons_succ,List.set_cons_zero];clear u0 u1 u2 u3 u4 u5 u6 u7 u8 u9 u10 u11 u12 u13 u14 u15;obtain⟨hB0,dz,c0,b0,m0,e_11⟩:=hI;have HB:=Lib.hid hB0;clear hB0 c0 b0 m0 e_11 hL;go_wp2_with fail
    go_ret
    exact⟨rfl,HBw.out.trans (HB.out.mono HBw.out.size)⟩
end Go.Proofs.YtkbfhgcjimfgkaaDoor
set_option maxRecDepth 100000
namespace Go.Proofs.YtkbfhgcjimfgkaaDoor
open Go.RowKit Go.ChangeShapes Go.WideShapes Go.ChangeAt
open Go.ChangeMaps (open_string)
theorem laidOut:laidOutB Tryd.prog=true:=by kernel_rfl
theorem own:ownKnob Tryd.prog.godebug=none:=by kernel_rfl
section
variable {H:Type} {enc:TypeId×Value→H} {W W':World}
theorem all_below:∀{ts:List TypeId}{vs:List Value}{ds:List (DataW H)}{ps:List MemPlace},(∀t∈ts,Tryd.prog.readableRec t=true∧t<Tryd.prog.types.size)→
 DataW.TrodAll enc Tryd.prog W 0 (fun _=>true) true ts vs ds ps→(∀x∈ps,x.block<W.heap.size)→Below W.heap.size W W'→
 DataW.TrodAll enc Tryd.prog W' 0 (fun b=>decide (b<W.heap.size)) true ts vs ds ps
 |[],vs,ds,ps,_,h,_,_=>by
  obtain⟨rfl,rfl,rfl⟩:=trodAll_nil h;exact rfl
 |t::ts,vs,ds,ps,hr,h,hp,hb=>by
  obtain⟨v,vs',d,ds',p,q,rfl,rfl,rfl,h1,h2⟩:=trodAll_cons h;refine⟨p,q,?_,all_below (fun t ht=>hr t (by simp[ht])) h2 (fun x hx=>hp x (by simp[hx])) hb,rfl⟩;exact Below.trod laidOut (hr t (by simp)).1 (hr t (by simp)).2 h1 hb (fun x hx=>hp x (by simp[hx]))
theorem law_post {f:Func}{s:ChangeSpec}{args:Array Value}{ds gs:List (DataW H)}{before:List MemPlace}(hr:∀t∈f.params.toList,Tryd.prog.readableRec t=true∧t<Tryd.prog.types.size)
 (hv:s.vars=[]) (hrt:f.resultTypes=#[4]) (hs:∀xs,xs=ds→(s.fn H xs).results=[.lit (.bool true)]∧(s.fn H xs).args=xs∧(s.fn H xs).vars=[])
 (hW:DataW.Whole enc Tryd.prog f.params.toList s.vars false W args.toList ds gs before) (hb:Below W.heap.size W W'):
 s.post enc Tryd.prog f false true false false W args (.bool true) W':=by
 have hlt:∀p∈before,p.block<W.heap.size:=fun p hp=>hW.lt p hp;have hW':=hW;obtain⟨p,q,hA,hV,rfl,hz,hn⟩:=hW;rw[hv]at hV;obtain⟨rfl,rfl⟩:=trodVars_none hV;obtain⟨e1,e2,e3⟩:=hs (ds++[]) (by simp);refine⟨ds,[],_,[],p,[],hW',?_,?_,?_,hb.frame _,fun h=>by cases h⟩
 ·rw[hrt,e1];exact⟨[],[],shut_bool Tryd.underlying4 true,rfl,rfl⟩
 ·rw[e2,List.append_nil];exact all_below hr hA (fun x hx=>hlt x (by simp[hx])) hb
 ·rw[hv,e3];exact rfl
theorem arg_int {v:Value}{d:DataW H}{p:List MemPlace}(hv:Value.okWide Tryd.prog W .any 0 3 v)(h:DataW.Trod enc Tryd.prog W 0 (fun _=>true) true 3 v d p):∃x,v=.int .i64 x∧I64 x:=by
 obtain⟨x,rfl,_,_,wx⟩:=open_int Tryd.underlying3 hv h;refine⟨x,rfl,?_⟩;simpa[I64,Lit.wf,IntKind.min,IntKind.max,IntKind.bits,IntKind.signed]using wx
end
end Go.Proofs.YtkbfhgcjimfgkaaDoor
set_option maxRecDepth 100000
namespace Go.Proofs.YtkbfhgcjimfgkaaDoor
open Go.RowKit Go.ChangeShapes Go.WideShapes Go.ChangeAt Go.Deep Go.Joins
open Go.ChangeMaps (open_string)
section
variable {H:Type} {enc:TypeId×Value→H} {P:Program} {w:World} {base:Nat} {spare:Nat→Bool} {held:Bool}
end
section
variable {H:Type} {enc:TypeId×Value→H} {P:Program} {w:World} {base:Nat} {spare:Nat→Bool} {held:Bool}
end
section
variable {H:Type} {enc:TypeId×Value→H} {W W':World}
theorem arg_str {v:Value}{d:DataW H}{p:List MemPlace}(hv:Value.okWide Tryd.prog W .any 0 9 v)(h:DataW.Trod enc Tryd.prog W 0 (fun _=>true) true 9 v d p):∃s:ByteArray,v=.string s∧s.size≤maxLen:=by
 obtain⟨s,rfl,_,_,hs⟩:=open_string Tryd.underlying9 hv h;exact⟨s,rfl,hs⟩
end
theorem accept_eq:(Rows.laid_unicode_utf8_acceptRanges:DataW Unit)=Lib.acceptData:=by kernel_rfl
theorem first_eq:Rows.laid_unicode_utf8_first=Lib.firstData:=Pinned.utf8First_eq
theorem good_of {W:World}(hL:laidMetH Tryd.prog [("unicode/utf8.acceptRanges",Rows.laid_unicode_utf8_acceptRanges),("unicode/utf8.first",Rows.laid_unicode_utf8_first)] W):Good W:=by
 have hL2:laidMet Tryd.prog [("unicode/utf8.acceptRanges",Rows.laid_unicode_utf8_acceptRanges),("unicode/utf8.first",Rows.laid_unicode_utf8_first)] W:=hL;rw[accept_eq,first_eq]at hL2;have htab:Lib.Utf8Tabs (Tryd.lays196_ren.g 3) (Tryd.lays196_ren.g 4) W:=
  utf8Tabs_of_readsT (U8Types.of196 Tryd.lays196) ⟨by kernel_rfl,by kernel_rfl,by kernel_rfl,by kernel_rfl,by kernel_rfl,by kernel_rfl,by kernel_rfl⟩ (Lib.laidMet.reads hL2 (.tail _ (.head _))) (Lib.laidMet.reads hL2 (.head _))
 have h1:=World.block_lt_of_cell? W _ (htab.2 0 (by omega)).1;have h0:=World.block_lt_of_cell? W _ (htab.1 0 (by omega));refine⟨?_,htab⟩;have e1:Tryd.lays196_ren.g 4=1:=rfl;have e0:Tryd.lays196_ren.g 3=0:=rfl;rw[e1]at h1;rw[e0]at h0;simp only at h0 h1;omega
noncomputable def laidWorld (os:Os):World:=
 let w0:=World.holding Tryd.prog os ⟨#[],#[],[]⟩
 let put (h:Array Obj) (g:Nat) (cs:Array Value):Array Obj:=h.modify g fun
  |.cells _ t frozen=>.cells cs t frozen
  |o=>o
 let h1:=put w0.heap 0 (Lib.firstTab.map fun z=>Value.int .u8 z).toArray
 let h2:=put h1 1 ((List.range 16).flatMap fun i=>[Value.int .u8 (Lib.accLo i),Value.int .u8 (Lib.accHi i)]).toArray
 {w0 with heap:=h2}
theorem laid_met (os:Os)(args:Array Value):laidMet Tryd.prog [("unicode/utf8.acceptRanges",Rows.laid_unicode_utf8_acceptRanges),("unicode/utf8.first",Rows.laid_unicode_utf8_first)] ((laidWorld os).forCall (fun _ _=>0) ⟨#[],args,[]⟩).memory:=by
 rw[accept_eq,first_eq];exact(LaidIn.of_run (l:=[("unicode/utf8.acceptRanges",Lib.acceptData),("unicode/utf8.first",Lib.firstData)]) [1,0] 8 (by kernel_rfl) (by kernel_rfl) (by kernel_rfl) (by kernel_rfl)).met
end Go.Proofs.YtkbfhgcjimfgkaaDoor
