/- The walk of (*node.work).send. -/
import Derived.Test.YtkbfhgcjimfgkaaDoorPartB8
import Derived.Test.YtkbfhgcjimfgkaaDoorPartB9
import Derived.Test.YtkbfhgcjimfgkaaDoorPartB3
import Derived.Test.YtkbfhgcjimfgkaaDoorPartB1
import Derived.Test.YtkbfhgcjimfgkaaDoorPartA6
import Derived.Test.YtkbfhgcjimfgkaaDoorPartB5
set_option linter.unusedVariables false
set_option linter.unusedSimpArgs false
set_option linter.unusedSimpArgs false
namespace Go.Proofs.YtkbfhgcjimfgkaaDoor
open Go.RowKit
structure NdGood (t:List Int) (n:Nd):Prop where
 tree:checkTree t=0
 me0:0≤n.me
 me1:n.me<t.length
 ep0:1≤n.epoch
 ep1:n.epoch<1048576
 up0:0≤n.up
 up1:n.up≤1048576
 upr:n.me=0→n.up=0
 text:checkText n.text=0
 len:n.sides.length=(nbs t n.me).length
 undo:undoOk n=true
 marks1:n.marks.length≤1
 away:n.ready=false→emptyS n.text=true∧n.undo=[]∧n.marks=[]∧n.me≠0
 side:∀i (h:i<n.sides.length),(nbs t n.me)[i]?=some n.sides[i].peer∧sideOk n n.sides[i]=true
 top:0<n.me→∀s,n.sides[0]?=some s→s.joined=n.ready
 mark:∀m∈n.marks,0≤m.anchor∧m.anchor≤rc n.text∧0≤m.head∧m.head≤rc n.text
theorem blk8_cells {g:Nat}{x0 x1 x2 x3 x4 x5 x6 x7:Value}{T:Nat}{W:World}(h:Blk g (.cells #[x0,x1,x2,x3,x4,x5,x6,x7] T (0,0)) W):
 W.cell? ⟨g,0,none⟩=some x0∧W.cell? ⟨g,1,none⟩=some x1∧W.cell? ⟨g,2,none⟩=some x2∧W.cell? ⟨g,3,none⟩=some x3∧W.cell? ⟨g,4,none⟩=some x4∧W.cell? ⟨g,5,none⟩=some x5∧W.cell? ⟨g,6,none⟩=some x6∧W.cell? ⟨g,7,none⟩=some x7:=
 ⟨h.cell 0,h.cell 1,h.cell 2,h.cell 3,h.cell 4,h.cell 5,h.cell 6,h.cell 7⟩
theorem undoFrom_all:∀{l:List Op}{x:Int},undoFrom x l=true→∀o∈l,check o=0
 |[],_,_,o,h=>by cases h
 |p::l,x,h,o,ho=>by
  unfold undoFrom at h;by_cases h1:check p=0
  ·rw[if_neg (by simpa using h1)]at h;by_cases h2:sumF p=x
   ·rw[if_neg (by simpa using h2)]at h;rcases List.mem_cons.1 ho with rfl|ho
    ·exact h1
    ·exact undoFrom_all h o ho
   ·rw[if_pos h2]at h;cases h
  ·rw[if_pos h1]at h;cases h
theorem NdGood.undos {t:List Int}{n:Nd}(h:NdGood t n):n.undo.length≤12∧∀o∈n.undo,check o=0:=by
 have hu:=h.undo;unfold undoOk at hu;simp only[Bool.and_eq_true,decide_eq_true_eq]at hu;exact⟨hu.2,fun o ho=>undoFrom_all hu.1 o (List.mem_reverse.2 ho)⟩
theorem nbs_len (t:List Int)(me:Int):(nbs t me).length≤t.length+1:=by
 unfold nbs;have h1:=nbsAhead_len t me;have h2:=kidsTo_len t me t.length;rw[List.length_append];omega
set_option maxRecDepth 100000 in
set_option maxHeartbeats 8000000 in
theorem ndCheck_good (t:List Int)(ta:Option Addr)(tn tc:Nat)(n:Nd)(a:Option Addr)(c:Nat)(ua:Option Addr)(uc:Nat)(ma:Option Addr)(mc:Nat)(w:World)(hg:Good w)(ht:RdS (· <w.heap.size) w t ta tn tc)
 (h1:RdS (· <w.heap.size) w n.sides a n.sides.length c) (h2:RdS (· <w.heap.size) w n.undo ua n.undo.length uc) (h3:RdS (· <w.heap.size) w n.marks ma n.marks.length mc) (hf:n.fits) (hG:NdGood t n):
 Calls Tryd.prog 14 #[.slice ta tn tc,.agg #[.int .i64 n.me,.int .i64 n.epoch,.int .i64 n.up,.bool n.ready,.string n.text,.slice a n.sides.length c,.slice ua n.undo.length uc,.slice ma n.marks.length mc]] w
  fun e w'=>e=.returned (.int .i64 0)∧Below w.heap.size w w':=by
 have hG':=hG;obtain⟨g1,g2,g3,g4,g5,g6,g7,g8,g9,g10,g11,g12,g13,g14,g15,g16⟩:=hG;have htn:=ht.1;have ht7:t.length≤7:=by
  unfold checkTree at g1;by_cases h:t.length<1∨7<t.length
  ·rw[if_pos h]at g1;exact absurd g1 (by decide)
  ·omega
 obtain⟨m,hm⟩:∃m:Nat,n.me=(m:Int):=⟨n.me.toNat,by omega⟩;have hmn:m<tn:=by omega
 have HT:=Lib.hid (fun W (hW:Below w.heap.size w W)=>checkTree_any (· <W.heap.size) ta tn tc t W (ht.go hW));rw[g1]at HT;have HC:=Lib.hid (fun W (hW:Below w.heap.size w W)=>checkText_any n.text W (hg.go hW) hf.2.2.2);rw[g9]at HC;have HN:=Lib.hid (fun W (hW:Below w.heap.size w W)=>nbs_any t ta tn tc m W (ht.go hW) hmn (by omega));rw[←hm]at HN;have HU:=Lib.hid (fun W (hW:Below w.heap.size w W)=>undo_any n a c ua uc ma mc W (hg.go hW) hf.2.2.2 (h2.go hW) (fun o ho=>check_small (hG'.undos.2 o ho)));rw[g11]at HU;have HR:=Lib.hid (fun W=>rc_any n.text W hf.2.2.2);have Hlen:=Lib.hid g10;have Haway:=Lib.hid g13;have Hside:=Lib.hid g14;have Htop:=Lib.hid g15;have Hmark:=Lib.hid g16;have H1:=Lib.hid h1;have H3:=Lib.hid h3;have Hg:=Lib.hid hg;have Hf:=Lib.hid hf;have Hupr:=Lib.hid g8;have Hu12:=Lib.hid hG'.undos.1;have hsl:n.sides.length≤8:=by rw[g10];have:=nbs_len t n.me;omega
 have f1:¬n.me<0:=by omega
 have f2:¬(tn:Int)≤n.me:=by omega
 have f3:¬n.epoch<1:=by omega
 have f4:¬(1048576:Int)≤n.epoch:=by omega
 have f5:¬n.up<0:=by omega
 have f6:¬(1048576:Int)<n.up:=by omega
 clear g1 g2 g3 g4 g5 g6 g7 g8 g9 g10 g11 g13 g14 g15 g16 hG' htn ht7 hm hmn hg ht h1 h2 h3 hf;go_enter Tryd.func14,Tryd.ntmps14;go_wp2_with fail;refine abs_run (fun W=>Below w.heap.size w W∧Blk w.heap.size (.cells #[.int .i64 n.me,.int .i64 n.epoch,.int .i64 n.up,.bool n.ready,.string n.text,.slice a n.sides.length c,.slice ua n.undo.length uc,.slice ma n.marks.length mc] 31 (0,0)) W) ⟨(Below.refl _ _).alloc (Nat.le_refl _) _,Blk.new w _⟩ ?_;rintro w1 ⟨b1,x1⟩;have B1:=Lib.hid b1;have X1:=Lib.hid x1;clear b1 x1;refine(HT.out _ B1.out).mono ?_;rintro e w1' ⟨rfl,rfl⟩;go_upto_region 4 with fail;go_cut [62]from 17 to 61 (fun s62 W=>s62=.bool false∧Below w.heap.size w W∧Blk w.heap.size (.cells #[.int .i64 n.me,.int .i64 n.epoch,.int .i64 n.up,.bool n.ready,.string n.text,.slice a n.sides.length c,.slice ua n.undo.length uc,.slice ma n.marks.length mc] 31 (0,0)) W)
 case first=>
  obtain⟨p0,p1,p2,p3,p4,p5,p6,p7⟩:=blk8_cells X1.out;by_cases h0:n.me=0
  ·have hu:=Hupr.out h0;have hb:(n.me==0)=true:=by simpa using h0
   rw[hu]at p2;have f5':¬(0:Int)<0:=by omega
   clear f5 f6 h0 hu;go_wp2_with fail;refine(HC.out _ B1.out).mono ?_;rintro e w2 ⟨rfl,b2⟩;have B2:=Lib.hid (up B1.out b2);have X2:=Lib.hid (X1.out.go b2);clear b2;go_wp2_with fail;go_meet
   case rel=>exact⟨by simp[f1,f2,f3,f4],B2.out,X2.out⟩
  ·have hb:(n.me==0)=false:=by simpa using h0
   go_wp2_with fail;refine(HC.out _ B1.out).mono ?_;rintro e w2 ⟨rfl,b2⟩;have B2:=Lib.hid (up B1.out b2);have X2:=Lib.hid (X1.out.go b2);clear b2;go_wp2_with fail;go_meet
   case rel=>exact⟨by simp[f1,f2,f3,f4,f5,f6],B2.out,X2.out⟩
 case rest=>
  obtain⟨rfl,bc,xc⟩:=hcut;have B2:=Lib.hid bc;have X2:=Lib.hid xc;obtain⟨p0,p1,p2,p3,p4,p5,p6,p7⟩:=blk8_cells xc;clear bc xc B1 X1 HT HC;go_wp2_with fail;refine(HN.out _ B2.out).mono ?_;rintro e w3 ⟨v,rfl,ho,b3⟩;obtain⟨na,nc,rfl,RN⟩:=ho.rdI;have HRN:=Lib.hid RN;have B3:=Lib.hid (up B2.out b3);have X3:=Lib.hid (X2.out.go b3);have HNl:Hid (n.sides.length=(nbs t n.me).length):=Hlen.out;have Hpos:Hid (0<n.me→0<n.sides.length):=fun h=>by
   rw[HNl.out];unfold nbs nbsAhead;rw[if_pos h];simp
  generalize nbs t n.me=NB0 at*;rw[←HNl.out]at HRN;rw[←HNl.out];clear ho RN b3 B2 X2 HN Hlen p0 p1 p2 p3 p4 p5 p6 p7;go_upto_region 7 with fail;go_cut [108]from 67 to 107 (fun s108 W=>s108=.bool false∧Below w.heap.size w W∧Blk w.heap.size (.cells #[.int .i64 n.me,.int .i64 n.epoch,.int .i64 n.up,.bool n.ready,.string n.text,.slice a n.sides.length c,.slice ua n.undo.length uc,.slice ma n.marks.length mc] 31 (0,0)) W∧Below w3.heap.size w3 W)
  case first=>
   obtain⟨p0,p1,p2,p3,p4,p5,p6,p7⟩:=blk8_cells X3.out;have hm1:¬(1:Int)<(n.marks.length:Int):=by omega
   rcases Bool.eq_false_or_eq_true n.ready with hrd|hrd
   ·rw[hrd]at p3 HU;have Hrd:=Lib.hid hrd;clear hrd;go_wp2_with fail;refine(HU.out _ B3.out).mono ?_;rintro e w4 ⟨rfl,b4⟩;have B4:=Lib.hid (up B3.out b4);have X4:=Lib.hid (X3.out.go b4);have B34:=Lib.hid b4;obtain⟨q0,q1,q2,q3,q4,q5,q6,q7⟩:=blk8_cells X4.out;rw[Hrd.out]at q3;clear b4 p0 p1 p2 p3 p4 p5 p6 p7;go_wp2_with fail;go_meet
    case rel=>exact⟨by simp[hm1],B4.out,X4.out,B34.out⟩
   ·obtain⟨a1,a2,a3,a4⟩:=Haway.out hrd;rw[hrd]at p3 HU;have hbe:n.text.toList.isEmpty=true:=a1;have hb0:(n.me==0)=false:=by simpa using a4
    have hu0:n.undo.length=0:=by rw[a2];rfl
    have hk0:n.marks.length=0:=by rw[a3];rfl
    have Hu0:=Lib.hid hu0;have Hk0:=Lib.hid hk0;have Hrd:=Lib.hid hrd;clear hrd a1 a2 a3 a4 hu0 hk0;go_wp2_with fail;refine(HU.out _ B3.out).mono ?_;rintro e w4 ⟨rfl,b4⟩;have B4:=Lib.hid (up B3.out b4);have X4:=Lib.hid (X3.out.go b4);have B34:=Lib.hid b4;obtain⟨q0,q1,q2,q3,q4,q5,q6,q7⟩:=blk8_cells X4.out;rw[Hrd.out]at q3;clear b4 p0 p1 p2 p3 p4 p5 p6 p7;have hz1:¬(0:Int)<(n.undo.length:Int)+(n.marks.length:Int):=by rw[Hu0.out,Hk0.out];omega
    go_wp2_with fail;go_meet
    case rel=>exact⟨by simp[hm1];have:=Hu0.out;have:=Hk0.out;omega,B4.out,X4.out,B34.out⟩
  case rest=>
   obtain⟨rfl,bc,xc,bd⟩:=hcut;have B4:=Lib.hid bc;have X4:=Lib.hid xc;have B34:=Lib.hid bd;have hlt4:=xc.lt;obtain⟨p0,p1,p2,p3,p4,p5,p6,p7⟩:=blk8_cells xc;have hslI:(n.sides.length:Int)≤8:=by omega
   have hHc:=H1.out.2.1;have hHm:=H1.out.2.2.1;unfold maxLen at hHm;have hnc:=HRN.out.2.1;have hnm:=HRN.out.2.2.1;unfold maxLen at hnm;obtain⟨w4,hw4⟩:∃w4,w4=wc:=⟨_,rfl⟩;rw[←hw4]at B4 X4 B34 hlt4 p0 p1 p2 p3 p4 p5 p6 p7⊢;clear bc xc bd hw4 B3 X3 HU Haway;go_wp2_with fail;go_loopw [112] (fun vi wr=>∃k:Nat,k≤n.sides.length∧vi=.int .i64 (k:Int)∧Below w4.heap.size w4 wr) (fun vi _=>n.sides.length-(intOf vi).toNat)
   case atStart=>exact⟨0,by omega,rfl,Below.refl _ _⟩
   case round=>
    obtain⟨k,hk,rfl,hbr⟩:=hrel;clear p0 p1 p2 p3 p4 p5 p6 p7;by_cases hlt:k<n.sides.length
    ·have hlt':(k:Int)<(n.sides.length:Int):=by omega
     obtain⟨hside1,hside2⟩:=Hside.out k hlt;have BR:=Lib.hid (up B4.out hbr);have HBR:=Lib.hid hbr;have XR:=Lib.hid (X4.out.go hbr);obtain⟨sb,so,xs,rfl,hA,hsb,⟨ea,ec,la,lc,qa,qc,rfl,r1,r2,r3,hpe,hef,hlf⟩,hcl⟩:=(H1.out.go BR.out).elem k hlt;obtain⟨nb,no,rfl,-,hnb,hncl⟩:=HRN.out.int (by omega);have hkN:k<NB0.length:=by have:=HNl.out;omega
     obtain⟨-,hnk⟩:=hncl k hkN;have hnk2:wr.cell? ⟨nb,no+k,none⟩=some (.int .i64 NB0[k]):=((hbr.cell (p:=⟨nb,no+k,none⟩) (Nat.lt_of_lt_of_le hnb B34.out.size)).trans (B34.out.cell (p:=⟨nb,no+k,none⟩) hnb)).trans hnk;have hpr:NB0[k]=n.sides[k].peer:=by rw[List.getElem?_eq_getElem hkN]at hside1;exact Option.some.inj hside1
     rw[hpr]at hnk2;have y0:wr.cell? ⟨sb,so+k*10,none⟩=some _:=hcl 0 _ rfl;have y1:wr.cell? ⟨sb,so+k*10+1,none⟩=some _:=hcl 1 _ rfl;have y2:wr.cell? ⟨sb,so+k*10+2,none⟩=some _:=hcl 2 _ rfl;have y3:wr.cell? ⟨sb,so+k*10+3,none⟩=some _:=hcl 3 _ rfl;have y4:wr.cell? ⟨sb,so+k*10+4,none⟩=some _:=hcl 4 _ rfl;have y5:wr.cell? ⟨sb,so+k*10+5,none⟩=some _:=hcl 5 _ rfl;have y6:wr.cell? ⟨sb,so+k*10+6,none⟩=some _:=hcl 6 _ rfl;have y7:wr.cell? ⟨sb,so+k*10+7,none⟩=some _:=hcl 7 _ rfl;have y8:wr.cell? ⟨sb,so+k*10+8,none⟩=some _:=hcl 8 _ rfl;have y9:wr.cell? ⟨sb,so+k*10+9,none⟩=some _:=hcl 9 _ rfl;have HSd:=Lib.hid (fun W (hW:Below wr.heap.size wr W)=>side_any n (some ⟨sb,so,none⟩) c ua uc ma mc n.sides[k] ea ec la lc qa qc W (Hg.out.go (up BR.out hW)) Hf.out.2.2.2 (r1.go hW) (r2.go hW) (r3.go hW) hef hlf);rw[hside2]at HSd;have Hnk:=Lib.hid hnk2;have hkc:(k:Int)<(c:Int):=by omega
     have hknc:(k:Int)<(nc:Int):=by omega
     have hnbr:nb<wr.heap.size:=by have:=B34.out.size;have:=hbr.size;omega
     clear hcl hside1 hside2 hpr hnk hnk2 hncl r1 r2 r3 hpe hef hlf hbr;generalize n.sides[k]=sd at*;go_wp2_with fail;refine abs_w (fun W=>Below wr.heap.size wr W∧Blk wr.heap.size (.cells #[.int .i64 sd.peer,.bool sd.joined,.int .i64 sd.e.sent,.int .i64 sd.e.heard,.slice ea sd.e.pending.length ec,.int .i64 sd.l.epoch,.int .i64 sd.l.next,.slice la sd.l.sent.length lc,.slice qa sd.l.queue.length qc,.int .i64 sd.l.heard] 72 (0,0)) W) ⟨(Below.refl _ _).alloc (Nat.le_refl _) _,Blk.new wr _⟩ ?_;rintro w5 ⟨b5,x5⟩;have B5:=Lib.hid b5;have X5:=Lib.hid x5;clear b5 x5 y0 y1 y2 y3 y4 y5 y6 y7 y8 y9;obtain⟨Vp,HV⟩:∃Vp:Nat→Value→World→Prop,Hid (Vp=fun i v W=>match i with
      |0=>v=.pointer (some ⟨wr.heap.size,0,none⟩)
      |1=>v=.int .i64 sd.peer
      |2=>v=.slice (some ⟨nb,no,none⟩) n.sides.length nc
      |3=>v=.int .i64 (k:Int)
      |4=>v=.pointer (some ⟨nb,no+k,none⟩)
      |5=>v=.int .i64 sd.peer
      |6=>v=.bool false
      |7=>v=.bool false
      |8=>v=.agg #[.int .i64 n.me,.int .i64 n.epoch,.int .i64 n.up,.bool n.ready,.string n.text,.slice (some ⟨sb,so,none⟩) n.sides.length c,.slice ua n.undo.length uc,.slice ma n.marks.length mc]
      |9=>v=.agg #[.int .i64 sd.peer,.bool sd.joined,.int .i64 sd.e.sent,.int .i64 sd.e.heard,.slice ea sd.e.pending.length ec,.int .i64 sd.l.epoch,.int .i64 sd.l.next,.slice la sd.l.sent.length lc,.slice qa sd.l.queue.length qc,.int .i64 sd.l.heard]
      |10=>v=.bool true
      |11=>v=.bool false
      |_=>v=.bool false):=⟨_,rfl⟩
     obtain⟨Ip,HIp⟩:∃Ip:(Nat→Bool)→(Nat→Value)→World→Prop,Hid (Ip=fun L x W=>(Below w5.heap.size w5 W)):=⟨_,rfl⟩;refine region_lit3 (by kernel_rfl) (by kernel_rfl) (by kernel_rfl) [[],[0],[],[],[2,3],[2,3,4],[0,1,2,3,4,5],[0,1,2,3,4,5,6],[0,1,2,3,4,5,6,7],[0,1,2,3,4,5,6,7],[0,1,2,3,4,5,6,7,8,9],[0,1,2,3,4,5,6,7,8,9,10],[0,1,2,3,4,5,6,7,8,9,10,11]] (by kernel_rfl) [some 117,some 118,some 119,some 120,some 121,some 122,some 123,some 124,some 125,some 126,some 127,some 128,some 129] (by kernel_rfl) [[0,1,6,7,8,9,10,11,12],[1,6,7,8,9,10,11,12],[2,4,5,6,7,8,9,10,11,12],[3,4,5,6,7,8,9,10,11,12],[4,5,6,7,8,9,10,11,12],[5,6,7,8,9,10,11,12],[6,7,8,9,10,11,12],[7,8,9,10,11,12],[8,10,11,12],[9,10,11,12],[10,11,12],[11,12],[12]] (by kernel_rfl) [[],[],[],[],[],[],[],[],[],[],[],[],[]] [[],[0],[],[],[2,3],[4],[1,5],[6],[7],[7],[7,8,9],[7,10],[7,11]] (by kernel_rfl)
      Ip
      Vp
      (fun j W W'=>match j with
       |10=>Below W.heap.size W W'
       |_=>Below W.heap.size W W')
      [fun x=>⟨(fZm 8 (.pointer (some ⟨wr.heap.size,0,none⟩)) (fEm 109)).toArray,[]⟩,fun x=>⟨(fZm 117 (x 0) (fEm 1)).toArray,[]⟩,fun x=>⟨(fZm 6 (.slice (some ⟨nb,no,none⟩) n.sides.length nc) (fEm 113)).toArray,[]⟩,fun x=>⟨(fZm 7 (.int .i64 (k:Int)) (fEm 113)).toArray,[]⟩,fun x=>⟨(fZm 119 (x 2) (fZm 0 (x 3) (fEm 1))).toArray,[]⟩,fun x=>⟨(fZm 121 (x 4) (fEm 1)).toArray,[]⟩,fun x=>⟨(fZm 118 (x 1) (fZm 3 (x 5) (fEm 1))).toArray,[]⟩,fun x=>⟨(fZm 123 (x 6) (fEm 1)).toArray,[]⟩,fun x=>⟨(fZm 3 (.pointer (some ⟨w.heap.size,0,none⟩)) (fZm 120 (x 7) (fEm 1))).toArray,[]⟩,fun x=>⟨(fZm 8 (.pointer (some ⟨wr.heap.size,0,none⟩)) (fZm 115 (x 7) (fEm 2))).toArray,[]⟩,fun x=>⟨(fZm 124 (x 7) (fZm 0 (x 8) (fZm 0 (x 9) (fEm 1)))).toArray,[]⟩,fun x=>⟨(fZm 124 (x 7) (fZm 2 (x 10) (fEm 1))).toArray,[]⟩,fun x=>⟨(fZm 124 (x 7) (fZm 3 (x 11) (fEm 1))).toArray,[]⟩]
      ?hF ?mono ?h0 ?step [0,1,2,3,4,5,6,7,8,9,10,11,12] (by kernel_rfl) ?fin
     case hF=>
      iterate 13 refine⟨fun x=>⟨by kernel_rfl,by kernel_rfl⟩,?_⟩
      trivial
     case mono=>
      intro i j hi hj hne hna hnk v W W' hE hv;rw[HV.out]at hv⊢;simp only[List.length_cons,List.length_nil]at hi hj
      match i,hi with
      |0,_|1,_|2,_|3,_|4,_|5,_|6,_|7,_|8,_|9,_|10,_|11,_|12,_=>exact hv
      |m+13,h=>exact absurd h (by omega)
     case h0=>intro x;exact toI HIp ((Below.refl _ _).drew)
     case step=>
      refine⟨?_,?_,?_,?_,?_,?_,?_,?_,?_,?_,?_,?_,?_,trivial⟩
      all_goals
       intro x W L hI hL hV;replace hI:(Below w5.heap.size w5 W):=ofI HIp hI;rw[HV.out]at hV;simp only[AllV,and_true]at hV;dsimp only[fZm,fEm,List.reduceReplicate,List.cons_append,List.nil_append]
      ·clear hV;have HI:=Lib.hid hI;clear hI;go_wp2_with fail;refine step3_done rfl ?_ ?_ ?_
       ·exact(toI HIp HI.out)
       ·exact(Below.refl _ _)
       ·exact(toV HV rfl)
      ·have u0:=hV;clear hV;simp only[u0];clear u0;have y0:=(X5.out.go hI).cell 0;have HI:=Lib.hid hI;clear hI;go_wp2_with fail;refine step3_done rfl ?_ ?_ ?_
       ·exact(toI HIp HI.out)
       ·exact(Below.refl _ _)
       ·exact(toV HV rfl)
      ·clear hV;have HI:=Lib.hid hI;clear hI;go_wp2_with fail;refine step3_done rfl ?_ ?_ ?_
       ·exact(toI HIp HI.out)
       ·exact(Below.refl _ _)
       ·exact(toV HV rfl)
      ·clear hV;have HI:=Lib.hid hI;clear hI;go_wp2_with fail;refine step3_done rfl ?_ ?_ ?_
       ·exact(toI HIp HI.out)
       ·exact(Below.refl _ _)
       ·exact(toV HV rfl)
      ·obtain⟨u2,u3⟩:=hV;simp only[u2,u3];clear u2 u3;have HI:=Lib.hid hI;clear hI;go_wp2_with fail;refine step3_done rfl ?_ ?_ ?_
       ·exact(toI HIp HI.out)
       ·exact(Below.refl _ _)
       ·exact(toV HV rfl)
      ·have u4:=hV;clear hV;simp only[u4];clear u4;have y0:W.cell? ⟨nb,no+k,none⟩=some (.int .i64 sd.peer):=((up B5.out hI).cell (p:=⟨nb,no+k,none⟩) hnbr).trans Hnk.out;have HI:=Lib.hid hI;clear hI;go_wp2_with fail;refine step3_done rfl ?_ ?_ ?_
       ·exact(toI HIp HI.out)
       ·exact(Below.refl _ _)
       ·exact(toV HV rfl)
      ·obtain⟨u1,u5⟩:=hV;simp only[u1,u5];clear u1 u5;have HI:=Lib.hid hI;clear hI;go_wp2_with fail;refine step3_done rfl ?_ ?_ ?_
       ·exact(toI HIp HI.out)
       ·exact(Below.refl _ _)
       ·exact(toV HV rfl)
      ·have u6:=hV;clear hV;simp only[u6];clear u6;have HI:=Lib.hid hI;clear hI;go_wp2_with fail;refine step3_done rfl ?_ ?_ ?_
       ·exact(toI HIp HI.out)
       ·exact(Below.refl _ _)
       ·exact(toV HV rfl)
      ·have u7:=hV;clear hV;simp only[u7];clear u7;obtain⟨p0,p1,p2,p3,p4,p5,p6,p7⟩:=blk8_cells (XR.out.go (up B5.out hI));have HI:=Lib.hid hI;clear hI;go_wp2_with fail;refine step3_done rfl ?_ ?_ ?_
       ·exact(toI HIp HI.out)
       ·exact(Below.refl _ _)
       ·exact(toV HV rfl)
      ·have u7:=hV;clear hV;simp only[u7];clear u7;obtain⟨p0,p1,p2,p3,p4,p5,p6,p7,p8,p9⟩:=blk10_cells (X5.out.go hI);have HI:=Lib.hid hI;clear hI;go_wp2_with fail;refine step3_done rfl ?_ ?_ ?_
       ·exact(toI HIp HI.out)
       ·exact(Below.refl _ _)
       ·exact(toV HV rfl)
      ·obtain⟨u7,u8,u9⟩:=hV;simp only[u7,u8,u9];clear u7 u8 u9;have HI:=Lib.hid hI;clear hI;go_wp2_with fail;refine(HSd.out W (up B5.out HI.out)).mono ?_;rintro e W' ⟨rfl,hb⟩;have HB:=Lib.hid hb;clear hb;go_wp2_with fail;refine step3_done rfl ?_ ?_ ?_
       ·exact(toI HIp (up HI.out HB.out))
       ·exact HB.out
       ·exact(toV HV rfl)
      ·obtain⟨u7,u10⟩:=hV;simp only[u7,u10];clear u7 u10;have HI:=Lib.hid hI;clear hI;go_wp2_with fail;refine step3_done rfl ?_ ?_ ?_
       ·exact(toI HIp HI.out)
       ·exact(Below.refl _ _)
       ·exact(toV HV rfl)
      ·obtain⟨u7,u11⟩:=hV;simp only[u7,u11];clear u7 u11;have HI:=Lib.hid hI;clear hI;go_wp2_with fail;refine step3_done rfl ?_ ?_ ?_
       ·exact(toI HIp HI.out)
       ·exact(Below.refl _ _)
       ·exact(toV HV rfl)
     case fin=>
      intro x W L hL hI hV;replace hI:(Below w5.heap.size w5 W):=ofI HIp hI;rw[HV.out]at hV;simp only[AllV,and_true]at hV;obtain⟨u0,u1,u2,u3,u4,u5,u6,u7,u8,u9,u10,u11,u12⟩:=hV;simp only[getsD,List.getD_cons_succ,List.getD_cons_zero,List.length_cons,List.length_nil,List.range,List.range.loop,u0,u1,u2,u3,u4,u5,u6,u7,u8,u9,u10,u11,u12,Act.put,List.setIfInBounds_toArray,List.set_cons_succ,List.set_cons_zero];clear u0 u1 u2 u3 u4 u5 u6 u7 u8 u9 u10 u11 u12;have HI:=Lib.hid (up B5.out hI);clear hI;go_wp2_with fail
      case roundEnd=>
       refine⟨⟨k+1,by omega,by push_cast;rfl,up HBR.out HI.out⟩,?_⟩;simp[intOf];omega
    ·have hlt':¬((k:Int)<(n.sides.length:Int)):=by omega
     have BR:=Lib.hid (up B4.out hbr);have XR:=Lib.hid (X4.out.go hbr);clear hbr B4 X4 B34 Hside HRN HNl;go_upto_region 15 with fail;go_cut [143]from 131 to 142 (fun s143 W=>s143=.bool false∧Below wr.heap.size wr W)
     case first=>
      obtain⟨p0,p1,p2,p3,p4,p5,p6,p7⟩:=blk8_cells XR.out;by_cases h0:0<n.me
      ·have hp:=Hpos.out h0;obtain⟨sb,so,xs,rfl,hA,hsb,⟨ea,ec,la,lc,qa,qc,rfl,-⟩,hcl⟩:=(H1.out.go BR.out).elem 0 hp;have hj:wr.cell? ⟨sb,so+1,none⟩=some (.bool n.sides[0].joined):=by
        have:=hcl 1 _ rfl;simpa using this
       rw[Htop.out h0 _ (List.getElem?_eq_getElem hp)]at hj;have hpI:(0:Int)<(n.sides.length:Int):=by omega
       have hcI:(0:Int)<(c:Int):=by omega
       clear hcl;go_quiet (fail);go_wp2_with fail;go_meet
       case rel=>exact⟨by simp,below_drewN (Below.refl _ _) _⟩
      ·go_quiet (fail);go_wp2_with fail;go_meet
       case rel=>exact⟨rfl,below_drewN (Below.refl _ _) _⟩
     case rest=>
      obtain⟨rfl,bc⟩:=hcut;obtain⟨w6,hw6⟩:∃w6,w6=wc:=⟨_,rfl⟩;rw[←hw6]at bc⊢;have B6:=Lib.hid (up BR.out bc);have X6:=Lib.hid (XR.out.go bc);obtain⟨p0,p1,p2,p3,p4,p5,p6,p7⟩:=blk8_cells X6.out;have hlt6:=X6.out.lt;have hmkI:(n.marks.length:Int)≤1:=by omega
      have hm3:=H3.out.2.1;have hm4:=H3.out.2.2.1;unfold maxLen at hm4;clear bc hw6 BR XR Htop Hpos;go_wp2_with fail;go_loopw [147] (fun vi wq=>∃j:Nat,j≤n.marks.length∧vi=.int .i64 (j:Int)∧Below w6.heap.size w6 wq) (fun vi _=>n.marks.length-(intOf vi).toNat)
      case atStart=>exact⟨0,by omega,rfl,Below.refl _ _⟩
      case round=>
       obtain⟨j,hj,rfl,hbq⟩:=hrel;clear p0 p1 p2 p3 p4 p5 p6 p7;have BQ:=Lib.hid (up B6.out hbq);have HBQ:=Lib.hid hbq;have XQ:=Lib.hid (X6.out.go hbq);by_cases hlj:j<n.marks.length
       ·have hlj':(j:Int)<(n.marks.length:Int):=by omega
        obtain⟨mb,mo,xs,rfl,hA,hmb,⟨rfl,hm64,hm65⟩,hcl⟩:=(H3.out.go BQ.out).elem j hlj;have y0:wr.cell? ⟨mb,mo+j*2,none⟩=some _:=hcl 0 _ rfl;have y1:wr.cell? ⟨mb,mo+j*2+1,none⟩=some _:=hcl 1 _ rfl;obtain⟨z1,z2,z3,z4⟩:=Hmark.out _ (List.getElem_mem hlj);generalize n.marks[j]=mk at*;have hjc:(j:Int)<(mc:Int):=by omega
        have e1:¬mk.anchor<0:=by omega
        have e2:¬rc n.text<mk.anchor:=by omega
        have e3:¬mk.head<0:=by omega
        have e4:¬rc n.text<mk.head:=by omega
        have p4:=XQ.out.cell 4;have hqlt:=XQ.out.lt;clear hcl hbq z1 z2 z3 z4;go_wp2_with fail;refine abs_run (fun W=>Below wr.heap.size wr W∧Blk wr.heap.size (.cells #[.int .i64 mk.anchor,.int .i64 mk.head] 58 (0,0)) W) ⟨(Below.refl _ _).alloc (Nat.le_refl _) _,Blk.new wr _⟩ ?_;rintro w7 ⟨b7,x7⟩;have B7:=Lib.hid b7;have X7:=Lib.hid x7;clear b7 x7 y0 y1;refine(HR.out w7).mono ?_;rintro e w8 ⟨rfl,b8⟩;have B8:=Lib.hid (up B7.out b8);have x8:=X7.out.go b8;have y0:=x8.cell 0;have y1:=x8.cell 1;clear b8 B7 X7 x8;go_wp2_with fail
        case roundEnd=>
         refine⟨⟨j+1,by omega,by push_cast;rfl,up HBQ.out B8.out⟩,?_⟩;simp[intOf];omega
       ·have hlj':¬((j:Int)<(n.marks.length:Int)):=by omega
        clear hbq;go_wp2_with fail
        go_ret
        exact⟨rfl,BQ.out⟩
end Go.Proofs.YtkbfhgcjimfgkaaDoor
set_option linter.unusedSimpArgs false
namespace Go.Proofs.YtkbfhgcjimfgkaaDoor
open Go.RowKit
theorem parts_off {A:Nat→Prop}{w:World}{o:Op}{a:Option Addr}{n c g:Nat}(h:RdS A w o a n c)(hg:∀j s,w.cell? ⟨g,j,none⟩≠some (.string s)):RdS (fun z=>A z∧z≠g) w o a n c:=by
 obtain⟨h1,h2,h3,h4,h5⟩:=h;refine⟨h1,h2,h3,h4,fun hn=>?_⟩;obtain⟨b,off,e,hA,hb,he⟩:=h5 hn;refine⟨b,off,e,⟨hA,?_⟩,hb,he⟩;rintro rfl;cases o with
 |nil=>simp at h1;omega
 |cons x o=>
  obtain⟨xs,⟨rfl,-⟩,h6⟩:=he 0 x rfl;exact hg _ _ (h6 2 _ rfl)
theorem packets_off {A:Nat→Prop}{w:World}{ps:List Pkt}{a:Option Addr}{n c g:Nat}(h:RdS A w ps a n c)(hg:∀j s,w.cell? ⟨g,j,none⟩≠some (.string s)):RdS (fun z=>A z∧z≠g) w ps a n c:=by
 obtain⟨h1,h2,h3,h4,h5⟩:=h;refine⟨h1,h2,h3,h4,fun hn=>?_⟩;obtain⟨b,off,e,hA,hb,he⟩:=h5 hn;refine⟨b,off,e,⟨hA,?_⟩,hb,fun i x hi=>?_⟩
 ·rintro rfl;cases ps with
  |nil=>simp at h1;omega
  |cons x o=>
   obtain⟨xs,⟨a',n',c',rfl,-⟩,h6⟩:=he 0 x rfl;exact hg _ _ (h6 8 _ rfl)
 ·obtain⟨xs,⟨a',n',c',e,hr,hf⟩,h6⟩:=he i x hi;exact⟨xs,⟨a',n',c',e,parts_off hr hg,hf⟩,h6⟩
theorem zero_link {g:Nat}{w:World}(h:Blk g (.cells #[.int .i64 0,.int .i64 0,.slice none 0 0,.slice none 0 0,.int .i64 0] 70 (0,0)) w):∀j s,w.cell? ⟨g,j,none⟩≠some (.string s):=by
 intro j s;rw[h.cell j]
 match j with
 |0=>simp
 |1=>simp
 |2=>simp
 |3=>simp
 |4=>simp
 |j+5=>simp
theorem PsVal.off {B:Nat}{ps:List Pkt}{v:Value}{g:Nat}{w w':World}(h:PsVal B ps v w)(hz:Blk g (.cells #[.int .i64 0,.int .i64 0,.slice none 0 0,.slice none 0 0,.int .i64 0] 70 (0,0)) w)(ht:Touch (fun z=>z=g) w w'):PsVal B ps v w':=by
 obtain⟨pa,pc,e,hr⟩:=h;exact⟨pa,pc,e,(packets_off hr (zero_link hz)).mono fun z hz=>⟨⟨hz.1.1,Nat.lt_of_lt_of_le hz.1.2 ht.size⟩,ht.block z hz.1.2 hz.2⟩⟩
end Go.Proofs.YtkbfhgcjimfgkaaDoor
set_option linter.unusedSimpArgs false
namespace Go.Proofs.YtkbfhgcjimfgkaaDoor
open Go.RowKit
def LkBox (B g:Nat)(l:Lk)(w:World):Prop:=∃sa sc qa qc,Blk g (.cells #[.int .i64 l.epoch,.int .i64 l.next,.slice sa l.sent.length sc,.slice qa l.queue.length qc,.int .i64 l.heard] 70 (0,0)) w∧RdS (Fresh B w) w l.sent sa l.sent.length sc∧RdS (Fresh B w) w l.queue qa l.queue.length qc
end Go.Proofs.YtkbfhgcjimfgkaaDoor
set_option linter.unusedSimpArgs false
namespace Go.Proofs.YtkbfhgcjimfgkaaDoor
open Go.RowKit
theorem frames_off {A:Nat→Prop}{w:World}{ps:List Fr}{a:Option Addr}{n c g:Nat}(h:RdS A w ps a n c)(hg:∀j s,w.cell? ⟨g,j,none⟩≠some (.string s)):RdS (fun z=>A z∧z≠g) w ps a n c:=by
 obtain⟨h1,h2,h3,h4,h5⟩:=h;refine⟨h1,h2,h3,h4,fun hn=>?_⟩;obtain⟨b,off,e,hA,hb,he⟩:=h5 hn;refine⟨b,off,e,⟨hA,?_⟩,hb,fun i x hi=>?_⟩
 ·rintro rfl;cases ps with
  |nil=>simp at h1;omega
  |cons x o=>
   obtain⟨xs,⟨a',n',c',rfl,-⟩,h6⟩:=he 0 x rfl;exact hg _ _ (h6 4 _ rfl)
 ·obtain⟨xs,⟨a',n',c',e,hr,hf⟩,h6⟩:=he i x hi;exact⟨xs,⟨a',n',c',e,parts_off hr hg,hf⟩,h6⟩
theorem LkVal.off {B:Nat}{l:Lk}{v:Value}{g:Nat}{w w':World}(h:LkVal B l v w)(hz:Blk g (.cells #[.int .i64 0,.int .i64 0,.slice none 0 0,.slice none 0 0,.int .i64 0] 70 (0,0)) w)(ht:Touch (fun z=>z=g) w w'):LkVal B l v w':=by
 obtain⟨a,c,b,d,e,h1,h2⟩:=h;have hm:∀z,(Fresh B w z∧z≠g)→Fresh B w' z∧w'.heap[z]?=w.heap[z]?:=fun z hz=>⟨⟨hz.1.1,Nat.lt_of_lt_of_le hz.1.2 ht.size⟩,ht.block z hz.1.2 hz.2⟩;exact⟨a,c,b,d,e,(frames_off h1 (zero_link hz)).mono hm,(frames_off h2 (zero_link hz)).mono hm⟩
end Go.Proofs.YtkbfhgcjimfgkaaDoor
set_option linter.unusedSimpArgs false
namespace Go.Proofs.YtkbfhgcjimfgkaaDoor
open Go.RowKit
theorem fillL_all:∀(q s:List Fr)(n:Int),s.length≤8→n≤1048576→(fillL s q n).1++(fillL s q n).2.1=s++q∧(fillL s q n).1.length≤8∧s.length≤(fillL s q n).1.length∧(fillL s q n).2.2=n+((fillL s q n).1.length-s.length)∧(fillL s q n).2.2≤1048576∧((fillL s q n).2.1≠[]→(fillL s q n).1.length=8∨(fillL s q n).2.2=1048576)
 |[],s,n,h1,h2=>by rw[fillL_nil];exact⟨rfl,h1,Nat.le_refl _,by simp,h2,fun h=>absurd rfl h⟩
 |f::q,s,n,h1,h2=>by
  by_cases h:s.length<8∧n<1048576
  ·rw[fillL_go h.1 h.2];obtain⟨k1,k2,k3,k4,k5,k6⟩:=fillL_all q (s++[f]) (n+1) (by simp;omega) (by omega);simp only[List.length_append,List.length_singleton]at k3 k4;exact⟨by rw[k1];simp,k2,by omega,by rw[k4];push_cast;omega,k5,k6⟩
  ·rw[fillL_no h];exact⟨rfl,h1,Nat.le_refl _,by simp,h2,fun _=>by show s.length=8∨n=1048576;omega⟩
structure Filled (l:Lk) (r:Lk):Prop where
 ep:r.epoch=l.epoch
 he:r.heard=l.heard
 all:r.sent++r.queue=l.sent++l.queue
 s8:r.sent.length≤8
 more:l.sent.length≤r.sent.length
 nx:r.next=l.next+(r.sent.length-l.sent.length)
 mx:r.next≤1048576
 full:r.queue≠[]→r.sent.length=8∨r.next=1048576
theorem Lk.filled_all (l:Lk)(h1:l.sent.length≤8)(h2:l.next≤1048576):Filled l l.filled:=by
 obtain⟨k1,k2,k3,k4,k5,k6⟩:=fillL_all l.queue l.sent l.next h1 h2
 exact⟨rfl,rfl,k1,k2,k3,k4,k5,k6⟩
theorem frsOk_append {a b:List Fr}:frsOk (a++b)=(frsOk a&&frsOk b):=by unfold frsOk;rw[List.all_append]
theorem Filled.check {l r:Lk}(h:Filled l r)(e0:0≤l.epoch)(e1:l.epoch≤1048576)(n1:1≤l.next)(hh0:0≤l.heard)(hh1:l.heard≤1048576)(hs:(l.sent.length:Int)<l.next)(hf:frsOk (l.sent++l.queue)=true)(hq:l.next+l.queue.length<1048576)(hz:l.epoch≠0):r.check=0:=by
 have ha:=h.all;have hl:=congrArg List.length ha;simp only[List.length_append]at hl;have hm:=h.more;have hn:=h.nx;have hfr:=hf;rw[←ha,frsOk_append]at hfr;simp only[Bool.and_eq_true]at hfr;have hx:=h.mx;refine lk_make (by rw[h.ep];exact e0) (by rw[h.ep];exact e1) (by omega) (by omega) (by rw[h.he];exact hh0) (by rw[h.he];exact hh1) h.s8 (by omega) (fun hqn=>?_) hfr.1 hfr.2 (fun h0=>by rw[h.ep]at h0;exact absurd h0 hz);rcases h.full (List.length_pos_iff.1 hqn)with h'|h'
 ·exact h'
 ·omega
theorem push_all {l:Lk}(hc:l.check=0)(f:Fr):Filled ⟨l.epoch,l.next,l.sent,l.queue++[f],l.heard⟩ (l.push f):=by
 obtain⟨_,_,_,a4,_,_,a7,_⟩:=lk_zero hc;exact Lk.filled_all _ a7 a4
theorem noLk_fits:noLk.fits:=⟨by unfold I64;decide,by unfold I64;decide,by unfold I64;decide⟩
theorem sendL_fits (l:Lk)(f:Fr):(l.sendL f).fits∧(l.sendP f).length≤8:=by
 unfold Lk.sendL Lk.sendP;by_cases h:l.sendE f=0
 ·rw[if_pos h,if_pos h];obtain⟨h1,h2,h3,h4⟩:=sendE_zero h;have hF:=push_all h1 f;obtain⟨a1,a2,a3,a4,a5,a6,a7,a8,-⟩:=lk_zero h1;have hn:=hF.nx;have hm:=hF.more;have hx:=hF.mx;have h8:=hF.s8;simp only at hn hm;refine⟨⟨?_,by unfold I64;omega,?_⟩,by rw[pks_len];omega⟩
  ·rw[hF.ep];unfold I64;simp only;omega
  ·rw[hF.he];unfold I64;simp only;omega
 ·rw[if_neg h,if_neg h];exact⟨noLk_fits,by simp⟩
theorem sendL_check {l:Lk}{f:Fr}(h:l.sendE f=0)(hq:l.next+l.queue.length+1<1048576):(l.sendL f).check=0:=by
 have e:l.sendL f=l.push f:=if_pos h;rw[e];obtain⟨h1,h2,h3,h4⟩:=sendE_zero h;obtain⟨a1,a2,a3,a4,a5,a6,a7,a8,a9,a10,a11,a12⟩:=lk_zero h1;refine(push_all h1 f).check a1 a2 a3 a5 a6 a8 ?_ ?_ h2
 ·simp only;rw[frsOk_append,frsOk_append,a10,a11];simp[frsOk,h3]
 ·simp only[List.length_append,List.length_singleton];push_cast;omega
end Go.Proofs.YtkbfhgcjimfgkaaDoor
set_option linter.unusedSimpArgs false
namespace Go.Proofs.YtkbfhgcjimfgkaaDoor
open Go.RowKit
def Tn.send (t:Tn)(s:Nat)(f:Fr):Tn:=if(t.side s).l.sendE f=0 then(t.setSide s {t.side s with l:=(t.side s).l.sendL f}).post s ((t.side s).l.sendP f)else t
theorem len_setSide {t:Tn}{s:Nat}{y:Sd}:(t.setSide s y).node.sides.length=t.node.sides.length:=by show(t.node.sides.set s y).length=_;rw[List.length_set]
set_option maxRecDepth 100000 in
set_option maxHeartbeats 8000000 in
theorem ndSend_any (base g:Nat)(t:Tn)(vs:Nat→Value)(s:Nat)(f:Fr)(fa:Option Addr)(fc:Nat)(w:World)(hg:Good w)(h:WkM base g t vs w)(hs:s<t.node.sides.length)(hr:RdS (NM g vs w) w f.op fa f.op.length fc)(hf:f.fits)(hn:t.posts.length≤1000000)(hq:(t.side s).l.queue.length≤1000000):
 Calls Tryd.prog 51 #[.pointer (some ⟨g,0,none⟩),.int .i64 (s:Int),.agg #[.int .i64 f.kind,.int .i64 f.heard,.int .i64 f.epoch,.slice fa f.op.length fc,.string f.text]] w fun e w'=>e=.returned (.tuple #[])∧WkS base g (t.send s f) vs w w':=by
 have HM:=Lib.hid h;have Hg:=Lib.hid hg;have hsd:=t.side_get s hs;obtain⟨sr,so,sc,sxs,hv0,hsr1,hsr2,hsr3,hsr4,hsr5,hsr6,hsr7,hsr8⟩:=h.side s hs;obtain⟨ea,ec,la,lc,qa,qc,rfl,he1,he2,he3,hpe,hef,hlf⟩:=hsr6;rw[←hsd]at hsr7 he1 he2 he3 hpe hef hlf;have HS:=Lib.hid (fun W (hW:Good W) h1 h2 h3=>lkSend_any (t.side s).l f la qa fa (t.side s).l.sent.length lc (t.side s).l.queue.length qc f.op.length fc W hW h1 h2 h3 hlf hf hq);unfold LkPksP at HS;obtain⟨hlf',hp⟩:=sendL_fits (t.side s).l f;obtain⟨l',hl'⟩:∃l',l'=(t.side s).l.sendL f:=⟨_,rfl⟩;obtain⟨ps,hps⟩:∃ps,ps=(t.side s).l.sendP f:=⟨_,rfl⟩;obtain⟨E,hE⟩:∃E,E=(t.side s).l.sendE f:=⟨_,rfl⟩;have hTn:Hid (t.send s f=if E=0 then(t.setSide s {t.side s with l:=l'}).post s ps else t):=by unfold Hid Tn.send;rw[hl',hps,hE]
 rw[←hl',←hps,←hE]at HS;rw[←hps]at hp;rw[←hl']at hlf';have HNP:=Lib.hid (fun W=>node_ptr g W);have HV0:=Lib.hid hv0;have Hmine:=Lib.hid h.mine;have Hlf:=Lib.hid hlf';have Hp:=Lib.hid hp;have Hn:=Lib.hid hn;have HR:=Lib.hid hr;have hsI:(s:Int)<(sc:Int):=by omega
 have hsI2:(s:Int)<(t.node.sides.length:Int):=by omega
 have hsc:(sc:Int)≤9223372036854775807:=by unfold maxLen at hsr5;omega
 have hLc:∀W:World,W.heap[sr]?=w.heap[sr]?→W.cell? ⟨sr,so+s*10+5,none⟩=some (.int .i64 (t.side s).l.epoch)∧W.cell? ⟨sr,so+s*10+6,none⟩=some (.int .i64 (t.side s).l.next)∧W.cell? ⟨sr,so+s*10+7,none⟩=some (.slice la (t.side s).l.sent.length lc)∧W.cell? ⟨sr,so+s*10+8,none⟩=some (.slice qa (t.side s).l.queue.length qc)∧W.cell? ⟨sr,so+s*10+9,none⟩=some (.int .i64 (t.side s).l.heard):=fun W hW=>⟨(cell_keep hW).trans (hsr7 5 _ rfl),(cell_keep hW).trans (hsr7 6 _ rfl),(cell_keep hW).trans (hsr7 7 _ rfl),(cell_keep hW).trans (hsr7 8 _ rfl),(cell_keep hW).trans (hsr7 9 _ rfl)⟩;have HLc:=Lib.hid hLc;have HFr:=Lib.hid (fun j (hj:j<sc*10)=>hsr8 j hj);have RS:=Lib.hid (he2.mono fun z hz=>⟨hz.1,rfl⟩:RdS (· <w.heap.size) w (t.side s).l.sent la (t.side s).l.sent.length lc);have RQ:=Lib.hid (he3.mono fun z hz=>⟨hz.1,rfl⟩:RdS (· <w.heap.size) w (t.side s).l.queue qa (t.side s).l.queue.length qc);have RF:=Lib.hid (hr.mono fun z hz=>⟨hz.1,rfl⟩:RdS (· <w.heap.size) w f.op fa f.op.length fc);generalize hlk:(t.side s).l=lk at*;clear hlk hl' hps hE hlf' hp hr hn he1 he2 he3 hLc hsr7 hsr8 hlf hef hpe hsd hf hq hv0;generalize hNS:t.node.sides.length=NS at*;have HNS:=Lib.hid hNS;have bx:=h.box;obtain⟨-,-,-,-,-,p5,-⟩:=blk10_cells bx;rw[HV0.out]at p5;clear h hg bx hNS;go_enter Tryd.func51,Tryd.ntmps51;go_wp2_with fail;refine abs_run (fun W=>Below w.heap.size w W∧Blk w.heap.size (.cells #[.int .i64 f.kind,.int .i64 f.heard,.int .i64 f.epoch,.slice fa f.op.length fc,.string f.text] 44 (0,0)) W) ⟨(Below.refl _ _).alloc (Nat.le_refl _) _,Blk.new w _⟩ ?_;rintro w1 ⟨u1,x1⟩;have B1:=Lib.hid u1;have XF:=Lib.hid x1;have hz1:=x1.lt;have hz01:=u1.size;have p5':=(u1.cell (p:=⟨g,5,none⟩) (HM.out.lt)).trans p5;clear u1 x1 p5;refine(HNP.out w1).mono ?_;rintro e W' ⟨rfl,rfl⟩;go_wp2_with fail;clear p5';obtain⟨Vp,HV⟩:∃Vp:Nat→Value→World→Prop,Hid (Vp=fun i v W=>match i with
  |0=>v=.pointer (some ⟨sr,so+s*10,none⟩)
  |1=>v=.pointer (some ⟨sr,so+s*10,none⟩)
  |2=>v=.pointer (some ⟨sr,so+s*10+5,none⟩)
  |3=>v=.agg #[.int .i64 lk.epoch,.int .i64 lk.next,.slice la lk.sent.length lc,.slice qa lk.queue.length qc,.int .i64 lk.heard]
  |4=>v=.agg #[.int .i64 f.kind,.int .i64 f.heard,.int .i64 f.epoch,.slice fa f.op.length fc,.string f.text]
  |5=>∃y z,v=.tuple #[y,z,.int .i64 E]∧LkVal w1.heap.size l' y W∧PsVal w1.heap.size ps z W
  |6=>∃y z,v=.tuple #[y,z,.int .i64 E]∧LkVal w1.heap.size l' y W∧PsVal w1.heap.size ps z W
  |7=>∃y,v=y∧LkVal w1.heap.size l' y W
  |8=>∃y,v=y∧PsVal w1.heap.size ps y W
  |9=>v=.int .i64 E
  |10=>∃gL,v=.pointer (some ⟨gL,0,none⟩)∧w1.heap.size≤gL∧Blk gL (.cells #[.int .i64 0,.int .i64 0,.slice none 0 0,.slice none 0 0,.int .i64 0] 70 (0,0)) W
  |11=>v=undef
  |12=>∃y,v=y∧PsVal w1.heap.size ps y W
  |_=>v=.int .i64 E):=⟨_,rfl⟩
 obtain⟨Ip,HIp⟩:∃Ip:(Nat→Bool)→(Nat→Value)→World→Prop,Hid (Ip=fun L x W=>(Below w1.heap.size w1 W∧(L 11=true→∃gL,x 10=.pointer (some ⟨gL,0,none⟩)∧w1.heap.size≤gL∧LkBox w1.heap.size gL l' W))):=⟨_,rfl⟩;refine region_lit3 (by kernel_rfl) (by kernel_rfl) (by kernel_rfl) [[],[0],[0,1],[0,1,2],[],[0,1,2,3,4],[0,1,2,3,4,5],[0,1,2,3,4,5,6],[0,1,2,3,4,5,6],[0,1,2,3,4,5,6],[],[0,1,2,3,4,5,6,7,10],[0,1,2,3,4,5,6,8],[0,1,2,3,4,5,6,9]] (by kernel_rfl) [some 18,some 19,some 20,some 21,some 22,some 23,some 17,some 24,some 25,some 26,some 7,none,some 8,some 9] (by kernel_rfl) [[0,1,2,3,5,6,7,8,9,11,12,13],[1,2,3,5,6,7,8,9,11,12,13],[2,3,5,6,7,8,9,11,12,13],[3,5,6,7,8,9,11,12,13],[4,5,6,7,8,9,11,12,13],[5,6,7,8,9,11,12,13],[6,7,8,9,11,12,13],[7,11],[8,12],[9,13],[10,11],[11],[12],[13]] (by kernel_rfl) [[],[],[],[],[],[],[],[11],[],[],[11],[],[],[]] [[],[0],[1],[2],[],[3,4],[5],[6],[6],[6],[],[7,10],[8],[9]] (by kernel_rfl)
  Ip
  Vp
  (fun j W W'=>match j with
   |11=>∃gL,Blk gL (.cells #[.int .i64 0,.int .i64 0,.slice none 0 0,.slice none 0 0,.int .i64 0] 70 (0,0)) W∧Touch (fun z=>z=gL) W W'∧w1.heap.size≤gL
   |_=>Below W.heap.size W W')
  [fun x=>⟨(fZm 6 (.pointer (some ⟨sr,so+s*10,none⟩)) (fEm 12)).toArray,[]⟩,fun x=>⟨(fZm 18 (x 0) (fEm 1)).toArray,[]⟩,fun x=>⟨(fZm 19 (x 1) (fEm 1)).toArray,[]⟩,fun x=>⟨(fZm 20 (x 2) (fEm 1)).toArray,[]⟩,fun x=>⟨(fZm 5 (.pointer (some ⟨w.heap.size,0,none⟩)) (fEm 17)).toArray,[]⟩,fun x=>⟨(fZm 21 (x 3) (fZm 0 (x 4) (fEm 1))).toArray,[]⟩,fun x=>⟨(fZm 23 (x 5) []).toArray,[]⟩,fun x=>⟨(fZm 17 (x 6) (fEm 7)).toArray,[]⟩,fun x=>⟨(fZm 17 (x 6) (fEm 8)).toArray,[]⟩,fun x=>⟨(fZm 17 (x 6) (fEm 9)).toArray,[]⟩,fun x=>⟨(fEm 8).toArray,[]⟩,fun x=>⟨(fZm 7 (x 10) (fZm 16 (x 7) [])).toArray,[]⟩,fun x=>⟨(fZm 25 (x 8) []).toArray,[]⟩,fun x=>⟨(fZm 26 (x 9) []).toArray,[]⟩]
  ?hF ?mono ?h0 ?step [0,1,2,3,4,5,6,8,9,11,12,13] (by kernel_rfl) ?fin
 case hF=>
  iterate 14 refine⟨fun x=>⟨by kernel_rfl,by kernel_rfl⟩,?_⟩
  trivial
 case mono=>
  intro i j hi hj hne hna hnk v W W' hE hv;rw[HV.out]at hv⊢;simp only[List.length_cons,List.length_nil]at hi hj
  match i,hi with
  |0,_|1,_|2,_|3,_|4,_|9,_|11,_|13,_=>exact hv
  |5,_=>
   match j,hj with
   |5,_=>exact absurd rfl hne
   |0,_|1,_|2,_|3,_|4,_=>exact absurd (by simp) hna
   |6,_|7,_|8,_|9,_|10,_|12,_|13,_=>exact(by obtain⟨y,z,e,h,k⟩:=hv;exact⟨y,z,e,h.go hE,k.go hE⟩)
   |11,_=>exact(by obtain⟨y,z,e,h,k⟩:=hv;obtain⟨q,hz,ht,-⟩:=hE;exact⟨y,z,e,h.off hz ht,k.off hz ht⟩)
   |m+14,h=>exact absurd h (by omega)
  |6,_=>
   match j,hj with
   |6,_=>exact absurd rfl hne
   |0,_|1,_|2,_|3,_|4,_|5,_=>exact absurd (by simp) hna
   |7,_|8,_|9,_|10,_|12,_|13,_=>exact(by obtain⟨y,z,e,h,k⟩:=hv;exact⟨y,z,e,h.go hE,k.go hE⟩)
   |11,_=>exact(by obtain⟨y,z,e,h,k⟩:=hv;obtain⟨q,hz,ht,-⟩:=hE;exact⟨y,z,e,h.off hz ht,k.off hz ht⟩)
   |m+14,h=>exact absurd h (by omega)
  |7,_=>
   match j,hj with
   |7,_=>exact absurd rfl hne
   |0,_|1,_|2,_|3,_|4,_|5,_|6,_=>exact absurd (by simp) hna
   |11,_=>exact absurd (by simp) hnk
   |8,_|9,_|10,_|12,_|13,_=>exact(by obtain⟨y,e,h⟩:=hv;exact⟨y,e,h.go hE⟩)
   |m+14,h=>exact absurd h (by omega)
  |8,_=>
   match j,hj with
   |8,_=>exact absurd rfl hne
   |0,_|1,_|2,_|3,_|4,_|5,_|6,_=>exact absurd (by simp) hna
   |7,_|9,_|10,_|12,_|13,_=>exact(by obtain⟨y,e,h⟩:=hv;exact⟨y,e,h.go hE⟩)
   |11,_=>exact(by obtain⟨y,e,h⟩:=hv;obtain⟨q,hz,ht,-⟩:=hE;exact⟨y,e,h.off hz ht⟩)
   |m+14,h=>exact absurd h (by omega)
  |10,_=>
   match j,hj with
   |10,_=>exact absurd rfl hne
   |11,_=>exact absurd (by simp) hnk
   |0,_|1,_|2,_|3,_|4,_|5,_|6,_|7,_|8,_|9,_|12,_|13,_=>exact(by obtain⟨q,h1,h2,h3⟩:=hv;exact⟨q,h1,h2,h3.go hE⟩)
   |m+14,h=>exact absurd h (by omega)
  |12,_=>
   match j,hj with
   |12,_=>exact absurd rfl hne
   |0,_|1,_|2,_|3,_|4,_|5,_|6,_|8,_=>exact absurd (by simp) hna
   |7,_|9,_|10,_|13,_=>exact(by obtain⟨y,e,h⟩:=hv;exact⟨y,e,h.go hE⟩)
   |11,_=>exact(by obtain⟨y,e,h⟩:=hv;obtain⟨q,hz,ht,-⟩:=hE;exact⟨y,e,h.off hz ht⟩)
   |m+14,h=>exact absurd h (by omega)
  |m+14,h=>exact absurd h (by omega)
 case h0=>intro x;exact toI HIp ⟨(Below.refl _ _).drew,(fun h=>by cases h)⟩
 case step=>
  refine⟨?_,?_,?_,?_,?_,?_,?_,?_,?_,?_,?_,?_,?_,?_,trivial⟩
  all_goals
   intro x W L hI hL hV;replace hI:(Below w1.heap.size w1 W∧(L 11=true→∃gL,x 10=.pointer (some ⟨gL,0,none⟩)∧w1.heap.size≤gL∧LkBox w1.heap.size gL l' W)):=ofI HIp hI;rw[HV.out]at hV;simp only[AllV,and_true]at hV;dsimp only[fZm,fEm,List.reduceReplicate,List.cons_append,List.nil_append]
  ·clear hV;have HI:=Lib.hid hI;clear hI;go_wp2_with fail;refine step3_done rfl ?_ ?_ ?_
   ·exact(toI HIp HI.out)
   ·exact(Below.refl _ _)
   ·exact(toV HV rfl)
  ·have u0:=hV;clear hV;simp only[u0];clear u0;have HI:=Lib.hid hI;clear hI;go_wp2_with fail;refine step3_done rfl ?_ ?_ ?_
   ·exact(toI HIp HI.out)
   ·exact(Below.refl _ _)
   ·exact(toV HV rfl)
  ·have u1:=hV;clear hV;simp only[u1];clear u1;have HI:=Lib.hid hI;clear hI;go_wp2_with fail;refine step3_done rfl ?_ ?_ ?_
   ·exact(toI HIp HI.out)
   ·exact(Below.refl _ _)
   ·exact(toV HV rfl)
  ·have u2:=hV;clear hV;simp only[u2];clear u2;obtain⟨p5,p6,p7,p8,p9⟩:=HLc.out W ((hI.1.block sr (by omega)).trans (B1.out.block sr hsr2));have HI:=Lib.hid hI;clear hI;go_wp2_with fail;refine step3_done rfl ?_ ?_ ?_
   ·exact(toI HIp HI.out)
   ·exact(Below.refl _ _)
   ·exact(toV HV rfl)
  ·clear hV;obtain⟨q0,q1,q2,q3,q4⟩:=blk_cells5 (XF.out.go hI.1);have HI:=Lib.hid hI;clear hI;go_wp2_with fail;refine step3_done rfl ?_ ?_ ?_
   ·exact(toI HIp HI.out)
   ·exact(Below.refl _ _)
   ·exact(toV HV rfl)
  ·obtain⟨u3,u4⟩:=hV;simp only[u3,u4];clear u3 u4;have HL:=Lib.hid hL;have HI:=Lib.hid hI;have hzW:=hI.1.size;have hu:=Lib.hid (up B1.out hI.1);clear hI hL;go_wp2_with fail;refine(HS.out _ (Hg.out.go hu.out) (RS.out.go hu.out) (RQ.out.go hu.out) (RF.out.go hu.out)).mono ?_;rintro e W' ⟨xa,xc,ya,yc,pa,pc,rfl,t1,t2,t3,hb⟩;go_wp2_with fail;refine step3_done rfl ?_ ?_ ?_
   ·exact(toI HIp ⟨up HI.out.1 hb,fun h=>absurd ((HL.out.2 11 (by simp)).symm.trans h) (by simp)⟩)
   ·exact hb
   ·exact(toV HV ⟨_,_,rfl,LkVal.deep ⟨xa,xc,ya,yc,rfl,t1,t2⟩ hzW,PsVal.deep ⟨pa,pc,rfl,t3⟩ hzW⟩)
  ·obtain⟨y5,z5,u5,h5,k5⟩:=hV;simp only[u5];have U5:=Lib.hid u5;clear u5;have HI:=Lib.hid hI;clear hI;go_wp2_with fail;refine step3_done rfl ?_ ?_ ?_
   ·exact(toI HIp HI.out)
   ·exact(Below.refl _ _)
   ·exact(toV HV ⟨_,_,rfl,h5,k5⟩)
  ·obtain⟨y6,z6,u6,h6,k6⟩:=hV;simp only[u6];have U6:=Lib.hid u6;clear u6;have HI:=Lib.hid hI;clear hI;go_wp2_with fail;refine step3_done rfl ?_ ?_ ?_
   ·exact(toI HIp HI.out)
   ·exact(Below.refl _ _)
   ·exact(toV HV ⟨_,rfl,h6⟩)
  ·obtain⟨y6,z6,u6,h6,k6⟩:=hV;simp only[u6];have U6:=Lib.hid u6;clear u6;have HI:=Lib.hid hI;clear hI;go_wp2_with fail;refine step3_done rfl ?_ ?_ ?_
   ·exact(toI HIp HI.out)
   ·exact(Below.refl _ _)
   ·exact(toV HV ⟨_,rfl,k6⟩)
  ·obtain⟨y6,z6,u6,h6,k6⟩:=hV;simp only[u6];have U6:=Lib.hid u6;clear u6;have HI:=Lib.hid hI;clear hI;go_wp2_with fail;refine step3_done rfl ?_ ?_ ?_
   ·exact(toI HIp HI.out)
   ·exact(Below.refl _ _)
   ·exact(toV HV rfl)
  ·clear hV;have HL:=Lib.hid hL;have HI:=Lib.hid hI;have hzW:=hI.1.size;clear hI hL;go_wp2_with fail;have uW:∀o,Below W.heap.size W (W.alloc o):=fun o=>(Below.refl _ _).alloc (Nat.le_refl _) o;refine step3_done rfl ?_ ?_ ?_
   ·exact(toI HIp ⟨up HI.out.1 (uW _),fun h=>absurd ((HL.out.2 11 (by simp)).symm.trans h) (by simp)⟩)
   ·exact(uW _)
   ·exact(toV HV ⟨_,rfl,hzW,Blk.new _ _⟩)
  ·obtain⟨⟨y7,u7,h7⟩,⟨g10,u10,l10,b10⟩⟩:=hV;simp only[u10,u7];have U7:=Lib.hid u7;have U10:=Lib.hid u10;clear u7 u10;have hoff:=fun W' (ht:Touch (fun z=>z=g10) W W')=>h7.off b10 ht;obtain⟨sb,sd,qb,qd,rfl,-,-⟩:=h7;obtain⟨q0,q1,q2,q3,q4⟩:=blk_cells5 b10;have fW:=b10.frozen;have hg9:=b10.lt;have B7:=Lib.hid (blk_set5 b10 (.int .i64 l'.epoch) (.int .i64 l'.next) (.slice sb l'.sent.length sd) (.slice qb l'.queue.length qd) (.int .i64 l'.heard));have HT:=Lib.hid (touch5 W g10 (.int .i64 l'.epoch) (.int .i64 l'.next) (.slice sb l'.sent.length sd) (.slice qb l'.queue.length qd) (.int .i64 l'.heard));have HLV:=Lib.hid (hoff _ HT.out);have HI:=Lib.hid hI;have HB9:=Lib.hid b10;clear hI b10 hoff;go_wp2_with fail;refine step3_done (v:=undef) rfl (toI HIp ⟨HI.out.1.trans (HT.out.toBelow HI.out.1.size (fun k hk=>by omega)),fun _=>⟨g10,U10.out,l10,?_⟩⟩) ⟨g10,HB9.out,HT.out,l10⟩ (toV HV rfl);obtain⟨sb',sd',qb',qd',e',t1,t2⟩:=HLV.out;simp only[Value.agg.injEq,Array.mk.injEq,List.cons.injEq,Value.slice.injEq,true_and,and_true]at e';obtain⟨⟨rfl,rfl⟩,rfl,rfl⟩:=e';exact⟨sb,sd,qb,qd,B7.out,t1,t2⟩
  ·obtain⟨y8,u8,h8⟩:=hV;simp only[u8];have U8:=Lib.hid u8;clear u8;have HI:=Lib.hid hI;clear hI;go_wp2_with fail;refine step3_done rfl ?_ ?_ ?_
   ·exact(toI HIp HI.out)
   ·exact(Below.refl _ _)
   ·exact(toV HV ⟨_,rfl,h8⟩)
  ·have u9:=hV;clear hV;simp only[u9];clear u9;have HI:=Lib.hid hI;clear hI;go_wp2_with fail;refine step3_done rfl ?_ ?_ ?_
   ·exact(toI HIp HI.out)
   ·exact(Below.refl _ _)
   ·exact(toV HV rfl)
 case fin=>
  intro x W L hL hI hV;replace hI:(Below w1.heap.size w1 W∧(L 11=true→∃gL,x 10=.pointer (some ⟨gL,0,none⟩)∧w1.heap.size≤gL∧LkBox w1.heap.size gL l' W)):=ofI HIp hI;rw[HV.out]at hV;simp only[AllV,and_true]at hV;obtain⟨u0,u1,u2,u3,u4,⟨y5,z5,u5,h5,k5⟩,⟨y6,z6,u6,h6,k6⟩,⟨y8,u8,h8⟩,u9,u11,⟨y12,u12,h12⟩,u13⟩:=hV;simp only[getsD,List.getD_cons_succ,List.getD_cons_zero,List.length_cons,List.length_nil,List.range,List.range.loop,u0,u1,u2,u3,u4,u5,u6,u8,u9,u11,u12,u13,Act.put,List.setIfInBounds_toArray,List.set_cons_succ,List.set_cons_zero];clear u0 u1 u2 u3 u4 u5 u6 u8 u9 u11 u12 u13;obtain⟨gL,hxL,hlL,bL⟩:=hI.2 (hL 11 (by simp));have hb:=hI.1;simp only[hxL];obtain⟨sb,sd,qb,qd,bL2,rl1,rl2⟩:=bL;have hrw:W.heap[sr]?=w.heap[sr]?:=(hb.block sr (by omega)).trans (B1.out.block sr hsr2);have B2:=Lib.hid (up B1.out hb);have M2:=Lib.hid (HM.out.go B2.out);obtain⟨pa,pc,rfl,rp⟩:=h12;have RP:=Lib.hid rp;have XL:=Lib.hid bL2;have RL:=Lib.hid (And.intro rl1 rl2);have hz2:=hb.size;obtain⟨w2,rfl⟩:∃x:World,x=W:=⟨_,rfl⟩;clear hI hL hb bL2 rl1 rl2 rp HS RS RQ B1 XF;by_cases hE0:E=0
  ·subst hE0;obtain⟨p5,p6,p7,p8,p9⟩:=HLc.out w2 hrw;have hfr:∀j,j<sc*10→w2.frozen? ⟨sr,so+j,none⟩=false:=fun j hj=>(World.frozen?_of_block (a:=⟨sr,so+j,none⟩) hrw).trans (HFr.out j hj);have f5:w2.frozen? ⟨sr,so+s*10+5,none⟩=false:=hfr (s*10+5) (by omega);have f6:w2.frozen? ⟨sr,so+s*10+6,none⟩=false:=hfr (s*10+6) (by omega);have f7:w2.frozen? ⟨sr,so+s*10+7,none⟩=false:=hfr (s*10+7) (by omega);have f8:w2.frozen? ⟨sr,so+s*10+8,none⟩=false:=hfr (s*10+8) (by omega);have f9:w2.frozen? ⟨sr,so+s*10+9,none⟩=false:=hfr (s*10+9) (by omega);obtain⟨q0,q1,q2,q3,q4⟩:=blk_cells5 XL.out;have hfresh:∀z,Fresh w1.heap.size w2 z→z<w2.heap.size∧¬WX base g vs z∧z≠sr:=fun z hz=>⟨hz.2,(fun h=>by
    rcases h with h|h
    ·have:=HM.out.gb;have:=HM.out.lt;have:=hz.1;omega
    ·have:=(Hmine.out z h).2;have:=hz.1;omega),fun e=>by have:=hz.1;omega⟩
   obtain⟨hu1,hu2⟩:=M2.out.updLink s (by rw[HNS.out];exact hs) (by rw[HNS.out];exact HV0.out) l' Hlf.out sb sd qb qd (RL.out.1.mono fun z hz=>⟨hfresh z hz,rfl⟩) (RL.out.2.mono fun z hz=>⟨hfresh z hz,rfl⟩);obtain⟨W3,hW3⟩:∃W3,W3=((((w2.setCell ⟨sr,so+s*10+5,none⟩ (.int .i64 l'.epoch)).setCell ⟨sr,so+s*10+5+1,none⟩ (.int .i64 l'.next)).setCell ⟨sr,so+s*10+5+2,none⟩ (.slice sb l'.sent.length sd)).setCell ⟨sr,so+s*10+5+3,none⟩ (.slice qb l'.queue.length qd)).setCell ⟨sr,so+s*10+5+4,none⟩ (.int .i64 l'.heard):=⟨_,rfl⟩;have M3:Hid (WkM base g (t.setSide s {t.side s with l:=l'}) vs W3):=by rw[hW3];exact hu1
   have T3:Hid (Touch (Mine g vs) w2 W3):=by rw[hW3];exact hu2
   have T03:Hid (Touch (Mine g vs) w W3):=(Touch.of_below B2.out).trans T3.out;have hT2:t.send s f=(t.setSide s {t.side s with l:=l'}).post s ps:=by rw[hTn.out,if_pos rfl]
   have HT2:=Lib.hid hT2;have HW3:=Lib.hid hW3;have RP3:Hid (RdS (NB base g vs W3) W3 ps pa ps.length pc):=(RP.out.mono fun z hz=>⟨⟨by have:=HM.out.gb;have:=HM.out.lt;have:=hz.1;omega,Nat.lt_of_lt_of_le hz.2 T3.out.size,fun h=>by have:=(Hmine.out z h).2;have:=hz.1;omega⟩,T3.out.block z hz.2 (fun h=>by have:=(Hmine.out z h).2;have:=hz.1;omega)⟩:RdS (NB base g vs W3) W3 ps pa ps.length pc);clear hfr hrw hu1 hu2 hW3 hT2 hfresh RP RL M2 B2 XL;go_wp2_with fail;rw[←HW3.out];refine(post_any base g _ vs s ps pa pc W3 M3.out (by rw[len_setSide,HNS.out];exact hs) RP3.out Hn.out (by have:=Hp.out;omega)).mono ?_;rintro e w4 ⟨rfl,m4⟩;have HW:Hid (WkS base g (t.send s f) vs w w4):=by rw[HT2.out];exact WkS.trans T03.out (fun z h=>.inl h) m4
   clear m4 HT2;go_wp2_with fail;go_end0;exact⟨rfl,HW.out⟩
  ·have hEb:(E==0)=false:=by simpa using hE0
   have hT2:t.send s f=t:=by rw[hTn.out,if_neg hE0]
   have HW:Hid (WkS base g (t.send s f) vs w w2):=by rw[hT2];exact HM.out.stayB B2.out
   clear hT2 hrw;go_wp2_with fail;go_end0;exact⟨rfl,HW.out⟩
end Go.Proofs.YtkbfhgcjimfgkaaDoor
