/- The walk of node.Edit. -/
import Derived.Test.YtkbfhgcjimfgkaaDoorPartC5
import Derived.Test.YtkbfhgcjimfgkaaDoorPartC9
import Derived.Test.YtkbfhgcjimfgkaaDoorPartC6
import Derived.Test.YtkbfhgcjimfgkaaDoorPartC1
import Derived.Test.YtkbfhgcjimfgkaaDoorPartB5
import Derived.Test.YtkbfhgcjimfgkaaDoorPartC2
import Derived.Test.YtkbfhgcjimfgkaaDoorPartA3
set_option linter.unusedVariables false
set_option linter.unusedSimpArgs false
set_option linter.unusedSimpArgs false
namespace Go.Proofs.YtkbfhgcjimfgkaaDoor
open Go.RowKit
theorem isFrom_any (src:Int)(fb:Nat)(s:Sd)(ea:Option Addr)(ec:Nat)(la:Option Addr)(lc:Nat)(qa:Option Addr)(qc:Nat)(w:World)(hx:Blk fb (.cells #[.int .i64 src] 3 (0,0)) w):Calls Tryd.prog 39 #[.agg #[.int .i64 s.peer,.bool s.joined,.int .i64 s.e.sent,.int .i64 s.e.heard,.slice ea s.e.pending.length ec,.int .i64 s.l.epoch,.int .i64 s.l.next,.slice la s.l.sent.length lc,.slice qa s.l.queue.length qc,.int .i64 s.l.heard],.pointer (some ⟨fb,0,none⟩)] w fun e w'=>e=.returned (.bool (isFrom src s))∧Below w.heap.size w w':=by
 unfold isFrom;have HB:Hid (Below w.heap.size w (w.alloc (.cells #[.int .i64 s.peer,.bool s.joined,.int .i64 s.e.sent,.int .i64 s.e.heard,.slice ea s.e.pending.length ec,.int .i64 s.l.epoch,.int .i64 s.l.next,.slice la s.l.sent.length lc,.slice qa s.l.queue.length qc,.int .i64 s.l.heard] 72))):=(Below.refl _ _).alloc (Nat.le_refl _) _;have q0:w.cell? ⟨fb,0,none⟩=some (.int .i64 src):=hx.cell 0;have hlt:=hx.lt;clear hx;go_enter Tryd.func39,Tryd.ntmps39;go_wp2_with fail
 go_ret
 exact⟨rfl,HB.out⟩
set_option maxRecDepth 100000 in
set_option maxHeartbeats 2000000 in
theorem srcIx_any (l:List Sd)(a:Option Addr)(n c:Nat)(src:Int)(fb:Nat)(w:World)(hx:Blk fb (.cells #[.int .i64 src] 3 (0,0)) w)(hr:RdS (· <w.heap.size) w l a n c):
 Calls Tryd.prog 38 #[.slice a n c,.func (.func 39) #[] #[.pointer (some ⟨fb,0,none⟩)]] w fun e w'=>e=.returned (.int .i64 (ixOf (isFrom src) l))∧Below w.heap.size w w':=by
 have hnl:=hr.1;have hnc:=hr.2.1;have hnm:c≤maxLen:=hr.2.2.1;unfold maxLen at hnm;obtain⟨R,hR⟩:∃R,R=ixOf (isFrom src) l:=⟨_,rfl⟩;rw[←hR];have HR:=Lib.hid hR;have Hr:=Lib.hid hr;have HX:=Lib.hid hx;have Hl:=Lib.hid hnl;clear hR hr hnl hx;go_enter Tryd.func38,Tryd.ntmps38;go_wp2_with fail;go_loopw [8] (fun i wr=>∃k:Nat,k≤n∧i=.int .i64 k∧(∀x∈l.take k,(isFrom src) x=false)∧Below w.heap.size w wr) (fun i _=>n-(intOf i).toNat)
 case atStart=>exact⟨0,by omega,rfl,by simp,Below.refl _ _⟩
 case round=>
  obtain⟨k,hk,rfl,hok,hb⟩:=hrel;have Hok:=Lib.hid hok;have HB:=Lib.hid hb;clear hok hb;by_cases hlt:k<n
  ·have hkl:k<l.length:=by have:=Hl.out;omega
   have hlt':(k:Int)<(n:Int):=by omega
   have hkc:(k:Int)<(c:Int):=by omega
   obtain⟨sb,so,xs,rfl,hA,hsb,⟨ea,ec,la,lc,qa,qc,rfl,-⟩,hcl⟩:=(Hr.out.go HB.out).elem k hkl;have y0:wr.cell? ⟨sb,so+k*10,none⟩=some _:=hcl 0 _ rfl;have y1:wr.cell? ⟨sb,so+k*10+1,none⟩=some _:=hcl 1 _ rfl;have y2:wr.cell? ⟨sb,so+k*10+2,none⟩=some _:=hcl 2 _ rfl;have y3:wr.cell? ⟨sb,so+k*10+3,none⟩=some _:=hcl 3 _ rfl;have y4:wr.cell? ⟨sb,so+k*10+4,none⟩=some _:=hcl 4 _ rfl;have y5:wr.cell? ⟨sb,so+k*10+5,none⟩=some _:=hcl 5 _ rfl;have y6:wr.cell? ⟨sb,so+k*10+6,none⟩=some _:=hcl 6 _ rfl;have y7:wr.cell? ⟨sb,so+k*10+7,none⟩=some _:=hcl 7 _ rfl;have y8:wr.cell? ⟨sb,so+k*10+8,none⟩=some _:=hcl 8 _ rfl;have y9:wr.cell? ⟨sb,so+k*10+9,none⟩=some _:=hcl 9 _ rfl;have Htk:=Lib.hid (takeNext l k hkl);have Hdr:=Lib.hid (List.drop_eq_getElem_cons hkl);have HC:=Lib.hid (isFrom_any src fb l[k] ea ec la lc qa qc wr (HX.out.go HB.out));generalize l[k]=x at*;clear hcl;by_cases hc:(isFrom src) x=false
   ·rw[hc]at HC;have Hc:=Lib.hid hc;clear hc;go_wp2_with fail;refine HC.out.mono ?_;rintro e w2 ⟨rfl,u2⟩;have HB2:=Lib.hid (up HB.out u2);clear u2;go_wp2_with fail;go_roundw
    case rel=>exact⟨k+1,by omega,by go_num,fun f hf=>by
     rw[Htk.out]at hf;rcases List.mem_append.1 hf with hf|hf
     ·exact Hok.out f hf
     ·rw[List.mem_singleton.1 hf];exact Hc.out,HB2.out⟩
    case measure=>simp[intOf];omega
   ·have hc1:(isFrom src) x=true:=by simpa using hc
    rw[hc1]at HC;have hRk:R=(k:Int):=by
     rw[HR.out];unfold ixOf;rw[fstIx_drop (isFrom src) l k Hok.out,Hdr.out];unfold fstIx;rw[if_pos hc1];simp
    subst hRk;clear hc hc1 HR;go_wp2_with fail;refine HC.out.mono ?_;rintro e w2 ⟨rfl,u2⟩;have HB2:=Lib.hid (up HB.out u2);clear u2;go_wp2_with fail
    go_ret
    exact⟨rfl,HB2.out⟩
  ·have hkn:k=n:=by omega
   have hRk:R= -1:=by
    rw[HR.out];unfold ixOf;rw[fstIx_drop (isFrom src) l k Hok.out,List.drop_of_length_le (by have:=Hl.out;omega)];rfl
   have hlt':¬((k:Int)<(n:Int)):=by omega
   subst hRk;clear HR hkn;go_wp2_with fail
   go_ret
   exact⟨rfl,HB.out⟩
end Go.Proofs.YtkbfhgcjimfgkaaDoor
set_option linter.unusedSimpArgs false
namespace Go.Proofs.YtkbfhgcjimfgkaaDoor
open Go.RowKit
theorem told_posts (t:Tn)(s:Nat)(f:Fr):(t.told s f).posts.length≤t.posts.length+8*t.node.sides.length:=by
 unfold Tn.told;split
 ·unfold Tn.heard;split
  ·omega
  ·split
   ·omega
   ·have h1:=fwdK_posts ((t.take s f).recd (t.heardO s f)) (t.heardO s f) (s:Int) (t.take s f).node.sides.length;rw[recd_posts]at h1;have h2:(t.take s f).posts=t.posts:=rfl;have h3:(t.take s f).node.sides.length=t.node.sides.length:=by rw[take_node];exact List.length_set ..
    rw[h2,h3]at h1
    show(Tn.fwdK _ _ _ (t.take s f).node.sides.length).posts.length≤_
    rw[h3];exact h1
 ·split
  ·show t.posts.length≤_;omega
  ·omega
theorem session_posts (t:Tn)(s:Nat)(p:Pkt):(t.session s p).posts.length≤t.posts.length+9+8*t.node.sides.length:=by
 unfold Tn.session;by_cases hE:(t.side s).l.hearE p=0
 ·rw[if_neg (by simpa using hE)];have h1:(t.linked s p).posts.length≤t.posts.length+9:=by
   show(t.posts++_).length≤_
   rw[List.length_append,List.length_map];have:=hearP_len hE;omega
  have h2:(t.linked s p).node.sides.length=t.node.sides.length:=List.length_set ..;split
  ·have:=told_posts (t.linked s p) s ((t.side s).l.hearF p);omega
  ·omega
 ·rw[if_pos hE];omega
theorem one_pkt {A:Nat→Prop}{b T:Nat}{W:World}{ep:Int}(h:Blk b (.cells #[.int .i64 0,.int .i64 0,.bool true,.int .i64 ep,.int .i64 0,.int .i64 0,.int .i64 0,.slice none 0 0,.string ⟨#[]⟩] T (0,0)) W)(h64:I64 ep)(hA:A b):RdS A W ([⟨0,0,true,ep,bareFr⟩]:List Pkt) (some ⟨b,0,none⟩) 1 1:=by
 refine⟨rfl,Nat.le_refl _,by unfold maxLen;omega,(fun h=>by cases h),fun _=>⟨b,0,rfl,hA,h.lt,fun i x hi=>?_⟩⟩;have hi0:i=0:=by
  have:=(List.getElem?_eq_some_iff.1 hi).1;simpa using this
 subst hi0;have e:(⟨0,0,true,ep,bareFr⟩:Pkt)=x:=by simpa using hi
 subst e;refine⟨[.int .i64 0,.int .i64 0,.bool true,.int .i64 ep,.int .i64 0,.int .i64 0,.int .i64 0,.slice none 0 0,.string ⟨#[]⟩],?_,fun j u hu=>?_⟩
 ·exact⟨none,0,0,rfl,RdS.nil _ _,by show I64 0;unfold I64;omega,by show I64 0;unfold I64;omega,h64,by show I64 0;unfold I64;omega,by show I64 0;unfold I64;omega,by show I64 0;unfold I64;omega,Nat.zero_le _⟩
 ·match j,hu with
  |0,hu=>exact(h.cell 0).trans hu
  |1,hu=>exact(h.cell 1).trans hu
  |2,hu=>exact(h.cell 2).trans hu
  |3,hu=>exact(h.cell 3).trans hu
  |4,hu=>exact(h.cell 4).trans hu
  |5,hu=>exact(h.cell 5).trans hu
  |6,hu=>exact(h.cell 6).trans hu
  |7,hu=>exact(h.cell 7).trans hu
  |8,hu=>exact(h.cell 8).trans hu
  |j+9,hu=>cases hu
set_option maxRecDepth 100000 in
set_option maxHeartbeats 8000000 in
theorem ndHear_any (p:Pkt)(hHl:p.f.kind=1→HeardLaw p.f)(t:List Int)(ta:Option Addr)(tn tc:Nat)(n:Nd)(a:Option Addr)(c:Nat)(ua:Option Addr)(uc:Nat)(ma:Option Addr)(mc:Nat)(src:Int)(fa:Option Addr)(fc:Nat)(b:Int)(w:World)(hg:Good w)(ht:RdS (· <w.heap.size) w t ta tn tc)
 (h1:RdS (· <w.heap.size) w n.sides a n.sides.length c) (h2:RdS (· <w.heap.size) w n.undo ua n.undo.length uc) (h3:RdS (· <w.heap.size) w n.marks ma n.marks.length mc) (hf:n.fits) (hp:p.fits) (hpr:RdS (· <w.heap.size) w p.f.op fa p.f.op.length fc) (hG:NdGood t n) (hB:NdB b n) (hb2:2≤b) (hb:b<600000):
 Calls Tryd.prog 21 #[.slice ta tn tc,.agg #[.int .i64 n.me,.int .i64 n.epoch,.int .i64 n.up,.bool n.ready,.string n.text,.slice a n.sides.length c,.slice ua n.undo.length uc,.slice ma n.marks.length mc],.int .i64 src,.agg #[.int .i64 p.epoch,.int .i64 p.number,.bool p.bare,.int .i64 p.ack,.int .i64 p.f.kind,.int .i64 p.f.heard,.int .i64 p.f.epoch,.slice fa p.f.op.length fc,.string p.f.text]] w (TurnE (hearE n src p) (hearT n src p) w):=by
 have HHl:=Lib.hid hHl;clear hHl;have HBg:=Lib.hid (fun W (hW:Below w.heap.size w W)=>ndBegin_good t ta tn tc n a c ua uc ma mc W (hg.go hW) (ht.go hW) (h1.go hW) (h2.go hW) (h3.go hW) hf hG (hB.queue hG (by omega)));have Hg:=Lib.hid hg;have hgz:=hg.size;have HCk:=Lib.hid (fun W (hW:Below w.heap.size w W)=>checkPacket_any p.epoch p.number p.bare p.ack p.f.kind p.f.heard p.f.epoch p.f.op p.f.text fa p.f.op.length fc W (hg.go hW) (hpr.go hW) hp.1 hp.2.1 hp.2.2.1 hp.2.2.2.1 hp.2.2.2.2.1 hp.2.2.2.2.2.1 hp.2.2.2.2.2.2);have HIx:=Lib.hid (fun W fb (hW:Below w.heap.size w W)(hx:Blk fb (.cells #[.int .i64 src] 3 (0,0)) W)=>srcIx_any n.sides a n.sides.length c src fb W hx (h1.go hW));have HNm:=Lib.hid (fun base g vs W (hM:WkM base g ⟨n,[],[]⟩ vs W)(h1:w.heap.size≤base)(h2:Below w.heap.size w W)=>hM.nm hpr h2 h1);have HH:=Lib.hid (And.intro hG (And.intro hB (And.intro hb2 (And.intro hb hp))));have H1:=Lib.hid h1;have Hf:=Lib.hid hf;have hck:Hid (checkPacket p.epoch p.number p.bare p.ack p.f.kind p.f.heard p.f.epoch p.f.op p.f.text=p.check):=rfl;rw[hck.out]at HCk;clear ht h1 h2 h3 hf hG hB hb hb2 hg hp hpr hck;go_enter Tryd.func21,Tryd.ntmps21;go_wp2_with fail;refine abs_run (fun W=>Below w.heap.size w W∧Blk w.heap.size (.cells #[.int .i64 n.me,.int .i64 n.epoch,.int .i64 n.up,.bool n.ready,.string n.text,.slice a n.sides.length c,.slice ua n.undo.length uc,.slice ma n.marks.length mc] 31 (0,0)) W∧Blk (w.heap.size+1) (.cells #[.int .i64 src] 3 (0,0)) W∧Blk (w.heap.size+1+1) (.cells #[.int .i64 p.epoch,.int .i64 p.number,.bool p.bare,.int .i64 p.ack,.int .i64 p.f.kind,.int .i64 p.f.heard,.int .i64 p.f.epoch,.slice fa p.f.op.length fc,.string p.f.text] 46 (0,0)) W∧Blk (w.heap.size+1+1+1) (.cells zeroTn 35 (0,0)) W) ⟨by(repeat (first|exact Below.refl _ _|assumption|(refine Below.drew ?_)|(refine below_drewN ?_ _)|(refine Below.alloc ?_ (by first|(simp;done)|(simp;omega)|omega) _)|(refine Below.setCell ?_ (by first|(simp;done)|(simp;omega)|omega) _)|(refine Below.trans ?_ (Below.mono (by assumption) (by first|(simp;done)|(simp;omega)|omega))))),((Blk.new w _).alloc _).alloc _|>.alloc _,((Blk.at _ _ _ (by simp)).alloc _).alloc _,(Blk.at _ _ _ (by simp)).alloc _,Blk.at _ _ _ (by simp)⟩ ?_;rintro w1 ⟨b1,x0,xi,xp,x1⟩;have B1:=Lib.hid b1;have X0:=Lib.hid x0;have XI:=Lib.hid xi;have XP:=Lib.hid xp;have X1:=Lib.hid x1;have hx1:=x1.lt;clear b1 x0 xi xp x1;refine(HBg.out w1 B1.out).mono ?_;rintro e w2 ⟨g,vs,rfl,m2,b2⟩;have M2:=Lib.hid m2;have B2:=Lib.hid (up B1.out b2);have X2:=Lib.hid (X1.out.go b2);have hz12:=b2.size;have XP2:=Lib.hid (XP.out.go b2);have X02:=Lib.hid (X0.out.go b2);have XI2:=Lib.hid (XI.out.go b2);obtain⟨k0,k1,k2,k3,k4,k5,k6,k7,k8⟩:=blk9_cells XP2.out;have hxp:=XP2.out.lt;clear m2 b2 HBg X1 X0 XI XP;go_wp2_with fail;refine(HCk.out w2 B2.out).mono ?_;rintro e w3 ⟨rfl,b3⟩;have B3:=Lib.hid (up B2.out b3);have M3:=Lib.hid (M2.out.go b3);have X3:=Lib.hid (X2.out.go b3);have XP3:=Lib.hid (XP2.out.go b3);have X03:=Lib.hid (X02.out.go b3);have XI3:=Lib.hid (XI2.out.go b3);have hz23:=b3.size;clear b3 HCk X2 XP2 X02 XI2 k0 k1 k2 k3 k4 k5 k6 k7 k8 hxp B2 M2;by_cases hp0:p.check=0
 ·have HC0:=Lib.hid hp0;rw[hp0];obtain⟨q0,q1,q2,q3,q4,q5,q6,q7⟩:=blk8_cells X03.out;have hx03:=X03.out.lt;go_wp2_with fail;refine(HIx.out w3 (w.heap.size+1) B3.out XI3.out).mono ?_;rintro e w4 ⟨rfl,b4⟩;have B4:=Lib.hid (up B3.out b4);have M4:=Lib.hid (M3.out.go b4);have X4:=Lib.hid (X3.out.go b4);have XP4:=Lib.hid (XP3.out.go b4);have X04:=Lib.hid (X03.out.go b4);have hz34:=b4.size;clear b4 HIx X3 XP3 X03 XI3 q0 q1 q2 q3 q4 q5 q6 q7 hx03 M3 B3;cases hfx:fstIx (isFrom src) n.sides with
  |none=>
   have hix:ixOf (isFrom src) n.sides= -1:=by unfold ixOf;rw[hfx]
   have hE:Hid (hearE n src p=13):=by unfold Hid hearE;rw[if_neg (by simpa using hp0),hfx]
   rw[hix];have HTE:Hid (∀e w',(e=.returned (.tuple #[.agg zeroTn,.int .i64 13])∧Below w.heap.size w w')→TurnE (hearE n src p) (hearT n src p) w e w'):=by
    intro e w' h;unfold TurnE;rw[hE.out,if_neg (by decide)];exact h
   have X9:=X4;have B9:=B4;clear hix hfx hp0;have hz:=X9.out.lt;obtain⟨p0,p1,p2,p3,p4,p5,p6,p7,p8,p9⟩:=blk10_cells X9.out;have pf:=X9.out.frozen;have G:=Lib.hid (zero_turn (w:=w) (b:=w.heap.size+1+1+1) (by omega) X9.out B9.out);go_wp2_with fail;refine abs_ret (fun W=>Blk (w.heap.size+1+1+1) (.cells zeroTn 35 (0,0)) W∧Below w.heap.size w W) G.out ?_;rintro W ⟨y1,y2⟩;obtain⟨k0,k1,k2,k3,k4,k5,k6,k7,k8,k9⟩:=blk10_cells y1;exact bodyPost_ret (v:=.tuple #[.agg zeroTn,.int .i64 13]) (by simp[results,Tryd.results21,go_sem,k0,k1,k2,k3,k4,k5,k6,k7,k8,k9]) rfl (HTE.out _ _ ⟨rfl,y2⟩)
  |some s=>
   have hix:ixOf (isFrom src) n.sides=(s:Int):=by unfold ixOf;rw[hfx]
   obtain⟨hs,-⟩:=fstIx_lt hfx;obtain⟨SD,hSD⟩:∃SD,SD=(⟨n,[],[]⟩:Tn).side s:=⟨_,rfl⟩;have hSD2:SD=n.sides[s]:=by rw[hSD];exact(⟨n,[],[]⟩:Tn).side_get s hs
   have hE:hearE n src p=if p.epoch=SD.l.epoch∧0<SD.l.epoch then 0 else if(0<n.me∧s=0)∧p.epoch=0 then 0 else if(0<n.me∧s=0)∨p.epoch≤SD.l.epoch then 12 else if asks n p=true∧n.ready=true then 0 else if asks n p=true then 12 else 0:=by
    unfold hearE;rw[if_neg (by simpa using hp0),hfx,hSD]
   have hT:hearT n src p=if p.epoch=SD.l.epoch∧0<SD.l.epoch then(⟨n,[],[]⟩:Tn).session s p else if(0<n.me∧s=0)∧p.epoch=0 then(⟨n,[],[]⟩:Tn).away p.ack else if asks n p=true then(⟨n,[],[]⟩:Tn).joinedT s p else(⟨n,[],[]⟩:Tn).post s [barePost n]:=by
    unfold hearT;rw[hfx,hSD]
   obtain⟨ER,hER⟩:∃ER,ER=hearE n src p:=⟨_,rfl⟩;obtain⟨TT,hTT⟩:∃TT,TT=hearT n src p:=⟨_,rfl⟩;have HER:=Lib.hid hER;have HTT:=Lib.hid hTT;rw[hix];rw[←hER]at hE;rw[←hTT]at hT;have HE:=Lib.hid hE;have HT:=Lib.hid hT;have H4:=H1.out.go B4.out;obtain⟨sb,so,xs,rfl,-,hsb,hrd,hcs⟩:=H4.elem s hs;rw[←hSD2]at hrd;obtain⟨_,_,_,_,_,_,rfl,-⟩:=hrd;have y5:w4.cell? ⟨sb,so+s*10+5,none⟩=some (.int .i64 SD.l.epoch):=hcs 5 _ rfl;have hnc:n.sides.length≤c:=H4.2.1;have hcm:c≤maxLen:=H4.2.2.1;have hsN:(s:Int)<(n.sides.length:Int):=by omega
   have hNc:(n.sides.length:Int)≤(c:Int):=by omega
   have hcm2:(c:Int)≤9223372036854775807:=by unfold maxLen at hcm;omega
   have hs0:¬(s:Int)<0:=by omega
   obtain⟨q0,q1,q2,q3,q4,q5,q6,q7⟩:=blk8_cells X04.out;have hx04:=X04.out.lt;obtain⟨k0,k1,k2,k3,k4,k5,k6,k7,k8⟩:=blk9_cells XP4.out;have hxp:=XP4.out.lt;have HS:=Lib.hid hs;obtain⟨MI,hMI⟩:∃MI,MI=SD.l.epoch:=⟨_,rfl⟩;rw[←hMI]at y5 HE HT;have HMi:Hid (MI=((⟨n,[],[]⟩:Tn).side s).l.epoch):=by unfold Hid;rw[hMI,hSD]
   clear hix hfx hSD hSD2 hE hT hER hTT hcs H4 hs hMI hnc hcm hp0;go_upto_region 11 with fail;go_cut [15]from 47 to 53 (fun s15 W=>s15=.bool (decide (0<n.me)&&decide (s=0))∧w4=W)
   case first=>
    by_cases e1:0<n.me
    ·have d1:decide (0<n.me)=true:=by simpa using e1
     have D1:=Lib.hid d1;by_cases e2:s=0
     ·have d2:((s:Int)==0)=true:=by simp[e2]
      have D2:=Lib.hid (show decide (s=0)=true by simp[e2]);clear e1 e2;go_wp2_with fail;go_meet
      case rel=>exact⟨by rw[D1.out,D2.out];rfl,rfl⟩
     ·have d2:((s:Int)==0)=false:=by simp[e2]
      have D2:=Lib.hid (show decide (s=0)=false by simp[e2]);clear e1 e2;go_wp2_with fail;go_meet
      case rel=>exact⟨by rw[D1.out,D2.out];rfl,rfl⟩
    ·have d1:decide (0<n.me)=false:=by simpa using e1
     have D1:=Lib.hid d1;clear e1;go_wp2_with fail;go_meet
     case rel=>exact⟨by rw[D1.out];rfl,rfl⟩
   case rest=>
    obtain⟨rfl,rfl⟩:=hcut;obtain⟨PA,hPA⟩:∃PA,PA=(decide (0<n.me)&&decide (s=0)):=⟨_,rfl⟩;rw[←hPA];have HPA:Hid (PA=true↔(0<n.me∧s=0)):=by unfold Hid;rw[hPA];simp
    clear hPA;obtain⟨AS,hAS⟩:∃AS,AS=asks n p:=⟨_,rfl⟩;have HAS:=Lib.hid hAS;rw[←hAS]at HE HT;go_upto_region 12 with fail;go_cut [16]from 54 to 83 (fun s16 W=>s16=.bool AS∧w4=W)
    case first=>
     have HAe:Hid (AS=(!p.bare&&(p.number==1)&&(p.f.kind==2)&&(p.f.epoch==p.epoch)&&(p.f.heard==n.epoch))):=hAS;clear hAS;rcases Bool.eq_false_or_eq_true p.bare with hb0|hb0
     ·have HA2:Hid (AS=false):=by unfold Hid;rw[HAe.out,hb0];simp
      rw[hb0]at k2;clear hb0;go_wp2_with fail;go_meet
      case rel=>exact⟨by rw[HA2.out],rfl⟩
     ·have hb1:=Lib.hid hb0;rw[hb0]at k2;clear hb0;rcases Bool.eq_false_or_eq_true (p.number==1)with hc1|hc1
      ·rcases Bool.eq_false_or_eq_true (p.f.kind==2)with hc2|hc2
       ·rcases Bool.eq_false_or_eq_true (p.f.epoch==p.epoch)with hc3|hc3
        ·have HA2:Hid (AS=(p.f.heard==n.epoch)):=by unfold Hid;rw[HAe.out,hb1.out,hc1,hc2,hc3];rfl
         go_wp2_with fail;go_meet
         case rel=>exact⟨by rw[HA2.out],rfl⟩
        ·have HA2:Hid (AS=false):=by unfold Hid;rw[HAe.out,hb1.out,hc1,hc2,hc3];rfl
         go_wp2_with fail;go_meet
         case rel=>exact⟨by rw[HA2.out],rfl⟩
       ·have HA2:Hid (AS=false):=by unfold Hid;rw[HAe.out,hb1.out,hc1,hc2];rfl
        go_wp2_with fail;go_meet
        case rel=>exact⟨by rw[HA2.out],rfl⟩
      ·have HA2:Hid (AS=false):=by unfold Hid;rw[HAe.out,hb1.out,hc1];rfl
       go_wp2_with fail;go_meet
       case rel=>exact⟨by rw[HA2.out],rfl⟩
    case rest=>
     obtain⟨rfl,rfl⟩:=hcut;clear hAS;go_upto_region 14 with fail;go_cut [91]from 92 to 99 (fun s91 W=>s91=.bool ((p.epoch==MI)&&decide (0<MI))∧w4=W)
     case first=>
      rcases Bool.eq_false_or_eq_true (p.epoch==MI)with hc1|hc1
      ·have D1:=Lib.hid hc1;go_wp2_with fail;go_meet
       case rel=>exact⟨by rw[D1.out];rfl,rfl⟩
      ·have D1:=Lib.hid hc1;go_wp2_with fail;go_meet
       case rel=>exact⟨by rw[D1.out];rfl,rfl⟩
     case rest=>
      obtain⟨rfl,rfl⟩:=hcut;obtain⟨SS,hSS⟩:∃SS,SS=((p.epoch==MI)&&decide (0<MI)):=⟨_,rfl⟩;rw[←hSS];obtain⟨hG,hB,hb2,hb,hp⟩:=HH.out;by_cases c1:p.epoch=MI∧0<MI
      ·have d1:SS=true:=by rw[hSS];simp[c1.1,c1.2]
       clear hSS;subst d1;have E0:Hid (ER=0):=by unfold Hid;rw[HE.out,if_pos c1]
       have T0:Hid (TT=(⟨n,[],[]⟩:Tn).session s p):=by unfold Hid;rw[HT.out,if_pos c1]
       clear c1;go_wp2_with fail;refine(ndSession_any p HHl.out t b w1.heap.size g ⟨n,[],[]⟩ vs s fa fc w4 (Hg.out.go B4.out) M4.out HS.out (HNm.out _ _ _ _ M4.out (by omega) B4.out) hp ⟨hG,hB⟩ (by omega) (by simp) (by simp)).mono ?_;rintro e w5 ⟨rfl,v5,m5,t5,h5⟩;rw[←T0.out]at m5;have HTP:Hid (∀e w',TurnP TT w e w'→TurnE (hearE n src p) (hearT n src p) w e w'):=by
        intro e w' h;rw[←HER.out,←HTT.out];unfold TurnE;rw[E0.out,if_pos rfl];exact h
       have M9:=Lib.hid m5;have T9:Hid (Touch (fun z=>w1.heap.size≤z) w4 w5):=t5.mono fun z _ hz=>(M4.out.mine z hz).1;clear m5 t5 h5 hG hB hb2 hb hp q0 q1 q2 q3 q4 q5 q6 q7 k0 k1 k2 k3 k4 k5 k6 k7 k8 y5;have X9:=X4.out.touch T9.out (by omega);obtain⟨a0,c0,a1,c1,a2,c2,a3,c3,a4,c4,e1,e2,e3,e4⟩:=turn_out M9.out X9 (by omega) (B:=w.heap.size) (by omega) (B4.out.trans (T9.out.toBelow (B:=w.heap.size) (by omega) (fun z hz=>by omega)));obtain⟨p0,p1,p2,p3,p4,p5,p6,p7,p8,p9⟩:=blk10_cells X9;have pf:=X9.frozen;have hz:=X9.lt;obtain⟨q0,q1,q2,q3,q4,q5,q6,q7,q8,q9⟩:=blk10_cells e1;have G:=Lib.hid (And.intro e2 (And.intro e3 e4));clear e1 e2 e3 e4 X9;go_wp2_with fail;refine abs_ret (fun W=>Blk (w.heap.size+1+1+1) (.cells #[.int .i64 TT.node.me,.int .i64 TT.node.epoch,.int .i64 TT.node.up,.bool TT.node.ready,.string TT.node.text,.slice a0 TT.node.sides.length c0,.slice a1 TT.node.undo.length c1,.slice a2 TT.node.marks.length c2,.slice a3 TT.posts.length c3,.slice a4 TT.recs.length c4] 35 (0,0)) W∧TnVal (Fresh w.heap.size W) TT (.agg #[.int .i64 TT.node.me,.int .i64 TT.node.epoch,.int .i64 TT.node.up,.bool TT.node.ready,.string TT.node.text,.slice a0 TT.node.sides.length c0,.slice a1 TT.node.undo.length c1,.slice a2 TT.node.marks.length c2,.slice a3 TT.posts.length c3,.slice a4 TT.recs.length c4]) W∧Below w.heap.size w W) G.out ?_;rintro W ⟨y1,y2,y3⟩;obtain⟨k0,k1,k2,k3,k4,k5,k6,k7,k8,k9⟩:=blk10_cells y1;exact bodyPost_ret (v:=.tuple #[.agg #[.int .i64 TT.node.me,.int .i64 TT.node.epoch,.int .i64 TT.node.up,.bool TT.node.ready,.string TT.node.text,.slice a0 TT.node.sides.length c0,.slice a1 TT.node.undo.length c1,.slice a2 TT.node.marks.length c2,.slice a3 TT.posts.length c3,.slice a4 TT.recs.length c4],.int .i64 0]) (by simp[results,Tryd.results21,go_sem,k0,k1,k2,k3,k4,k5,k6,k7,k8,k9]) rfl (HTP.out _ _ ⟨_,rfl,y2,y3⟩)
      ·have d1:SS=false:=by rw[hSS];simpa using c1
       clear hSS;subst d1;rcases Bool.eq_false_or_eq_true PA with hpa|hpa
       ·by_cases c3:p.epoch=0
        ·have hpb:PA=true:=hpa;subst hpa;have d3:(p.epoch==0)=true:=by simp[c3]
         have E0:Hid (ER=0):=by unfold Hid;rw[HE.out,if_neg c1,if_pos ⟨HPA.out.1 hpb,c3⟩]
         have T0:Hid (TT=(⟨n,[],[]⟩:Tn).away p.ack):=by unfold Hid;rw[HT.out,if_neg c1,if_pos ⟨HPA.out.1 hpb,c3⟩]
         clear c1 c3 hpb;go_wp2_with fail;refine(ndAway_any w1.heap.size g ⟨n,[],[]⟩ vs p.ack w4 (Hg.out.go B4.out) M4.out (Nat.lt_of_le_of_lt (Nat.zero_le s) HS.out) (by have:=good_len hG;show n.sides.length≤100;omega) hp.2.2.1 (by have:=hG.ep0;show 0≤n.epoch;omega) (by have:=hG.ep1;show n.epoch≤1048576;omega) (by simp)).mono ?_;rintro e w5 ⟨rfl,v5,m5,t5,h5⟩;rw[←T0.out]at m5;have HTP:Hid (∀e w',TurnP TT w e w'→TurnE (hearE n src p) (hearT n src p) w e w'):=by
          intro e w' h;rw[←HER.out,←HTT.out];unfold TurnE;rw[E0.out,if_pos rfl];exact h
         have M9:=Lib.hid m5;have T9:Hid (Touch (fun z=>w1.heap.size≤z) w4 w5):=t5.mono fun z _ hz=>(M4.out.mine z hz).1;clear m5 t5 h5 hG hB hb2 hb hp q0 q1 q2 q3 q4 q5 q6 q7 k0 k1 k2 k3 k4 k5 k6 k7 k8 y5;have X9:=X4.out.touch T9.out (by omega);obtain⟨a0,c0,a1,c1,a2,c2,a3,c3,a4,c4,e1,e2,e3,e4⟩:=turn_out M9.out X9 (by omega) (B:=w.heap.size) (by omega) (B4.out.trans (T9.out.toBelow (B:=w.heap.size) (by omega) (fun z hz=>by omega)));obtain⟨p0,p1,p2,p3,p4,p5,p6,p7,p8,p9⟩:=blk10_cells X9;have pf:=X9.frozen;have hz:=X9.lt;obtain⟨q0,q1,q2,q3,q4,q5,q6,q7,q8,q9⟩:=blk10_cells e1;have G:=Lib.hid (And.intro e2 (And.intro e3 e4));clear e1 e2 e3 e4 X9;go_wp2_with fail;refine abs_ret (fun W=>Blk (w.heap.size+1+1+1) (.cells #[.int .i64 TT.node.me,.int .i64 TT.node.epoch,.int .i64 TT.node.up,.bool TT.node.ready,.string TT.node.text,.slice a0 TT.node.sides.length c0,.slice a1 TT.node.undo.length c1,.slice a2 TT.node.marks.length c2,.slice a3 TT.posts.length c3,.slice a4 TT.recs.length c4] 35 (0,0)) W∧TnVal (Fresh w.heap.size W) TT (.agg #[.int .i64 TT.node.me,.int .i64 TT.node.epoch,.int .i64 TT.node.up,.bool TT.node.ready,.string TT.node.text,.slice a0 TT.node.sides.length c0,.slice a1 TT.node.undo.length c1,.slice a2 TT.node.marks.length c2,.slice a3 TT.posts.length c3,.slice a4 TT.recs.length c4]) W∧Below w.heap.size w W) G.out ?_;rintro W ⟨y1,y2,y3⟩;obtain⟨k0,k1,k2,k3,k4,k5,k6,k7,k8,k9⟩:=blk10_cells y1;exact bodyPost_ret (v:=.tuple #[.agg #[.int .i64 TT.node.me,.int .i64 TT.node.epoch,.int .i64 TT.node.up,.bool TT.node.ready,.string TT.node.text,.slice a0 TT.node.sides.length c0,.slice a1 TT.node.undo.length c1,.slice a2 TT.node.marks.length c2,.slice a3 TT.posts.length c3,.slice a4 TT.recs.length c4],.int .i64 0]) (by simp[results,Tryd.results21,go_sem,k0,k1,k2,k3,k4,k5,k6,k7,k8,k9]) rfl (HTP.out _ _ ⟨_,rfl,y2,y3⟩)
        ·have hpb:PA=true:=hpa;subst hpa;have d3:(p.epoch==0)=false:=by simp[c3]
         have E0:Hid (ER=12):=by unfold Hid;rw[HE.out,if_neg c1,if_neg (fun h=>c3 h.2),if_pos (.inl (HPA.out.1 hpb))]
         have HTP:Hid (∀e w',(e=.returned (.tuple #[.agg zeroTn,.int .i64 12])∧Below w.heap.size w w')→TurnE (hearE n src p) (hearT n src p) w e w'):=by
          intro e w' h;rw[←HER.out,←HTT.out];unfold TurnE;rw[E0.out,if_neg (by decide)];exact h
         clear c1 c3 hpb;have X9:=X4;have B9:=B4;clear hG hB hb2 hb hp;have hz:=X9.out.lt;obtain⟨p0,p1,p2,p3,p4,p5,p6,p7,p8,p9⟩:=blk10_cells X9.out;have pf:=X9.out.frozen;have G:=Lib.hid (zero_turn (w:=w) (b:=w.heap.size+1+1+1) (by omega) X9.out B9.out);go_wp2_with fail;refine abs_ret (fun W=>Blk (w.heap.size+1+1+1) (.cells zeroTn 35 (0,0)) W∧Below w.heap.size w W) G.out ?_;rintro W ⟨y1,y2⟩;obtain⟨k0,k1,k2,k3,k4,k5,k6,k7,k8,k9⟩:=blk10_cells y1;exact bodyPost_ret (v:=.tuple #[.agg zeroTn,.int .i64 12]) (by simp[results,Tryd.results21,go_sem,k0,k1,k2,k3,k4,k5,k6,k7,k8,k9]) rfl (HTP.out _ _ ⟨rfl,y2⟩)
       ·have hnp:¬(0<n.me∧s=0):=(fun h=>by have:=HPA.out.2 h;rw[hpa]at this;cases this);subst hpa;by_cases c4:p.epoch≤MI
        ·have d4:decide (p.epoch≤MI)=true:=by simp[c4]
         have E0:Hid (ER=12):=by unfold Hid;rw[HE.out,if_neg c1,if_neg (fun h=>hnp h.1),if_pos (.inr c4)]
         have HTP:Hid (∀e w',(e=.returned (.tuple #[.agg zeroTn,.int .i64 12])∧Below w.heap.size w w')→TurnE (hearE n src p) (hearT n src p) w e w'):=by
          intro e w' h;rw[←HER.out,←HTT.out];unfold TurnE;rw[E0.out,if_neg (by decide)];exact h
         clear c1 c4 hnp;have X9:=X4;have B9:=B4;clear hG hB hb2 hb hp;have hz:=X9.out.lt;obtain⟨p0,p1,p2,p3,p4,p5,p6,p7,p8,p9⟩:=blk10_cells X9.out;have pf:=X9.out.frozen;have G:=Lib.hid (zero_turn (w:=w) (b:=w.heap.size+1+1+1) (by omega) X9.out B9.out);go_wp2_with fail;refine abs_ret (fun W=>Blk (w.heap.size+1+1+1) (.cells zeroTn 35 (0,0)) W∧Below w.heap.size w W) G.out ?_;rintro W ⟨y1,y2⟩;obtain⟨k0,k1,k2,k3,k4,k5,k6,k7,k8,k9⟩:=blk10_cells y1;exact bodyPost_ret (v:=.tuple #[.agg zeroTn,.int .i64 12]) (by simp[results,Tryd.results21,go_sem,k0,k1,k2,k3,k4,k5,k6,k7,k8,k9]) rfl (HTP.out _ _ ⟨rfl,y2⟩)
        ·have d4:decide (p.epoch≤MI)=false:=by simp;omega
         rcases Bool.eq_false_or_eq_true AS with has|has
         ·rcases Bool.eq_false_or_eq_true n.ready with hrd|hrd
          ·have E0:Hid (ER=0):=by unfold Hid;rw[HE.out,if_neg c1,if_neg (fun h=>hnp h.1),if_neg (fun h=>h.elim hnp c4),if_pos ⟨has,hrd⟩]
           have T0:Hid (TT=(⟨n,[],[]⟩:Tn).joinedT s p):=by unfold Hid;rw[HT.out,if_neg c1,if_neg (fun h=>hnp h.1),if_pos has]
           have hcz:p.check=0:=HC0.out;have hbr:p.bare=false:=by
            have h1:asks n p=true:=HAS.out.symm.trans has;unfold asks at h1;cases hpb:p.bare with
            |false=>rfl
            |true=>rw[hpb]at h1;simp at h1
           have hO:NG t b ((⟨n,[],[]⟩:Tn).open s p).node:=NG.opened ⟨hG,hB⟩ HS.out hrd ((pkt_all hcz).2.2 hbr).1 (pkt_all hcz).1.2 hnp (by omega);have hPo:(((⟨n,[],[]⟩:Tn).open s p).session s p).posts.length≤1000000:=by
            have h1:=session_posts ((⟨n,[],[]⟩:Tn).open s p) s p;have h2:((⟨n,[],[]⟩:Tn).open s p).posts.length=0:=rfl;have h3:((⟨n,[],[]⟩:Tn).open s p).node.sides.length=n.sides.length:=List.length_set ..;have:=good_len hG;omega
           have HJ:=Lib.hid (ndJoined_any p HHl.out t b w1.heap.size g ⟨n,[],[]⟩ vs s fa fc w4 (Hg.out.go B4.out) M4.out HS.out (HNm.out _ _ _ _ M4.out (by omega) B4.out) hp hO (by omega) (by simp) (by simp) hPo);rw[hrd]at q3;clear c1 c4 hnp hcz hbr hO hPo hrd;subst has;go_wp2_with fail;refine HJ.out.mono ?_;rintro e w5 ⟨rfl,v5,m5,t5,h5⟩;rw[←T0.out]at m5;have HTP:Hid (∀e w',TurnP TT w e w'→TurnE (hearE n src p) (hearT n src p) w e w'):=by
            intro e w' h;rw[←HER.out,←HTT.out];unfold TurnE;rw[E0.out,if_pos rfl];exact h
           have M9:=Lib.hid m5;have T9:Hid (Touch (fun z=>w1.heap.size≤z) w4 w5):=t5.mono fun z _ hz=>(M4.out.mine z hz).1;clear m5 t5 h5 hG hB hb2 hb hp q0 q1 q2 q3 q4 q5 q6 q7 k0 k1 k2 k3 k4 k5 k6 k7 k8 y5;have X9:=X4.out.touch T9.out (by omega);obtain⟨a0,c0,a1,c1,a2,c2,a3,c3,a4,c4,e1,e2,e3,e4⟩:=turn_out M9.out X9 (by omega) (B:=w.heap.size) (by omega) (B4.out.trans (T9.out.toBelow (B:=w.heap.size) (by omega) (fun z hz=>by omega)));obtain⟨p0,p1,p2,p3,p4,p5,p6,p7,p8,p9⟩:=blk10_cells X9;have pf:=X9.frozen;have hz:=X9.lt;obtain⟨q0,q1,q2,q3,q4,q5,q6,q7,q8,q9⟩:=blk10_cells e1;have G:=Lib.hid (And.intro e2 (And.intro e3 e4));clear e1 e2 e3 e4 X9;go_wp2_with fail;refine abs_ret (fun W=>Blk (w.heap.size+1+1+1) (.cells #[.int .i64 TT.node.me,.int .i64 TT.node.epoch,.int .i64 TT.node.up,.bool TT.node.ready,.string TT.node.text,.slice a0 TT.node.sides.length c0,.slice a1 TT.node.undo.length c1,.slice a2 TT.node.marks.length c2,.slice a3 TT.posts.length c3,.slice a4 TT.recs.length c4] 35 (0,0)) W∧TnVal (Fresh w.heap.size W) TT (.agg #[.int .i64 TT.node.me,.int .i64 TT.node.epoch,.int .i64 TT.node.up,.bool TT.node.ready,.string TT.node.text,.slice a0 TT.node.sides.length c0,.slice a1 TT.node.undo.length c1,.slice a2 TT.node.marks.length c2,.slice a3 TT.posts.length c3,.slice a4 TT.recs.length c4]) W∧Below w.heap.size w W) G.out ?_;rintro W ⟨y1,y2,y3⟩;obtain⟨k0,k1,k2,k3,k4,k5,k6,k7,k8,k9⟩:=blk10_cells y1;exact bodyPost_ret (v:=.tuple #[.agg #[.int .i64 TT.node.me,.int .i64 TT.node.epoch,.int .i64 TT.node.up,.bool TT.node.ready,.string TT.node.text,.slice a0 TT.node.sides.length c0,.slice a1 TT.node.undo.length c1,.slice a2 TT.node.marks.length c2,.slice a3 TT.posts.length c3,.slice a4 TT.recs.length c4],.int .i64 0]) (by simp[results,Tryd.results21,go_sem,k0,k1,k2,k3,k4,k5,k6,k7,k8,k9]) rfl (HTP.out _ _ ⟨_,rfl,y2,y3⟩)
          ·have E0:Hid (ER=12):=by unfold Hid;rw[HE.out,if_neg c1,if_neg (fun h=>hnp h.1),if_neg (fun h=>h.elim hnp c4),if_neg (fun h=>absurd h.2 (by rw[hrd];decide)),if_pos has]
           have HTP:Hid (∀e w',(e=.returned (.tuple #[.agg zeroTn,.int .i64 12])∧Below w.heap.size w w')→TurnE (hearE n src p) (hearT n src p) w e w'):=by
            intro e w' h;rw[←HER.out,←HTT.out];unfold TurnE;rw[E0.out,if_neg (by decide)];exact h
           rw[hrd]at q3;clear c1 c4 hnp hrd;subst has;have X9:=X4;have B9:=B4;clear hG hB hb2 hb hp;have hz:=X9.out.lt;obtain⟨p0,p1,p2,p3,p4,p5,p6,p7,p8,p9⟩:=blk10_cells X9.out;have pf:=X9.out.frozen;have G:=Lib.hid (zero_turn (w:=w) (b:=w.heap.size+1+1+1) (by omega) X9.out B9.out);go_wp2_with fail;refine abs_ret (fun W=>Blk (w.heap.size+1+1+1) (.cells zeroTn 35 (0,0)) W∧Below w.heap.size w W) G.out ?_;rintro W ⟨y1,y2⟩;obtain⟨k0,k1,k2,k3,k4,k5,k6,k7,k8,k9⟩:=blk10_cells y1;exact bodyPost_ret (v:=.tuple #[.agg zeroTn,.int .i64 12]) (by simp[results,Tryd.results21,go_sem,k0,k1,k2,k3,k4,k5,k6,k7,k8,k9]) rfl (HTP.out _ _ ⟨rfl,y2⟩)
         ·have E0:Hid (ER=0):=by unfold Hid;rw[HE.out,if_neg c1,if_neg (fun h=>hnp h.1),if_neg (fun h=>h.elim hnp c4),if_neg (fun h=>absurd h.1 (by rw[has];decide)),if_neg (by rw[has];decide)]
          have T0:Hid (TT=(⟨n,[],[]⟩:Tn).post s [barePost n]):=by unfold Hid;rw[HT.out,if_neg c1,if_neg (fun h=>hnp h.1),if_neg (by rw[has];decide)]
          clear c1 c4 hnp;subst has;go_wp2_with fail;have bT:Below w4.heap.size w4 (w4.alloc (.cells #[.int .i64 0,.int .i64 0,.bool true,.int .i64 n.epoch,.int .i64 0,.int .i64 0,.int .i64 0,.slice none 0 0,.string ⟨#[]⟩] 46 (0,0))):=(Below.refl _ _).alloc (Nat.le_refl _) _;have XN:Blk w4.heap.size (.cells #[.int .i64 0,.int .i64 0,.bool true,.int .i64 n.epoch,.int .i64 0,.int .i64 0,.int .i64 0,.slice none 0 0,.string ⟨#[]⟩] 46 (0,0)) (w4.alloc (.cells #[.int .i64 0,.int .i64 0,.bool true,.int .i64 n.epoch,.int .i64 0,.int .i64 0,.int .i64 0,.slice none 0 0,.string ⟨#[]⟩] 46 (0,0))):=Blk.new w4 _;have hgb:=M4.out.gb;have hgl:=M4.out.lt;have hep:I64 n.epoch:=by have h1:=hG.ep0;have h2:=hG.ep1;unfold I64;omega
          refine(post_any w1.heap.size g ⟨n,[],[]⟩ vs s [barePost n] (some ⟨w4.heap.size,0,none⟩) 1 _ (M4.out.go bT) HS.out (one_pkt XN hep ⟨by omega,XN.lt,fun hm=>by have:=(M4.out.mine _ hm).2;omega⟩) (by simp) (by simp)).mono ?_;rintro e w5 ⟨rfl,v5,m5,t5',h5⟩;have t5:=(Touch.of_below (S:=Mine g vs) bT).trans t5';rw[←T0.out]at m5;have HTP:Hid (∀e w',TurnP TT w e w'→TurnE (hearE n src p) (hearT n src p) w e w'):=by
           intro e w' h;rw[←HER.out,←HTT.out];unfold TurnE;rw[E0.out,if_pos rfl];exact h
          clear t5' XN bT;have M9:=Lib.hid m5;have T9:Hid (Touch (fun z=>w1.heap.size≤z) w4 w5):=t5.mono fun z _ hz=>(M4.out.mine z hz).1;clear m5 t5 h5 hG hB hb2 hb hp q0 q1 q2 q3 q4 q5 q6 q7 k0 k1 k2 k3 k4 k5 k6 k7 k8 y5;have X9:=X4.out.touch T9.out (by omega);obtain⟨a0,c0,a1,c1,a2,c2,a3,c3,a4,c4,e1,e2,e3,e4⟩:=turn_out M9.out X9 (by omega) (B:=w.heap.size) (by omega) (B4.out.trans (T9.out.toBelow (B:=w.heap.size) (by omega) (fun z hz=>by omega)));obtain⟨p0,p1,p2,p3,p4,p5,p6,p7,p8,p9⟩:=blk10_cells X9;have pf:=X9.frozen;have hz:=X9.lt;obtain⟨q0,q1,q2,q3,q4,q5,q6,q7,q8,q9⟩:=blk10_cells e1;have G:=Lib.hid (And.intro e2 (And.intro e3 e4));clear e1 e2 e3 e4 X9;go_wp2_with fail;refine abs_ret (fun W=>Blk (w.heap.size+1+1+1) (.cells #[.int .i64 TT.node.me,.int .i64 TT.node.epoch,.int .i64 TT.node.up,.bool TT.node.ready,.string TT.node.text,.slice a0 TT.node.sides.length c0,.slice a1 TT.node.undo.length c1,.slice a2 TT.node.marks.length c2,.slice a3 TT.posts.length c3,.slice a4 TT.recs.length c4] 35 (0,0)) W∧TnVal (Fresh w.heap.size W) TT (.agg #[.int .i64 TT.node.me,.int .i64 TT.node.epoch,.int .i64 TT.node.up,.bool TT.node.ready,.string TT.node.text,.slice a0 TT.node.sides.length c0,.slice a1 TT.node.undo.length c1,.slice a2 TT.node.marks.length c2,.slice a3 TT.posts.length c3,.slice a4 TT.recs.length c4]) W∧Below w.heap.size w W) G.out ?_;rintro W ⟨y1,y2,y3⟩;obtain⟨k0,k1,k2,k3,k4,k5,k6,k7,k8,k9⟩:=blk10_cells y1;exact bodyPost_ret (v:=.tuple #[.agg #[.int .i64 TT.node.me,.int .i64 TT.node.epoch,.int .i64 TT.node.up,.bool TT.node.ready,.string TT.node.text,.slice a0 TT.node.sides.length c0,.slice a1 TT.node.undo.length c1,.slice a2 TT.node.marks.length c2,.slice a3 TT.posts.length c3,.slice a4 TT.recs.length c4],.int .i64 0]) (by simp[results,Tryd.results21,go_sem,k0,k1,k2,k3,k4,k5,k6,k7,k8,k9]) rfl (HTP.out _ _ ⟨_,rfl,y2,y3⟩)
 ·have hE:Hid (hearE n src p=p.check):=by unfold Hid hearE;rw[if_pos hp0]
  have HTE:Hid (∀e w',(e=.returned (.tuple #[.agg zeroTn,.int .i64 p.check])∧Below w.heap.size w w')→TurnE (hearE n src p) (hearT n src p) w e w'):=by
   intro e w' h;unfold TurnE;rw[hE.out,if_neg hp0];exact h
  have hpb:(p.check !=0)=true:=by simpa using hp0
  have X9:=X3;have B9:=B3;clear hp0;have hz:=X9.out.lt;obtain⟨p0,p1,p2,p3,p4,p5,p6,p7,p8,p9⟩:=blk10_cells X9.out;have pf:=X9.out.frozen;have G:=Lib.hid (zero_turn (w:=w) (b:=w.heap.size+1+1+1) (by omega) X9.out B9.out);go_wp2_with fail;refine abs_ret (fun W=>Blk (w.heap.size+1+1+1) (.cells zeroTn 35 (0,0)) W∧Below w.heap.size w W) G.out ?_;rintro W ⟨y1,y2⟩;obtain⟨k0,k1,k2,k3,k4,k5,k6,k7,k8,k9⟩:=blk10_cells y1;exact bodyPost_ret (v:=.tuple #[.agg zeroTn,.int .i64 p.check]) (by simp[results,Tryd.results21,go_sem,k0,k1,k2,k3,k4,k5,k6,k7,k8,k9]) rfl (HTE.out _ _ ⟨rfl,y2⟩)
end Go.Proofs.YtkbfhgcjimfgkaaDoor
set_option linter.unusedSimpArgs false
namespace Go.Proofs.YtkbfhgcjimfgkaaDoor
open Go.RowKit
theorem two_tree {b T:Nat}{W:World}(h:Blk b (.cells #[.int .i64 (-1),.int .i64 0] T (0,0)) W):RdS (· <W.heap.size) W ([-1,0]:List Int) (some ⟨b,0,none⟩) 2 2:=by
 refine⟨rfl,Nat.le_refl _,by unfold maxLen;omega,(fun h=>by cases h),fun _=>⟨b,0,rfl,h.lt,h.lt,fun i x hi=>?_⟩⟩
 match i,hi with
 |0,hi=>
  have e:(-1:Int)=x:=by simpa using hi
  subst e;refine⟨[.int .i64 (-1)],⟨rfl,by unfold I64;omega⟩,fun j u hu=>?_⟩
  match j,hu with
  |0,hu=>exact(h.cell 0).trans hu
  |j+1,hu=>cases hu
 |1,hi=>
  have e:(0:Int)=x:=by simpa using hi
  subst e;refine⟨[.int .i64 0],⟨rfl,by unfold I64;omega⟩,fun j u hu=>?_⟩
  match j,hu with
  |0,hu=>exact(h.cell 1).trans hu
  |j+1,hu=>cases hu
 |i+2,hi=>simp at hi
end Go.Proofs.YtkbfhgcjimfgkaaDoor
set_option linter.unusedSimpArgs false
namespace Go.Proofs.YtkbfhgcjimfgkaaDoor
open Go.RowKit
set_option maxRecDepth 100000 in
set_option maxHeartbeats 8000000 in
theorem edit_bad (t:List Int)(ta:Option Addr)(tn tc:Nat)(n:Nd)(a:Option Addr)(c:Nat)(ua:Option Addr)(uc:Nat)(ma:Option Addr)(mc:Nat)(o:Op)(oa:Option Addr)(oc:Nat)(b:Int)(w:World)(hg:Good w)(ht:RdS (· <w.heap.size) w t ta tn tc)
 (h1:RdS (· <w.heap.size) w n.sides a n.sides.length c) (h2:RdS (· <w.heap.size) w n.undo ua n.undo.length uc) (h3:RdS (· <w.heap.size) w n.marks ma n.marks.length mc) (hf:n.fits) (ho:RdS (· <w.heap.size) w o oa o.length oc) (hG:NdGood t n) (hB:NdB b n) (hb:b<1000000) (hE:editE n o≠0):
 Calls Tryd.prog 16 #[.slice ta tn tc,.agg #[.int .i64 n.me,.int .i64 n.epoch,.int .i64 n.up,.bool n.ready,.string n.text,.slice a n.sides.length c,.slice ua n.undo.length uc,.slice ma n.marks.length mc],.slice oa o.length oc] w (TurnE (editE n o) (editT n o) w):=by
 have HBg:=Lib.hid (fun W (hW:Below w.heap.size w W)=>ndBegin_good t ta tn tc n a c ua uc ma mc W (hg.go hW) (ht.go hW) (h1.go hW) (h2.go hW) (h3.go hW) hf hG (hB.queue hG hb));have HEd:=Lib.hid (fun base g vs W (hg:Good W)(hM:WkM base g ⟨n,[],[]⟩ vs W)(hr:RdS (NM g vs W) W o oa o.length oc)=>ndEdit_no hg hM hr hG.text (by
  unfold editE at hE;by_cases h1:n.ready=false
  ·exact .inl h1
  ·rw[if_neg h1]at hE;by_cases h2:applyE n.text o≠0
   ·exact .inr (.inl h2)
   ·rw[if_neg h2]at hE;refine .inr (.inr ?_);by_cases h3:(⟨n,[],[]⟩:Tn).full o=true
    ·exact h3
    ·rw[if_neg h3]at hE;exact absurd rfl hE))
 have hEE:editE n o=(if n.ready=false then 12 else if applyE n.text o≠0 then applyE n.text o else 8):=by
  unfold editE at hE⊢;by_cases h1:n.ready=false
  ·rw[if_pos h1,if_pos h1]
  ·rw[if_neg h1]at hE⊢;rw[if_neg h1];by_cases h2:applyE n.text o≠0
   ·rw[if_pos h2,if_pos h2]
   ·rw[if_neg h2]at hE⊢;rw[if_neg h2];by_cases h3:(⟨n,[],[]⟩:Tn).full o=true
    ·rw[if_pos h3]
    ·rw[if_neg h3]at hE;exact absurd rfl hE
 have hnm:∀base g vs W,WkM base g ⟨n,[],[]⟩ vs W→w.heap.size≤base→Below w.heap.size w W→RdS (NM g vs W) W o oa o.length oc:=fun base g vs W hM h1 h2=>hM.nm ho h2 h1;have Hnm:=Lib.hid hnm;have Hg:=Lib.hid hg;obtain⟨E,hEq⟩:∃E,E=editE n o:=⟨_,rfl⟩;unfold TurnE;rw[←hEq]at hE hEE⊢;simp only[if_neg hE];have hEd2:=HEd.out;simp only[←hEE]at hEd2;clear HEd;have HEd:=Lib.hid hEd2;have hgz:=hg.size;have hEb:(E !=0)=true:=by simp[hE]
 clear hEd2 hEE hnm hEq ht h1 h2 h3 hf ho hG hB hg hb;go_enter Tryd.func16,Tryd.ntmps16;go_wp2_with fail;refine abs_run (fun W=>Below w.heap.size w W∧Blk w.heap.size (.cells #[.int .i64 n.me,.int .i64 n.epoch,.int .i64 n.up,.bool n.ready,.string n.text,.slice a n.sides.length c,.slice ua n.undo.length uc,.slice ma n.marks.length mc] 31 (0,0)) W∧Blk (w.heap.size+1) (.cells zeroTn 35 (0,0)) W) ⟨by(repeat (first|exact Below.refl _ _|assumption|(refine Below.drew ?_)|(refine below_drewN ?_ _)|(refine Below.alloc ?_ (by first|(simp;done)|(simp;omega)|omega) _)|(refine Below.setCell ?_ (by first|(simp;done)|(simp;omega)|omega) _)|(refine Below.trans ?_ (Below.mono (by assumption) (by first|(simp;done)|(simp;omega)|omega))))),(Blk.new w _).alloc _,Blk.at _ _ _ (by simp)⟩ ?_;rintro w1 ⟨b1,x0,x1⟩;have B1:=Lib.hid b1;have X1:=Lib.hid x1;have hx1:=x1.lt;clear b1 x0 x1;refine(HBg.out w1 B1.out).mono ?_;rintro e w2 ⟨g,vs,rfl,m2,b2⟩;have M2:=Lib.hid m2;have B2:=Lib.hid (up B1.out b2);have X2:=Lib.hid (X1.out.go b2);have hz12:=b2.size;clear m2 b2 HBg X1;go_wp2_with fail;refine(HEd.out _ _ _ _ (Hg.out.go B2.out) M2.out (Hnm.out _ _ _ _ M2.out (by omega) B2.out)).mono ?_;rintro e w3 ⟨rfl,b3⟩;have B3:=Lib.hid (up B2.out b3);have X3:=Lib.hid (X2.out.go b3);have hz:=X3.out.lt;obtain⟨p0,p1,p2,p3,p4,p5,p6,p7,p8,p9⟩:=blk10_cells X3.out;have pf:=X3.out.frozen;have G:=Lib.hid (zero_turn (w:=w) (b:=w.heap.size+1) (by omega) X3.out B3.out);clear b3 HEd X2 B2;go_wp2_with fail;refine abs_ret (fun W=>Blk (w.heap.size+1) (.cells zeroTn 35 (0,0)) W∧Below w.heap.size w W) G.out ?_;rintro W ⟨y1,y2⟩;obtain⟨k0,k1,k2,k3,k4,k5,k6,k7,k8,k9⟩:=blk10_cells y1;exact bodyPost_ret (v:=.tuple #[.agg zeroTn,.int .i64 E]) (by simp[results,Tryd.results16,go_sem,k0,k1,k2,k3,k4,k5,k6,k7,k8,k9]) rfl ⟨rfl,y2⟩
end Go.Proofs.YtkbfhgcjimfgkaaDoor
