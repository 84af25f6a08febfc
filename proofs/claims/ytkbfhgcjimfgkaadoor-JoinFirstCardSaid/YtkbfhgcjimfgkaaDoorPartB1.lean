/- The walk of link.Hear at what is refused. -/
import Derived.Test.YtkbfhgcjimfgkaaDoorPartB0
import Derived.Test.YtkbfhgcjimfgkaaDoorPartA4
import Derived.Test.YtkbfhgcjimfgkaaDoorPartA6
import Derived.Test.YtkbfhgcjimfgkaaDoorPartA9
set_option linter.unusedVariables false
set_option linter.unusedSimpArgs false
set_option linter.unusedSimpArgs false
namespace Go.Proofs.YtkbfhgcjimfgkaaDoor
open Go.RowKit
def noLk:Lk:=⟨0,0,[],[],0⟩
def Lk.sendE (l:Lk)(f:Fr):Int:=if l.check≠0 then l.check else if l.epoch=0 then 12 else if f.check≠0 then f.check else if l.next=1048576 then 8 else 0
def Lk.push (l:Lk)(f:Fr):Lk:=(Lk.mk l.epoch l.next l.sent (l.queue++[f]) l.heard).filled
def Lk.sendL (l:Lk)(f:Fr):Lk:=if l.sendE f=0 then l.push f else noLk
def Lk.sendP (l:Lk)(f:Fr):List Pkt:=if l.sendE f=0 then(l.push f).pks l.sent.length else []
def LkPksP (l:Lk)(ps:List Pkt)(E:Int)(w:World)(e:Ending)(w':World):Prop:=
 ∃sa sc qa qc pa pc,e=.returned (.tuple #[.agg #[.int .i64 l.epoch,.int .i64 l.next,.slice sa l.sent.length sc,.slice qa l.queue.length qc,.int .i64 l.heard],.slice pa ps.length pc,.int .i64 E])∧
  RdS (fun z=>w.heap.size≤z∧z<w'.heap.size) w' l.sent sa l.sent.length sc∧RdS (fun z=>w.heap.size≤z∧z<w'.heap.size) w' l.queue qa l.queue.length qc∧RdS (fun z=>w.heap.size≤z∧z<w'.heap.size) w' ps pa ps.length pc∧Below w.heap.size w w'
theorem frame_ops {l:List Fr}(h:frsOk l=true):∀f∈l,f.op.length≤8001:=by
 intro f hf;unfold frsOk at h;have:=List.all_eq_true.1 h f hf;have h0:f.check=0:=by simpa using this
 unfold Fr.check checkFrame at h0;by_cases h1:f.kind<1∨3<f.kind
 ·rw[if_pos h1]at h0;exact absurd h0 (by decide)
 ·rw[if_neg h1]at h0;by_cases h2:num f.heard=false∨num f.epoch=false
  ·rw[if_pos h2]at h0;exact absurd h0 (by decide)
  ·rw[if_neg h2]at h0;by_cases h3:check f.op=0
   ·exact(check_zero h3).1
   ·rw[if_pos h3]at h0;exact absurd h0 h3
theorem frame_op1 {f:Fr}(h:f.check=0):f.op.length≤8001:=frame_ops (l:=[f]) (by simp[frsOk,h]) f (List.mem_singleton.2 rfl)
set_option maxRecDepth 100000 in
set_option maxHeartbeats 4000000 in
theorem lkSend_bad (l:Lk)(f:Fr)(a b fa:Option Addr)(n c m d fn fc:Nat)(w:World)(hg:Good w)(hr:RdS (· <w.heap.size) w l.sent a n c)(hq:RdS (· <w.heap.size) w l.queue b m d)(hfr:RdS (· <w.heap.size) w f.op fa fn fc)(hl:l.fits)(hf:f.fits)(hE:l.sendE f≠0):
 Calls Tryd.prog 71 #[.agg #[.int .i64 l.epoch,.int .i64 l.next,.slice a n c,.slice b m d,.int .i64 l.heard],.agg #[.int .i64 f.kind,.int .i64 f.heard,.int .i64 f.epoch,.slice fa fn fc,.string f.text]] w
  fun e w'=>e=.returned (.tuple #[.agg #[.int .i64 0,.int .i64 0,.slice none 0 0,.slice none 0 0,.int .i64 0],.slice none 0 0,.int .i64 (l.sendE f)])∧Below w.heap.size w w':=by
 have HC:=Lib.hid (fun W (hW:Below w.heap.size w W)=>lkCheck_any l a b n c m d W (hg.go hW) (hr.go hW) (hq.go hW) hl);have HF:=Lib.hid (fun W (hW:Below w.heap.size w W)=>checkFrame_any (· <W.heap.size) f.kind f.heard f.epoch f.op f.text fa fn fc W (hg.go hW) (fun _ h=>h) (hfr.go hW) hf.1 hf.2.1 hf.2.2.1 hf.2.2.2);rw[show checkFrame f.kind f.heard f.epoch f.op f.text=f.check from rfl]at HF;obtain⟨R,hR⟩:∃R,R=l.sendE f:=⟨_,rfl⟩;rw[←hR]at hE⊢;unfold Lk.sendE at hR;unfold lkV at HC;clear hr hq hfr hl hf hg;generalize l.check=e1 at*;generalize f.check=e2 at*;obtain⟨ep,nx,ls,lq,he⟩:=l;obtain⟨fk,fh,fe,fo,ft⟩:=f;simp only at*;have HR:=Lib.hid hR;have HEn:=Lib.hid hE;clear hR hE;have u0:Below w.heap.size w (((w.alloc (.cells #[.int .i64 ep,.int .i64 nx,.slice a n c,.slice b m d,.int .i64 he] 70)).alloc (.cells #[.int .i64 fk,.int .i64 fh,.int .i64 fe,.slice fa fn fc,.string ft] 44)).alloc (.cells #[.int .i64 0,.int .i64 0,.slice none 0 0,.slice none 0 0,.int .i64 0] 70)):=by(repeat (first|exact Below.refl _ _|assumption|(refine Below.drew ?_)|(refine below_drewN ?_ _)|(refine Below.alloc ?_ (by first|(simp;done)|(simp;omega)|omega) _)|(refine Below.setCell ?_ (by first|(simp;done)|(simp;omega)|omega) _)|(refine Below.trans ?_ (Below.mono (by assumption) (by first|(simp;done)|(simp;omega)|omega)))))
 have X0:=Lib.hid (((Blk.new w (.cells #[.int .i64 ep,.int .i64 nx,.slice a n c,.slice b m d,.int .i64 he] 70)).alloc (.cells #[.int .i64 fk,.int .i64 fh,.int .i64 fe,.slice fa fn fc,.string ft] 44)).alloc (.cells #[.int .i64 0,.int .i64 0,.slice none 0 0,.slice none 0 0,.int .i64 0] 70));have Y0:=Lib.hid ((Blk.at (w.alloc (.cells #[.int .i64 ep,.int .i64 nx,.slice a n c,.slice b m d,.int .i64 he] 70)) (.cells #[.int .i64 fk,.int .i64 fh,.int .i64 fe,.slice fa fn fc,.string ft] 44) (w.heap.size+1) (by simp)).alloc (.cells #[.int .i64 0,.int .i64 0,.slice none 0 0,.slice none 0 0,.int .i64 0] 70));have Z0:=Lib.hid (Blk.at ((w.alloc (.cells #[.int .i64 ep,.int .i64 nx,.slice a n c,.slice b m d,.int .i64 he] 70)).alloc (.cells #[.int .i64 fk,.int .i64 fh,.int .i64 fe,.slice fa fn fc,.string ft] 44)) (.cells #[.int .i64 0,.int .i64 0,.slice none 0 0,.slice none 0 0,.int .i64 0] 70) (w.heap.size+1+1) (by simp));have U0:=Lib.hid u0;clear u0;have Hfin:Hid (∀W:World,Blk (w.heap.size+1+1) (.cells #[.int .i64 0,.int .i64 0,.slice none 0 0,.slice none 0 0,.int .i64 0] 70 (0,0)) W→Below w.heap.size w W→Blk (w.heap.size+1+1) (.cells #[.int .i64 0,.int .i64 0,.slice none 0 0,.slice none 0 0,.int .i64 0] 70 (0,0)) (((((W.setCell ⟨w.heap.size+1+1,0,none⟩ (.int .i64 0)).setCell ⟨w.heap.size+1+1,1,none⟩ (.int .i64 0)).setCell ⟨w.heap.size+1+1,2,none⟩ (.slice none 0 0)).setCell ⟨w.heap.size+1+1,3,none⟩ (.slice none 0 0)).setCell ⟨w.heap.size+1+1,4,none⟩ (.int .i64 0))∧Below w.heap.size w (((((W.setCell ⟨w.heap.size+1+1,0,none⟩ (.int .i64 0)).setCell ⟨w.heap.size+1+1,1,none⟩ (.int .i64 0)).setCell ⟨w.heap.size+1+1,2,none⟩ (.slice none 0 0)).setCell ⟨w.heap.size+1+1,3,none⟩ (.slice none 0 0)).setCell ⟨w.heap.size+1+1,4,none⟩ (.int .i64 0))):=
  fun W hB hW=>⟨blk_set5 hB _ _ _ _ _,hW.trans ((touch5 _ _ _ _ _ _ _).toBelow hW.size (fun k hk=>by omega))⟩
 by_cases h1:e1=0
 ·subst h1;have hR1:=HR.out;rw[if_neg (by simp)]at hR1;by_cases h2:ep=0
  ·have b2:(ep==0)=true:=by simpa using h2
   rw[if_pos h2]at hR1;subst hR1;clear HR HEn h2;go_enter Tryd.func71,Tryd.ntmps71;go_wp2_with fail;refine(HC.out _ U0.out).mono ?_;rintro e w1 ⟨rfl,u1⟩;have x1:=X0.out.go u1;have z1:=Z0.out.go u1;obtain⟨q0,q1,q2,q3,q4⟩:=blk_cells5 x1;obtain⟨p0,p1,p2,p3,p4⟩:=blk_cells5 z1;have pf:=z1.frozen;have hz:=z1.lt;have G:=Lib.hid (Hfin.out w1 z1 (up U0.out u1));clear u1 x1 z1 X0 Y0 Z0 U0 HC HF Hfin;go_wp2_with fail;refine abs_ret (fun W=>Blk (w.heap.size+1+1) (.cells #[.int .i64 0,.int .i64 0,.slice none 0 0,.slice none 0 0,.int .i64 0] 70 (0,0)) W∧Below w.heap.size w W) G.out ?_;rintro W ⟨y1,y2⟩;obtain⟨k0,k1,k2,k3,k4⟩:=blk_cells5 y1;exact bodyPost_ret (v:=.tuple #[.agg #[.int .i64 0,.int .i64 0,.slice none 0 0,.slice none 0 0,.int .i64 0],.slice none 0 0,.int .i64 12]) (by simp[results,Tryd.results71,go_sem,k0,k1,k2,k3,k4]) rfl ⟨rfl,y2⟩
  ·have b2:(ep==0)=false:=by simpa using h2
   rw[if_neg h2]at hR1;by_cases h3:e2=0
   ·subst h3;rw[if_neg (by simp)]at hR1;have h4:nx=1048576:=by
     by_cases h4:nx=1048576
     ·exact h4
     ·rw[if_neg h4]at hR1;exact absurd hR1 HEn.out
    have b4:(nx==1048576)=true:=by simpa using h4
    rw[if_pos h4]at hR1;subst hR1;clear HR HEn h2 h4;go_enter Tryd.func71,Tryd.ntmps71;go_wp2_with fail;refine(HC.out _ U0.out).mono ?_;rintro e w1 ⟨rfl,u1⟩;have x1:=Lib.hid (X0.out.go u1);have y1:=Lib.hid (Y0.out.go u1);have z1:=Lib.hid (Z0.out.go u1);have U1:=Lib.hid (up U0.out u1);obtain⟨q0,q1,q2,q3,q4⟩:=blk_cells5 x1.out;obtain⟨r0,r1,r2,r3,r4⟩:=blk_cells5 y1.out;clear u1 X0 Y0 Z0 U0 HC;go_wp2_with fail;refine(HF.out _ U1.out).mono ?_;rintro e w2 ⟨rfl,u2⟩;have x2:=x1.out.go u2;have z2:=z1.out.go u2;obtain⟨s0,s1,s2,s3,s4⟩:=blk_cells5 x2;obtain⟨p0,p1,p2,p3,p4⟩:=blk_cells5 z2;have pf:=z2.frozen;have hz:=z2.lt;have G:=Lib.hid (Hfin.out w2 z2 (up U1.out u2));clear u2 x1 y1 z1 x2 z2 U1 HF Hfin q0 q1 q2 q3 q4 r0 r1 r2 r3 r4;go_wp2_with fail;refine abs_ret (fun W=>Blk (w.heap.size+1+1) (.cells #[.int .i64 0,.int .i64 0,.slice none 0 0,.slice none 0 0,.int .i64 0] 70 (0,0)) W∧Below w.heap.size w W) G.out ?_;rintro W ⟨y1,y2⟩;obtain⟨k0,k1,k2,k3,k4⟩:=blk_cells5 y1;exact bodyPost_ret (v:=.tuple #[.agg #[.int .i64 0,.int .i64 0,.slice none 0 0,.slice none 0 0,.int .i64 0],.slice none 0 0,.int .i64 8]) (by simp[results,Tryd.results71,go_sem,k0,k1,k2,k3,k4]) rfl ⟨rfl,y2⟩
   ·have b3:(e2 !=0)=true:=by simpa using h3
    rw[if_pos h3]at hR1;subst hR1;clear HR HEn h2 h3;go_enter Tryd.func71,Tryd.ntmps71;go_wp2_with fail;refine(HC.out _ U0.out).mono ?_;rintro e w1 ⟨rfl,u1⟩;have x1:=Lib.hid (X0.out.go u1);have y1:=Lib.hid (Y0.out.go u1);have z1:=Lib.hid (Z0.out.go u1);have U1:=Lib.hid (up U0.out u1);obtain⟨q0,q1,q2,q3,q4⟩:=blk_cells5 x1.out;obtain⟨r0,r1,r2,r3,r4⟩:=blk_cells5 y1.out;clear u1 X0 Y0 Z0 U0 HC;go_wp2_with fail;refine(HF.out _ U1.out).mono ?_;rintro e w2 ⟨rfl,u2⟩;have z2:=z1.out.go u2;obtain⟨p0,p1,p2,p3,p4⟩:=blk_cells5 z2;have pf:=z2.frozen;have hz:=z2.lt;have G:=Lib.hid (Hfin.out w2 z2 (up U1.out u2));clear u2 x1 y1 z1 z2 U1 HF Hfin q0 q1 q2 q3 q4 r0 r1 r2 r3 r4;go_wp2_with fail;refine abs_ret (fun W=>Blk (w.heap.size+1+1) (.cells #[.int .i64 0,.int .i64 0,.slice none 0 0,.slice none 0 0,.int .i64 0] 70 (0,0)) W∧Below w.heap.size w W) G.out ?_;rintro W ⟨y1,y2⟩;obtain⟨k0,k1,k2,k3,k4⟩:=blk_cells5 y1;exact bodyPost_ret (v:=.tuple #[.agg #[.int .i64 0,.int .i64 0,.slice none 0 0,.slice none 0 0,.int .i64 0],.slice none 0 0,.int .i64 R]) (by simp[results,Tryd.results71,go_sem,k0,k1,k2,k3,k4]) rfl ⟨rfl,y2⟩
 ·have b1:(e1 !=0)=true:=by simpa using h1
  have hR1:=HR.out;rw[if_pos h1]at hR1;subst hR1;clear HR HEn h1;go_enter Tryd.func71,Tryd.ntmps71;go_wp2_with fail;refine(HC.out _ U0.out).mono ?_;rintro e w1 ⟨rfl,u1⟩;have z1:=Z0.out.go u1;obtain⟨p0,p1,p2,p3,p4⟩:=blk_cells5 z1;have pf:=z1.frozen;have hz:=z1.lt;have G:=Lib.hid (Hfin.out w1 z1 (up U0.out u1));clear u1 z1 X0 Y0 Z0 U0 HC HF Hfin;go_wp2_with fail;refine abs_ret (fun W=>Blk (w.heap.size+1+1) (.cells #[.int .i64 0,.int .i64 0,.slice none 0 0,.slice none 0 0,.int .i64 0] 70 (0,0)) W∧Below w.heap.size w W) G.out ?_;rintro W ⟨y1,y2⟩;obtain⟨k0,k1,k2,k3,k4⟩:=blk_cells5 y1;exact bodyPost_ret (v:=.tuple #[.agg #[.int .i64 0,.int .i64 0,.slice none 0 0,.slice none 0 0,.int .i64 0],.slice none 0 0,.int .i64 R]) (by simp[results,Tryd.results71,go_sem,k0,k1,k2,k3,k4]) rfl ⟨rfl,y2⟩
end Go.Proofs.YtkbfhgcjimfgkaaDoor
set_option linter.unusedSimpArgs false
namespace Go.Proofs.YtkbfhgcjimfgkaaDoor
open Go.RowKit
def emptyF (k h e:Int)(n:Nat)(t:Str):Bool:=(k==0)&&(h==0)&&(e==0)&&((n:Int)==0)&&emptyS t
set_option maxRecDepth 100000 in
set_option maxHeartbeats 2000000 in
theorem empty_any (k h e:Int)(t:Str)(a:Option Addr)(n c:Nat)(w:World):
 Calls Tryd.prog 64 #[.agg #[.int .i64 k,.int .i64 h,.int .i64 e,.slice a n c,.string t]] w fun ee w'=>ee=.returned (.bool (emptyF k h e n t))∧Below w.heap.size w w':=by
 unfold emptyF;cases b1:(k==0)
 ·go_enter Tryd.func64,Tryd.ntmps64;go_wp2_with fail
  go_ret
  exact⟨rfl,by(repeat (first|exact Below.refl _ _|assumption|(refine Below.drew ?_)|(refine below_drewN ?_ _)|(refine Below.alloc ?_ (by first|(simp;done)|(simp;omega)|omega) _)|(refine Below.setCell ?_ (by first|(simp;done)|(simp;omega)|omega) _)|(refine Below.trans ?_ (Below.mono (by assumption) (by first|(simp;done)|(simp;omega)|omega)))))⟩
 cases b2:(h==0)
 ·go_enter Tryd.func64,Tryd.ntmps64;go_wp2_with fail
  go_ret
  exact⟨rfl,by(repeat (first|exact Below.refl _ _|assumption|(refine Below.drew ?_)|(refine below_drewN ?_ _)|(refine Below.alloc ?_ (by first|(simp;done)|(simp;omega)|omega) _)|(refine Below.setCell ?_ (by first|(simp;done)|(simp;omega)|omega) _)|(refine Below.trans ?_ (Below.mono (by assumption) (by first|(simp;done)|(simp;omega)|omega)))))⟩
 cases b3:(e==0)
 ·go_enter Tryd.func64,Tryd.ntmps64;go_wp2_with fail
  go_ret
  exact⟨rfl,by(repeat (first|exact Below.refl _ _|assumption|(refine Below.drew ?_)|(refine below_drewN ?_ _)|(refine Below.alloc ?_ (by first|(simp;done)|(simp;omega)|omega) _)|(refine Below.setCell ?_ (by first|(simp;done)|(simp;omega)|omega) _)|(refine Below.trans ?_ (Below.mono (by assumption) (by first|(simp;done)|(simp;omega)|omega)))))⟩
 cases b4:((n:Int)==0)
 ·go_enter Tryd.func64,Tryd.ntmps64;go_wp2_with fail
  go_ret
  exact⟨rfl,by(repeat (first|exact Below.refl _ _|assumption|(refine Below.drew ?_)|(refine below_drewN ?_ _)|(refine Below.alloc ?_ (by first|(simp;done)|(simp;omega)|omega) _)|(refine Below.setCell ?_ (by first|(simp;done)|(simp;omega)|omega) _)|(refine Below.trans ?_ (Below.mono (by assumption) (by first|(simp;done)|(simp;omega)|omega)))))⟩
 ·go_enter Tryd.func64,Tryd.ntmps64;go_wp2_with fail
  go_ret
  exact⟨by simp[emptyS],by(repeat (first|exact Below.refl _ _|assumption|(refine Below.drew ?_)|(refine below_drewN ?_ _)|(refine Below.alloc ?_ (by first|(simp;done)|(simp;omega)|omega) _)|(refine Below.setCell ?_ (by first|(simp;done)|(simp;omega)|omega) _)|(refine Below.trans ?_ (Below.mono (by assumption) (by first|(simp;done)|(simp;omega)|omega)))))⟩
def checkPacket (ep nu:Int)(ba:Bool)(ac k h fe:Int)(o:Op)(t:Str):Int:=
 if num ep=false∨num nu=false∨num ac=false then 2
 else if ba=true then(if nu≠0∨emptyF k h fe o.length t=false then 4 else 0)
 else if nu<1∨ep<1 then 4 else checkFrame k h fe o t
def Pkt.check (p:Pkt):Int:=checkPacket p.epoch p.number p.bare p.ack p.f.kind p.f.heard p.f.epoch p.f.op p.f.text
set_option maxRecDepth 100000 in
set_option maxHeartbeats 4000000 in
theorem checkPacket_any (ep nu:Int)(ba:Bool)(ac k h fe:Int)(o:Op)(t:Str)(a:Option Addr)(n c:Nat)(w:World)(hg:Good w)(hr:RdS (· <w.heap.size) w o a n c)(h1:I64 ep)(h2:I64 nu)(h3:I64 ac)(h4:I64 k)(h5:I64 h)(h6:I64 fe)(ht:t.size≤strMax):
 Calls Tryd.prog 37 #[.agg #[.int .i64 ep,.int .i64 nu,.bool ba,.int .i64 ac,.int .i64 k,.int .i64 h,.int .i64 fe,.slice a n c,.string t]] w fun e w'=>e=.returned (.int .i64 (checkPacket ep nu ba ac k h fe o t))∧Below w.heap.size w w':=by
 have hnl:o.length=n:=hr.1.symm;have H1:=Lib.hid (fun W=>number_any ep W h1);have H2:=Lib.hid (fun W=>number_any nu W h2);have H3:=Lib.hid (fun W=>number_any ac W h3);have HE:=Lib.hid (fun W=>empty_any k h fe t a n c W);have HF:=Lib.hid (fun W (hb:Below w.heap.size w W)=>checkFrame_any (· <W.heap.size) k h fe o t a n c W (hg.go hb) (fun _ h=>h) (hr.go hb) h4 h5 h6 ht);obtain⟨R,hR⟩:∃R,R=checkPacket ep nu ba ac k h fe o t:=⟨_,rfl⟩;rw[←hR];unfold checkPacket at hR;rw[hnl]at hR;have HR:=Lib.hid hR;unfold I64 at h1 h2;clear hR hnl hr hg h3 h4 h5 h6 ht;generalize emptyF k h fe n t=em at*;generalize checkFrame k h fe o t=cf at*;generalize num ac=b3 at*;generalize hb1:num ep=b1 at*;generalize hb2:num nu=b2 at*;clear hb1 hb2;cases b1 with
 |false=>
  have hR:=HR.out;rw[if_pos (.inl rfl)]at hR;subst hR;clear HR;go_enter Tryd.func37,Tryd.ntmps37;go_wp2_with fail;refine(H1.out _).mono ?_;rintro e W' ⟨rfl,rfl⟩;go_wp2_with fail
  go_ret
  exact⟨rfl,by(repeat (first|exact Below.refl _ _|assumption|(refine Below.drew ?_)|(refine below_drewN ?_ _)|(refine Below.alloc ?_ (by first|(simp;done)|(simp;omega)|omega) _)|(refine Below.setCell ?_ (by first|(simp;done)|(simp;omega)|omega) _)|(refine Below.trans ?_ (Below.mono (by assumption) (by first|(simp;done)|(simp;omega)|omega)))))⟩
 |true=>
 cases b2 with
 |false=>
  have hR:=HR.out;rw[if_pos (.inr (.inl rfl))]at hR;subst hR;clear HR;go_enter Tryd.func37,Tryd.ntmps37;go_wp2_with fail;refine(H1.out _).mono ?_;rintro e W' ⟨rfl,rfl⟩;go_wp2_with fail;refine(H2.out _).mono ?_;rintro e W' ⟨rfl,rfl⟩;go_wp2_with fail
  go_ret
  exact⟨rfl,by(repeat (first|exact Below.refl _ _|assumption|(refine Below.drew ?_)|(refine below_drewN ?_ _)|(refine Below.alloc ?_ (by first|(simp;done)|(simp;omega)|omega) _)|(refine Below.setCell ?_ (by first|(simp;done)|(simp;omega)|omega) _)|(refine Below.trans ?_ (Below.mono (by assumption) (by first|(simp;done)|(simp;omega)|omega)))))⟩
 |true=>
 cases b3 with
 |false=>
  have hR:=HR.out;rw[if_pos (.inr (.inr rfl))]at hR;subst hR;clear HR;go_enter Tryd.func37,Tryd.ntmps37;go_wp2_with fail;refine(H1.out _).mono ?_;rintro e W' ⟨rfl,rfl⟩;go_wp2_with fail;refine(H2.out _).mono ?_;rintro e W' ⟨rfl,rfl⟩;go_wp2_with fail;refine(H3.out _).mono ?_;rintro e W' ⟨rfl,rfl⟩;go_wp2_with fail
  go_ret
  exact⟨rfl,by(repeat (first|exact Below.refl _ _|assumption|(refine Below.drew ?_)|(refine below_drewN ?_ _)|(refine Below.alloc ?_ (by first|(simp;done)|(simp;omega)|omega) _)|(refine Below.setCell ?_ (by first|(simp;done)|(simp;omega)|omega) _)|(refine Below.trans ?_ (Below.mono (by assumption) (by first|(simp;done)|(simp;omega)|omega)))))⟩
 |true=>
 cases ba with
 |true=>
  by_cases hn0:nu=0
  ·subst hn0;cases em with
   |false=>
    have hR:=HR.out;rw[if_neg (by simp),if_pos rfl,if_pos (.inr rfl)]at hR;subst hR;clear HR;go_enter Tryd.func37,Tryd.ntmps37;go_wp2_with fail;refine(H1.out _).mono ?_;rintro e W' ⟨rfl,rfl⟩;go_wp2_with fail;refine(H2.out _).mono ?_;rintro e W' ⟨rfl,rfl⟩;go_wp2_with fail;refine(H3.out _).mono ?_;rintro e W' ⟨rfl,rfl⟩;go_wp2_with fail;refine abs_run (fun W=>Below w.heap.size w W) (by(repeat (first|exact Below.refl _ _|assumption|(refine Below.drew ?_)|(refine below_drewN ?_ _)|(refine Below.alloc ?_ (by first|(simp;done)|(simp;omega)|omega) _)|(refine Below.setCell ?_ (by first|(simp;done)|(simp;omega)|omega) _)|(refine Below.trans ?_ (Below.mono (by assumption) (by first|(simp;done)|(simp;omega)|omega)))))) ?_;intro W2 hW;refine(HE.out _).mono ?_;rintro e W3 ⟨rfl,hb⟩;have HB:=Lib.hid (up hW hb);clear hW hb;go_wp2_with fail
    go_ret
    exact⟨rfl,HB.out⟩
   |true=>
    have hR:=HR.out;rw[if_neg (by simp),if_pos rfl,if_neg (by simp)]at hR;subst hR;clear HR;go_enter Tryd.func37,Tryd.ntmps37;go_wp2_with fail;refine(H1.out _).mono ?_;rintro e W' ⟨rfl,rfl⟩;go_wp2_with fail;refine(H2.out _).mono ?_;rintro e W' ⟨rfl,rfl⟩;go_wp2_with fail;refine(H3.out _).mono ?_;rintro e W' ⟨rfl,rfl⟩;go_wp2_with fail;refine abs_run (fun W=>Below w.heap.size w W) (by(repeat (first|exact Below.refl _ _|assumption|(refine Below.drew ?_)|(refine below_drewN ?_ _)|(refine Below.alloc ?_ (by first|(simp;done)|(simp;omega)|omega) _)|(refine Below.setCell ?_ (by first|(simp;done)|(simp;omega)|omega) _)|(refine Below.trans ?_ (Below.mono (by assumption) (by first|(simp;done)|(simp;omega)|omega)))))) ?_;intro W2 hW;refine(HE.out _).mono ?_;rintro e W3 ⟨rfl,hb⟩;have HB:=Lib.hid (up hW hb);clear hW hb;go_wp2_with fail
    go_ret
    exact⟨rfl,HB.out⟩
  ·have hd:(nu !=0)=true:=by simpa using hn0
   have hR:=HR.out;rw[if_neg (by simp),if_pos rfl,if_pos (.inl hn0)]at hR;subst hR;clear HR;go_enter Tryd.func37,Tryd.ntmps37;go_wp2_with fail;refine(H1.out _).mono ?_;rintro e W' ⟨rfl,rfl⟩;go_wp2_with fail;refine(H2.out _).mono ?_;rintro e W' ⟨rfl,rfl⟩;go_wp2_with fail;refine(H3.out _).mono ?_;rintro e W' ⟨rfl,rfl⟩;go_wp2_with fail
   go_ret
   exact⟨rfl,by(repeat (first|exact Below.refl _ _|assumption|(refine Below.drew ?_)|(refine below_drewN ?_ _)|(refine Below.alloc ?_ (by first|(simp;done)|(simp;omega)|omega) _)|(refine Below.setCell ?_ (by first|(simp;done)|(simp;omega)|omega) _)|(refine Below.trans ?_ (Below.mono (by assumption) (by first|(simp;done)|(simp;omega)|omega)))))⟩
 |false=>
  by_cases hn1:nu<1
  ·have hd:decide (nu<1)=true:=by simpa using hn1
   have hR:=HR.out;rw[if_neg (by simp),if_neg (by simp),if_pos (.inl hn1)]at hR;subst hR;clear HR;go_enter Tryd.func37,Tryd.ntmps37;go_wp2_with fail;refine(H1.out _).mono ?_;rintro e W' ⟨rfl,rfl⟩;go_wp2_with fail;refine(H2.out _).mono ?_;rintro e W' ⟨rfl,rfl⟩;go_wp2_with fail;refine(H3.out _).mono ?_;rintro e W' ⟨rfl,rfl⟩;go_wp2_with fail
   go_ret
   exact⟨rfl,by(repeat (first|exact Below.refl _ _|assumption|(refine Below.drew ?_)|(refine below_drewN ?_ _)|(refine Below.alloc ?_ (by first|(simp;done)|(simp;omega)|omega) _)|(refine Below.setCell ?_ (by first|(simp;done)|(simp;omega)|omega) _)|(refine Below.trans ?_ (Below.mono (by assumption) (by first|(simp;done)|(simp;omega)|omega)))))⟩
  ·have hd:decide (nu<1)=false:=by simpa using hn1
   by_cases he1:ep<1
   ·have hd2:decide (ep<1)=true:=by simpa using he1
    have hR:=HR.out;rw[if_neg (by simp),if_neg (by simp),if_pos (.inr he1)]at hR;subst hR;clear HR;go_enter Tryd.func37,Tryd.ntmps37;go_wp2_with fail;refine(H1.out _).mono ?_;rintro e W' ⟨rfl,rfl⟩;go_wp2_with fail;refine(H2.out _).mono ?_;rintro e W' ⟨rfl,rfl⟩;go_wp2_with fail;refine(H3.out _).mono ?_;rintro e W' ⟨rfl,rfl⟩;go_wp2_with fail
    go_ret
    exact⟨rfl,by(repeat (first|exact Below.refl _ _|assumption|(refine Below.drew ?_)|(refine below_drewN ?_ _)|(refine Below.alloc ?_ (by first|(simp;done)|(simp;omega)|omega) _)|(refine Below.setCell ?_ (by first|(simp;done)|(simp;omega)|omega) _)|(refine Below.trans ?_ (Below.mono (by assumption) (by first|(simp;done)|(simp;omega)|omega)))))⟩
   ·have hd2:decide (ep<1)=false:=by simpa using he1
    have hR:=HR.out;rw[if_neg (by simp),if_neg (by simp),if_neg (by omega)]at hR;subst hR;clear HR;go_enter Tryd.func37,Tryd.ntmps37;go_wp2_with fail;refine(H1.out _).mono ?_;rintro e W' ⟨rfl,rfl⟩;go_wp2_with fail;refine(H2.out _).mono ?_;rintro e W' ⟨rfl,rfl⟩;go_wp2_with fail;refine(H3.out _).mono ?_;rintro e W' ⟨rfl,rfl⟩;go_wp2_with fail;refine abs_run (fun W=>Below w.heap.size w W) (by(repeat (first|exact Below.refl _ _|assumption|(refine Below.drew ?_)|(refine below_drewN ?_ _)|(refine Below.alloc ?_ (by first|(simp;done)|(simp;omega)|omega) _)|(refine Below.setCell ?_ (by first|(simp;done)|(simp;omega)|omega) _)|(refine Below.trans ?_ (Below.mono (by assumption) (by first|(simp;done)|(simp;omega)|omega)))))) ?_;intro W2 hW;refine(HF.out _ hW).mono ?_;rintro e W3 ⟨rfl,hb⟩;have HB:=Lib.hid (up hW hb);clear hW hb;go_wp2_with fail
    go_ret
    exact⟨rfl,HB.out⟩
end Go.Proofs.YtkbfhgcjimfgkaaDoor
set_option linter.unusedSimpArgs false
namespace Go.Proofs.YtkbfhgcjimfgkaaDoor
open Go.RowKit
abbrev set5w (W:World)(g:Nat)(v0 v1 v2 v3 v4:Value):World:=((((W.setCell ⟨g,0,none⟩ v0).setCell ⟨g,1,none⟩ v1).setCell ⟨g,2,none⟩ v2).setCell ⟨g,3,none⟩ v3).setCell ⟨g,4,none⟩ v4
abbrev lk0:Array Value:=#[.int .i64 0,.int .i64 0,.slice none 0 0,.slice none 0 0,.int .i64 0]
abbrev fr0:Array Value:=#[.int .i64 0,.int .i64 0,.int .i64 0,.slice none 0 0,.string ⟨#[]⟩]
def Lk.hearE (l:Lk)(p:Pkt):Int:=if l.check≠0 then l.check else if p.check≠0 then p.check else if l.epoch=0∨p.epoch≠l.epoch then 12 else 0
def Lk.acked (l:Lk)(ack:Int):List Fr:=if l.next-l.sent.length≤ack∧ack<l.next then l.sent.drop (ack-(l.next-l.sent.length)+1).toNat else l.sent
def Lk.tells (l:Lk)(p:Pkt):Bool:=!p.bare&&(p.number==l.heard+1)&&decide (l.heard<1048576)
def Lk.behind (l:Lk)(p:Pkt):Lk:=⟨l.epoch,l.next,l.acked p.ack,l.queue,if l.tells p then l.heard+1 else l.heard⟩
def Lk.hearL (l:Lk)(p:Pkt):Lk:=if l.hearE p=0 then(l.behind p).filled else noLk
def Lk.told (l:Lk)(p:Pkt):Bool:=if l.hearE p=0 then l.tells p else false
def Lk.hearF (l:Lk)(p:Pkt):Fr:=if l.told p=true then p.f else bareFr
def Lk.hearP (l:Lk)(p:Pkt):List Pkt:=if l.hearE p=0 then(l.behind p).filled.pks (l.acked p.ack).length++(if p.bare then []else [(l.behind p).filled.barePk])else []
def LkHearP (l:Lk)(p:Pkt)(w:World)(e:Ending)(w':World):Prop:=
 ∃sa sc qa qc fa fc pa pc,e=.returned (.tuple #[.agg #[.int .i64 (l.hearL p).epoch,.int .i64 (l.hearL p).next,.slice sa (l.hearL p).sent.length sc,.slice qa (l.hearL p).queue.length qc,.int .i64 (l.hearL p).heard],.agg #[.int .i64 (l.hearF p).kind,.int .i64 (l.hearF p).heard,.int .i64 (l.hearF p).epoch,.slice fa (l.hearF p).op.length fc,.string (l.hearF p).text],.bool (l.told p),.slice pa (l.hearP p).length pc,.int .i64 (l.hearE p)])∧
  RdS (fun z=>w.heap.size≤z∧z<w'.heap.size) w' (l.hearL p).sent sa (l.hearL p).sent.length sc∧RdS (fun z=>w.heap.size≤z∧z<w'.heap.size) w' (l.hearL p).queue qa (l.hearL p).queue.length qc∧RdS (fun z=>w.heap.size≤z∧z<w'.heap.size) w' (l.hearF p).op fa (l.hearF p).op.length fc∧RdS (fun z=>w.heap.size≤z∧z<w'.heap.size) w' (l.hearP p) pa (l.hearP p).length pc∧Below w.heap.size w w'
def Pkt.fits (p:Pkt):Prop:=I64 p.epoch∧I64 p.number∧I64 p.ack∧p.f.fits
set_option maxRecDepth 100000 in
set_option maxHeartbeats 6000000 in
theorem lkHear_bad (l:Lk)(p:Pkt)(a b fa:Option Addr)(n c m d fn fc:Nat)(w:World)(hg:Good w)(hr:RdS (· <w.heap.size) w l.sent a n c)(hq:RdS (· <w.heap.size) w l.queue b m d)(hfr:RdS (· <w.heap.size) w p.f.op fa fn fc)(hl:l.fits)(hp:p.fits)(hE:l.hearE p≠0):
 Calls Tryd.prog 66 #[.agg #[.int .i64 l.epoch,.int .i64 l.next,.slice a n c,.slice b m d,.int .i64 l.heard],.agg #[.int .i64 p.epoch,.int .i64 p.number,.bool p.bare,.int .i64 p.ack,.int .i64 p.f.kind,.int .i64 p.f.heard,.int .i64 p.f.epoch,.slice fa fn fc,.string p.f.text]] w
  fun e w'=>e=.returned (.tuple #[.agg #[.int .i64 0,.int .i64 0,.slice none 0 0,.slice none 0 0,.int .i64 0],.agg #[.int .i64 0,.int .i64 0,.int .i64 0,.slice none 0 0,.string ⟨#[]⟩],.bool false,.slice none 0 0,.int .i64 (l.hearE p)])∧Below w.heap.size w w':=by
 have HC:=Lib.hid (fun W (hW:Below w.heap.size w W)=>lkCheck_any l a b n c m d W (hg.go hW) (hr.go hW) (hq.go hW) hl);have HF:=Lib.hid (fun W (hW:Below w.heap.size w W)=>checkPacket_any p.epoch p.number p.bare p.ack p.f.kind p.f.heard p.f.epoch p.f.op p.f.text fa fn fc W (hg.go hW) (hfr.go hW) hp.1 hp.2.1 hp.2.2.1 hp.2.2.2.1 hp.2.2.2.2.1 hp.2.2.2.2.2.1 hp.2.2.2.2.2.2);rw[show checkPacket p.epoch p.number p.bare p.ack p.f.kind p.f.heard p.f.epoch p.f.op p.f.text=p.check from rfl]at HF;obtain⟨R,hR⟩:∃R,R=l.hearE p:=⟨_,rfl⟩;rw[←hR]at hE⊢;unfold Lk.hearE at hR;unfold lkV at HC;clear hr hq hfr hl hp hg;generalize l.check=e1 at*;generalize p.check=e2 at*;obtain⟨ep,nx,ls,lq,he⟩:=l;obtain⟨pe,pn,pb,pk,fk,fh,fe,fo,ft⟩:=p;simp only at*;have HR:=Lib.hid hR;have HEn:=Lib.hid hE;clear hR hE;obtain⟨cl,hcl⟩:∃cl:Obj,cl=.cells #[.int .i64 ep,.int .i64 nx,.slice a n c,.slice b m d,.int .i64 he] 70 (0,0):=⟨_,rfl⟩;obtain⟨cp,hcp⟩:∃cp:Obj,cp=.cells #[.int .i64 pe,.int .i64 pn,.bool pb,.int .i64 pk,.int .i64 fk,.int .i64 fh,.int .i64 fe,.slice fa fn fc,.string ft] 46 (0,0):=⟨_,rfl⟩;obtain⟨c4,hc4⟩:∃c4:Obj,c4=.cells lk0 70 (0,0):=⟨_,rfl⟩;obtain⟨c5,hc5⟩:∃c5:Obj,c5=.cells fr0 44 (0,0):=⟨_,rfl⟩;have U0:Hid (Below w.heap.size w ((((w.alloc cl).alloc cp).alloc c4).alloc c5)):=by unfold Hid;(repeat (first|exact Below.refl _ _|assumption|(refine Below.drew ?_)|(refine below_drewN ?_ _)|(refine Below.alloc ?_ (by first|(simp;done)|(simp;omega)|omega) _)|(refine Below.setCell ?_ (by first|(simp;done)|(simp;omega)|omega) _)|(refine Below.trans ?_ (Below.mono (by assumption) (by first|(simp;done)|(simp;omega)|omega)))))
 have X0:Hid (Blk w.heap.size cl ((((w.alloc cl).alloc cp).alloc c4).alloc c5)):=(((Blk.new w _).alloc _).alloc _).alloc _;have Y0:Hid (Blk (w.heap.size+1) cp ((((w.alloc cl).alloc cp).alloc c4).alloc c5)):=((Blk.at (w.alloc cl) _ _ (by simp)).alloc _).alloc _;have Z0:Hid (Blk (w.heap.size+1+1) c4 ((((w.alloc cl).alloc cp).alloc c4).alloc c5)):=(Blk.at ((w.alloc cl).alloc cp) _ _ (by simp)).alloc _;have V0:Hid (Blk (w.heap.size+1+1+1) c5 ((((w.alloc cl).alloc cp).alloc c4).alloc c5)):=Blk.at (((w.alloc cl).alloc cp).alloc c4) _ _ (by simp);subst hcl hcp hc4 hc5;have Hfin:Hid (∀W:World,Blk (w.heap.size+1+1) (.cells lk0 70 (0,0)) W→Blk (w.heap.size+1+1+1) (.cells fr0 44 (0,0)) W→Below w.heap.size w W→
  Blk (w.heap.size+1+1) (.cells lk0 70 (0,0)) (set5w (set5w W (w.heap.size+1+1) (.int .i64 0) (.int .i64 0) (.slice none 0 0) (.slice none 0 0) (.int .i64 0)) (w.heap.size+1+1+1) (.int .i64 0) (.int .i64 0) (.int .i64 0) (.slice none 0 0) (.string ⟨#[]⟩))∧
  Blk (w.heap.size+1+1+1) (.cells fr0 44 (0,0)) (set5w (set5w W (w.heap.size+1+1) (.int .i64 0) (.int .i64 0) (.slice none 0 0) (.slice none 0 0) (.int .i64 0)) (w.heap.size+1+1+1) (.int .i64 0) (.int .i64 0) (.int .i64 0) (.slice none 0 0) (.string ⟨#[]⟩))∧
  Below w.heap.size w (set5w (set5w W (w.heap.size+1+1) (.int .i64 0) (.int .i64 0) (.slice none 0 0) (.slice none 0 0) (.int .i64 0)) (w.heap.size+1+1+1) (.int .i64 0) (.int .i64 0) (.int .i64 0) (.slice none 0 0) (.string ⟨#[]⟩))):=by
  intro W hB hC hW;have t1:=touch5 W (w.heap.size+1+1) (.int .i64 0) (.int .i64 0) (.slice none 0 0) (.slice none 0 0) (.int .i64 0);have b1:=blk_set5 hB (.int .i64 0) (.int .i64 0) (.slice none 0 0) (.slice none 0 0) (.int .i64 0);have b2:=hC.touch t1 (by omega);have t2:=touch5 (set5w W (w.heap.size+1+1) (.int .i64 0) (.int .i64 0) (.slice none 0 0) (.slice none 0 0) (.int .i64 0)) (w.heap.size+1+1+1) (.int .i64 0) (.int .i64 0) (.int .i64 0) (.slice none 0 0) (.string ⟨#[]⟩);have hz:=t1.size;have hz0:=hW.size;exact⟨b1.touch t2 (by omega),blk_set5 b2 _ _ _ _ _,(hW.trans (t1.toBelow hW.size (fun k hk=>by omega))).trans (t2.toBelow (Nat.le_trans hz0 hz) (fun k hk=>by omega))⟩
 by_cases h1:e1=0
 ·subst h1;have hR1:=HR.out;rw[if_neg (by simp)]at hR1;by_cases h2:e2=0
  ·subst h2;rw[if_neg (by simp)]at hR1;have h3:ep=0∨pe≠ep:=by
    by_cases h3:ep=0∨pe≠ep
    ·exact h3
    ·rw[if_neg h3]at hR1;exact absurd hR1 HEn.out
   rw[if_pos h3]at hR1;subst hR1;clear HR HEn;by_cases h4:ep=0
   ·have b4:(ep==0)=true:=by simpa using h4
    clear h3 h4;go_enter Tryd.func66,Tryd.ntmps66;go_wp2_with fail;refine(HC.out _ U0.out).mono ?_;rintro e w1 ⟨rfl,u1⟩;have x1:=Lib.hid (X0.out.go u1);have y1:=Lib.hid (Y0.out.go u1);have z1:=Lib.hid (Z0.out.go u1);have v1:=Lib.hid (V0.out.go u1);have U1:=Lib.hid (up U0.out u1);obtain⟨r0,r1,r2,r3,r4,r5,r6,r7,r8⟩:=blk9_cells y1.out;clear u1 X0 Y0 Z0 V0 U0 HC;go_wp2_with fail;refine(HF.out _ U1.out).mono ?_;rintro e w2 ⟨rfl,u2⟩;have x2:=x1.out.go u2;have z2:=z1.out.go u2;have v2:=v1.out.go u2;obtain⟨s0,s1,s2,s3,s4⟩:=blk_cells5 x2;obtain⟨p0,p1,p2,p3,p4⟩:=blk_cells5 z2;have pf:=z2.frozen;have hz:=z2.lt;obtain⟨o0,o1,o2,o3,o4⟩:=blk_cells5 v2;have of:=v2.frozen;have hzv:=v2.lt;have G:=Lib.hid (Hfin.out w2 z2 v2 (up U1.out u2));clear u2 x1 y1 z1 v1 x2 z2 v2 U1 HF Hfin r0 r1 r2 r3 r4 r5 r6 r7 r8;go_wp2_with fail;refine abs_ret (fun W=>Blk (w.heap.size+1+1) (.cells lk0 70 (0,0)) W∧Blk (w.heap.size+1+1+1) (.cells fr0 44 (0,0)) W∧Below w.heap.size w W) G.out ?_;rintro W ⟨y1,y2,y3⟩;obtain⟨k0,k1,k2,k3,k4⟩:=blk_cells5 y1;obtain⟨j0,j1,j2,j3,j4⟩:=blk_cells5 y2;exact bodyPost_ret (v:=.tuple #[.agg lk0,.agg fr0,.bool false,.slice none 0 0,.int .i64 12]) (by simp[results,Tryd.results66,go_sem,k0,k1,k2,k3,k4,j0,j1,j2,j3,j4]) rfl ⟨rfl,y3⟩
   ·have b4:(ep==0)=false:=by simpa using h4
    have b5:(pe !=ep)=true:=by
     rcases h3 with h|h
     ·exact absurd h h4
     ·simpa using h
    clear h3 h4;go_enter Tryd.func66,Tryd.ntmps66;go_wp2_with fail;refine(HC.out _ U0.out).mono ?_;rintro e w1 ⟨rfl,u1⟩;have x1:=Lib.hid (X0.out.go u1);have y1:=Lib.hid (Y0.out.go u1);have z1:=Lib.hid (Z0.out.go u1);have v1:=Lib.hid (V0.out.go u1);have U1:=Lib.hid (up U0.out u1);obtain⟨r0,r1,r2,r3,r4,r5,r6,r7,r8⟩:=blk9_cells y1.out;clear u1 X0 Y0 Z0 V0 U0 HC;go_wp2_with fail;refine(HF.out _ U1.out).mono ?_;rintro e w2 ⟨rfl,u2⟩;have x2:=x1.out.go u2;have y2:=y1.out.go u2;have z2:=z1.out.go u2;have v2:=v1.out.go u2;clear r0 r1 r2 r3 r4 r5 r6 r7 r8;obtain⟨r0,r1,r2,r3,r4,r5,r6,r7,r8⟩:=blk9_cells y2;obtain⟨s0,s1,s2,s3,s4⟩:=blk_cells5 x2;obtain⟨p0,p1,p2,p3,p4⟩:=blk_cells5 z2;have pf:=z2.frozen;have hz:=z2.lt;obtain⟨o0,o1,o2,o3,o4⟩:=blk_cells5 v2;have of:=v2.frozen;have hzv:=v2.lt;have G:=Lib.hid (Hfin.out w2 z2 v2 (up U1.out u2));clear u2 x1 y1 z1 v1 x2 y2 z2 v2 U1 HF Hfin;go_wp2_with fail;refine abs_ret (fun W=>Blk (w.heap.size+1+1) (.cells lk0 70 (0,0)) W∧Blk (w.heap.size+1+1+1) (.cells fr0 44 (0,0)) W∧Below w.heap.size w W) G.out ?_;rintro W ⟨y1,y2,y3⟩;obtain⟨k0,k1,k2,k3,k4⟩:=blk_cells5 y1;obtain⟨j0,j1,j2,j3,j4⟩:=blk_cells5 y2;exact bodyPost_ret (v:=.tuple #[.agg lk0,.agg fr0,.bool false,.slice none 0 0,.int .i64 12]) (by simp[results,Tryd.results66,go_sem,k0,k1,k2,k3,k4,j0,j1,j2,j3,j4]) rfl ⟨rfl,y3⟩
  ·have b2:(e2 !=0)=true:=by simpa using h2
   rw[if_pos h2]at hR1;subst hR1;clear HR HEn h2;go_enter Tryd.func66,Tryd.ntmps66;go_wp2_with fail;refine(HC.out _ U0.out).mono ?_;rintro e w1 ⟨rfl,u1⟩;have y1:=Lib.hid (Y0.out.go u1);have z1:=Lib.hid (Z0.out.go u1);have v1:=Lib.hid (V0.out.go u1);have U1:=Lib.hid (up U0.out u1);obtain⟨r0,r1,r2,r3,r4,r5,r6,r7,r8⟩:=blk9_cells y1.out;clear u1 X0 Y0 Z0 V0 U0 HC;go_wp2_with fail;refine(HF.out _ U1.out).mono ?_;rintro e w2 ⟨rfl,u2⟩;have z2:=z1.out.go u2;have v2:=v1.out.go u2;obtain⟨p0,p1,p2,p3,p4⟩:=blk_cells5 z2;have pf:=z2.frozen;have hz:=z2.lt;obtain⟨o0,o1,o2,o3,o4⟩:=blk_cells5 v2;have of:=v2.frozen;have hzv:=v2.lt;have G:=Lib.hid (Hfin.out w2 z2 v2 (up U1.out u2));clear u2 y1 z1 v1 z2 v2 U1 HF Hfin r0 r1 r2 r3 r4 r5 r6 r7 r8;go_wp2_with fail;refine abs_ret (fun W=>Blk (w.heap.size+1+1) (.cells lk0 70 (0,0)) W∧Blk (w.heap.size+1+1+1) (.cells fr0 44 (0,0)) W∧Below w.heap.size w W) G.out ?_;rintro W ⟨y1,y2,y3⟩;obtain⟨k0,k1,k2,k3,k4⟩:=blk_cells5 y1;obtain⟨j0,j1,j2,j3,j4⟩:=blk_cells5 y2;exact bodyPost_ret (v:=.tuple #[.agg lk0,.agg fr0,.bool false,.slice none 0 0,.int .i64 R]) (by simp[results,Tryd.results66,go_sem,k0,k1,k2,k3,k4,j0,j1,j2,j3,j4]) rfl ⟨rfl,y3⟩
 ·have b1:(e1 !=0)=true:=by simpa using h1
  have hR1:=HR.out;rw[if_pos h1]at hR1;subst hR1;clear HR HEn h1;go_enter Tryd.func66,Tryd.ntmps66;go_wp2_with fail;refine(HC.out _ U0.out).mono ?_;rintro e w1 ⟨rfl,u1⟩;have z2:=Z0.out.go u1;have v2:=V0.out.go u1;obtain⟨p0,p1,p2,p3,p4⟩:=blk_cells5 z2;have pf:=z2.frozen;have hz:=z2.lt;obtain⟨o0,o1,o2,o3,o4⟩:=blk_cells5 v2;have of:=v2.frozen;have hzv:=v2.lt;have G:=Lib.hid (Hfin.out w1 z2 v2 (up U0.out u1));clear u1 z2 v2 X0 Y0 Z0 V0 U0 HC HF Hfin;go_wp2_with fail;refine abs_ret (fun W=>Blk (w.heap.size+1+1) (.cells lk0 70 (0,0)) W∧Blk (w.heap.size+1+1+1) (.cells fr0 44 (0,0)) W∧Below w.heap.size w W) G.out ?_;rintro W ⟨y1,y2,y3⟩;obtain⟨k0,k1,k2,k3,k4⟩:=blk_cells5 y1;obtain⟨j0,j1,j2,j3,j4⟩:=blk_cells5 y2;exact bodyPost_ret (v:=.tuple #[.agg lk0,.agg fr0,.bool false,.slice none 0 0,.int .i64 R]) (by simp[results,Tryd.results66,go_sem,k0,k1,k2,k3,k4,j0,j1,j2,j3,j4]) rfl ⟨rfl,y3⟩
end Go.Proofs.YtkbfhgcjimfgkaaDoor
