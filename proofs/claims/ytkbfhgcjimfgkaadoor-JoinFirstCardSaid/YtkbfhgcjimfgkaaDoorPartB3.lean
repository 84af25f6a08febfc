/- Links, frames and packets as values that the cables' laws hold; the calls at a link that sends one frame again and again. -/
import Derived.Test.YtkbfhgcjimfgkaaDoorPartB1
import Derived.Test.YtkbfhgcjimfgkaaDoorPartB2
import Derived.Deep.Cut
import Derived.Deep.CutRange
set_option linter.unusedVariables false
set_option linter.unusedSimpArgs false
set_option linter.unusedSimpArgs false
namespace Go.Proofs.YtkbfhgcjimfgkaaDoor
open Go.RowKit
theorem hearE_zero {l:Lk}{p:Pkt}(h:l.hearE p=0):l.check=0∧p.check=0∧l.epoch≠0∧p.epoch=l.epoch:=by
 unfold Lk.hearE at h;by_cases h1:l.check=0
 ·rw[if_neg (by simpa using h1)]at h;by_cases h2:p.check=0
  ·rw[if_neg (by simpa using h2)]at h;by_cases h3:l.epoch=0∨p.epoch≠l.epoch
   ·rw[if_pos h3]at h;exact absurd h (by decide)
   ·refine⟨h1,h2,fun h=>h3 (.inl h),?_⟩;by_cases h4:p.epoch=l.epoch
    ·exact h4
    ·exact absurd (.inr h4) h3
  ·rw[if_pos h2]at h;exact absurd h h2
 ·rw[if_pos h1]at h;exact absurd h h1
theorem pkt_op {p:Pkt}(h:p.check=0):p.f.op.length≤8001∧0≤p.ack∧p.ack≤1048576∧0≤p.number∧p.number≤1048576:=by
 unfold Pkt.check checkPacket at h;by_cases h1:num p.epoch=false∨num p.number=false∨num p.ack=false
 ·rw[if_pos h1]at h;exact absurd h (by decide)
 ·rw[if_neg h1]at h;have n2:num p.number=true:=by cases hh:num p.number with|true=>rfl|false=>exact absurd (.inr (.inl hh)) h1
  have n3:num p.ack=true:=by cases hh:num p.ack with|true=>rfl|false=>exact absurd (.inr (.inr hh)) h1
  unfold num at n2 n3;simp at n2 n3;refine⟨?_,n3.1,n3.2,n2.1,n2.2⟩;by_cases hb:p.bare=true
  ·rw[if_pos hb]at h;by_cases h2:p.number≠0∨emptyF p.f.kind p.f.heard p.f.epoch p.f.op.length p.f.text=false
   ·rw[if_pos h2]at h;exact absurd h (by decide)
   ·have e2:emptyF p.f.kind p.f.heard p.f.epoch p.f.op.length p.f.text=true:=by
     cases hh:emptyF p.f.kind p.f.heard p.f.epoch p.f.op.length p.f.text with|true=>rfl|false=>exact absurd (.inr hh) h2
    unfold emptyF at e2;simp at e2;rw[e2.1.2];simp
  ·rw[if_neg hb]at h;by_cases h2:p.number<1∨p.epoch<1
   ·rw[if_pos h2]at h;exact absurd h (by decide)
   ·rw[if_neg h2]at h;exact frame_op1 h
theorem Lk.acked_sub (l:Lk)(ack:Int):(∀g∈l.acked ack,g∈l.sent)∧(l.acked ack).length≤l.sent.length:=by
 unfold Lk.acked;split
 ·exact⟨fun g hg=>List.mem_of_mem_drop hg,by simp⟩
 ·exact⟨fun g hg=>hg,Nat.le_refl _⟩
theorem fillL_len:∀(q s:List Fr)(n:Int),(fillL s q n).1.length≤s.length+q.length
 |[],s,n=>by simp[fillL_nil]
 |f::q,s,n=>by
  by_cases h:s.length<8∧n<1048576
  ·rw[fillL_go h.1 h.2];have:=fillL_len q (s++[f]) (n+1);simp at this⊢;omega
  ·rw[fillL_no h];simp
theorem Fl.reslice {base b:Nat}{ep nx he:Int}{s s' q:List Fr}{sv sv' qv:Value}{w:World}(h:Fl base b ⟨ep,nx,s,q,he⟩ sv qv w)(ho:OwnO (fun z=>z<base∨z=b) base sv' s' w)(hb:sv'.ownBlock=sv.ownBlock):Fl base b ⟨ep,nx,s',q,he⟩ sv' qv (w.setCell ⟨b,2,none⟩ sv'):=by
 have ht:Touch (fun z=>z=b) w (w.setCell ⟨b,2,none⟩ sv'):=Touch.setCell (S:=fun z=>z=b) (Touch.refl _ _) (.inl rfl) _;obtain⟨a,c,hq,hr⟩:=h.queue;have hne:=h.ne;refine⟨h.box.set 2 sv',ho.touch ht (fun k hk hs=>⟨.inr hs,fun e=>hne (by rw[←hb,e,hs])⟩),⟨a,c,hq,hr.mono fun z hz=>⟨⟨hz.1,by simp;exact hz.2.1,hz.2.2.1,by rw[hb];exact hz.2.2.2⟩,ht.block z hz.2.1 hz.2.2.1⟩⟩,by rw[hb];exact hne,h.lo⟩
theorem Fl.hearing {base b:Nat}{ep nx he:Int}{s q:List Fr}{sv qv:Value}{w:World}(h:Fl base b ⟨ep,nx,s,q,he⟩ sv qv w)(he':Int):Fl base b ⟨ep,nx,s,q,he'⟩ sv qv (w.setCell ⟨b,4,none⟩ (.int .i64 he')):=by
 have ht:Touch (fun z=>z=b) w (w.setCell ⟨b,4,none⟩ (.int .i64 he')):=Touch.setCell (S:=fun z=>z=b) (Touch.refl _ _) (.inl rfl) _;obtain⟨a,c,hq,hr⟩:=h.queue;have hne:=h.ne;exact⟨h.box.set 4 _,h.sent.touch ht (fun k hk hs=>⟨.inr hs,fun e=>hne (by rw[e,hs])⟩),⟨a,c,hq,hr.mono fun z hz=>⟨⟨hz.1,by simp;exact hz.2.1,hz.2.2⟩,ht.block z hz.2.1 hz.2.2.1⟩⟩,hne,h.lo⟩
theorem Fl.touch {base b:Nat}{l:Lk}{sv qv:Value}{S:Nat→Prop}{w w':World}(h:Fl base b l sv qv w)(ht:Touch S w w')(hS:∀k,S k→k<base):Fl base b l sv qv w':=by
 have hlo:=h.lo;obtain⟨a,c,hq,hr⟩:=h.queue;refine⟨h.box.touch ht (fun hs=>by have:=hS _ hs;omega),h.sent.touch ht (fun k hk hs=>⟨.inl (hS k hs),fun e=>by have:=(h.sent.rowlt k e).1;have:=hS k hs;omega⟩),⟨a,c,hq,hr.mono fun z hz=>⟨⟨hz.1,Nat.lt_of_lt_of_le hz.2.1 ht.size,hz.2.2⟩,ht.block z hz.2.1 (fun hs=>by have:=hS z hs;omega)⟩⟩,h.ne,h.lo⟩
set_option maxRecDepth 100000 in
set_option maxHeartbeats 16000000 in
theorem lkHear_ok (l:Lk)(p:Pkt)(a b fa:Option Addr)(n c m d fn fc:Nat)(w:World)(hg:Good w)(hr:RdS (· <w.heap.size) w l.sent a n c)(hq:RdS (· <w.heap.size) w l.queue b m d)(hfr:RdS (· <w.heap.size) w p.f.op fa fn fc)(hl:l.fits)(hp:p.fits)(hm:m≤1000000)(hE:l.hearE p=0):
 Calls Tryd.prog 66 #[.agg #[.int .i64 l.epoch,.int .i64 l.next,.slice a n c,.slice b m d,.int .i64 l.heard],.agg #[.int .i64 p.epoch,.int .i64 p.number,.bool p.bare,.int .i64 p.ack,.int .i64 p.f.kind,.int .i64 p.f.heard,.int .i64 p.f.epoch,.slice fa fn fc,.string p.f.text]] w (LkHearP l p w):=by
 obtain⟨h1,h2,h3,h4⟩:=hearE_zero hE;obtain⟨l1,l2,l3,l4,l5,l6,l7,l8,l9,l10,l11,l12⟩:=lk_zero h1;have HC:=Lib.hid (fun W (hW:Below w.heap.size w W)=>lkCheck_any l a b n c m d W (hg.go hW) (hr.go hW) (hq.go hW) hl);have HF:=Lib.hid (fun W (hW:Below w.heap.size w W)=>checkPacket_any p.epoch p.number p.bare p.ack p.f.kind p.f.heard p.f.epoch p.f.op p.f.text fa fn fc W (hg.go hW) (hfr.go hW) hp.1 hp.2.1 hp.2.2.1 hp.2.2.2.1 hp.2.2.2.2.1 hp.2.2.2.2.2.1 hp.2.2.2.2.2.2);rw[show checkPacket p.epoch p.number p.bare p.ack p.f.kind p.f.heard p.f.epoch p.f.op p.f.text=p.check from rfl,h2]at HF;rw[h1]at HC;have hsl:=frame_ops l10;have hql:=frame_ops l11;have HO:=Lib.hid (fun W (hW:Below w.heap.size w W)=>lkOwn_any l a b n c m d W (hr.go hW) (hq.go hW) (fun g hg=>by have:=hsl g hg;omega) (fun g hg=>by have:=hql g hg;omega) (by have:=hr.1;omega) (by omega));have hfo:p.f.op.length≤8001:=(pkt_op h2).1;have Hcl:=Lib.hid (fun W (hW:Below w.heap.size w W)=>copyFrame_any p.f fa fn fc W (hfr.go hW) (by have:=hfr.1;omega));have hpb:=pkt_op h2;have hak:=l.acked_sub p.ack;have hqm:l.queue.length=m:=hq.1.symm;have HFill:=Lib.hid (fun base bb sv qv W (h:Fl base bb (l.behind p) sv qv W)=>fill_own base bb (l.behind p) sv qv W h l3 l4 (by have:=hak.2;show(l.acked p.ack).length≤1048576;omega) (by show l.queue.length≤1048600;omega) (fun g hg=>by
  rcases List.mem_append.1 hg with hg|hg
  ·have:=hsl g (hak.1 g hg);omega
  ·have:=hql g hg;omega) ⟨hl.1,by unfold I64 Lk.behind;simp only;split<;>omega⟩)
 unfold FillQ at HFill;have HBr:=Lib.hid (fun sv qv W=>bare_any (l.behind p).filled sv qv W);have Hend:Hid (∀sa sc qa qc fa fc pa pc W,RdS (fun z=>w.heap.size≤z∧z<W.heap.size) W (l.behind p).filled.sent sa (l.behind p).filled.sent.length sc→RdS (fun z=>w.heap.size≤z∧z<W.heap.size) W (l.behind p).filled.queue qa (l.behind p).filled.queue.length qc→RdS (fun z=>w.heap.size≤z∧z<W.heap.size) W (l.hearF p).op fa (l.hearF p).op.length fc→RdS (fun z=>w.heap.size≤z∧z<W.heap.size) W (l.hearP p) pa (l.hearP p).length pc→Below w.heap.size w W→
  LkHearP l p w (.returned (.tuple #[.agg #[.int .i64 (l.behind p).filled.epoch,.int .i64 (l.behind p).filled.next,.slice sa (l.behind p).filled.sent.length sc,.slice qa (l.behind p).filled.queue.length qc,.int .i64 (l.behind p).filled.heard],.agg #[.int .i64 (l.hearF p).kind,.int .i64 (l.hearF p).heard,.int .i64 (l.hearF p).epoch,.slice fa (l.hearF p).op.length fc,.string (l.hearF p).text],.bool (l.tells p),.slice pa (l.hearP p).length pc,.int .i64 0])) W):=by
  intro sa sc qa qc fa fc pa pc W r1 r2 r3 r4 r5;have e1:l.hearL p=(l.behind p).filled:=if_pos hE;have e2:l.told p=l.tells p:=if_pos hE;unfold LkHearP;rw[e1,e2,hE];exact⟨sa,sc,qa,qc,fa,fc,pa,pc,rfl,r1,r2,r3,r4,r5⟩
 have hfE:l.hearF p=if l.tells p=true then p.f else bareFr:=by unfold Lk.hearF Lk.told;rw[if_pos hE]
 have hpE:l.hearP p=(l.behind p).filled.pks (l.acked p.ack).length++(if p.bare then []else [(l.behind p).filled.barePk]):=if_pos hE;rw[hfE,hpE]at Hend;generalize LkHearP l p w=HP at*;have Hpf:=Lib.hid hp;have Hlf:=Lib.hid hl;obtain⟨j0,hi',hz0',hz1',hz2'⟩:=info_parts infoPk;have Ji:=Lib.hid hi';have Jz0:=Lib.hid hz0';have Jz1:=Lib.hid hz1';have Jz2:=Lib.hid hz2';clear hi' hz0' hz1' hz2';obtain⟨hop8,k1,k2,k3,k4⟩:=hpb;have hep:(l.epoch==0)=false:=by simpa using h3
 have hpe:(p.epoch !=l.epoch)=false:=by simpa using h4
 have hnl:(l.sent.length:Int)=n:=by have:=hr.1;omega
 have hn8:n≤8:=by have:=hr.1;omega
 have Hn:=Lib.hid hr.1;have Hm:=Lib.hid hq.1;have Hm6:=Lib.hid hm;have HTell:Hid (l.tells p=(!p.bare&&(p.number==l.heard+1)&&decide (l.heard<1048576))):=rfl;have HAck:Hid (l.acked p.ack=if l.next-l.sent.length≤p.ack∧p.ack<l.next then l.sent.drop (p.ack-(l.next-l.sent.length)+1).toNat else l.sent):=rfl;have HBeh:Hid (l.behind p=⟨l.epoch,l.next,l.acked p.ack,l.queue,if l.tells p then l.heard+1 else l.heard⟩):=rfl;unfold lkV at HC HO;clear hr hq hfr hl hp hE h1 h2 h3 h4 l7 l9 l10 l11 l12 hsl hql hqm hg hm hak hfE hpE hfo;generalize l.acked p.ack=AK at*;generalize l.tells p=TE at*;generalize l.behind p=LB at*;obtain⟨ep,nx,ls,lq,he⟩:=l;obtain⟨pe,pn,pb,pk,fk,fh,fe,fo,ft⟩:=p;simp only at*;rw[hnl]at l8 HAck;obtain⟨cl,hcl⟩:∃cl:Obj,cl=.cells #[.int .i64 ep,.int .i64 nx,.slice a n c,.slice b m d,.int .i64 he] 70 (0,0):=⟨_,rfl⟩;obtain⟨cp,hcp⟩:∃cp:Obj,cp=.cells #[.int .i64 pe,.int .i64 pn,.bool pb,.int .i64 pk,.int .i64 fk,.int .i64 fh,.int .i64 fe,.slice fa fn fc,.string ft] 46 (0,0):=⟨_,rfl⟩;obtain⟨c4,hc4⟩:∃c4:Obj,c4=.cells lk0 70 (0,0):=⟨_,rfl⟩;obtain⟨c5,hc5⟩:∃c5:Obj,c5=.cells fr0 44 (0,0):=⟨_,rfl⟩;have U0:Hid (Below w.heap.size w ((((w.alloc cl).alloc cp).alloc c4).alloc c5)):=by unfold Hid;(repeat (first|exact Below.refl _ _|assumption|(refine Below.drew ?_)|(refine below_drewN ?_ _)|(refine Below.alloc ?_ (by first|(simp;done)|(simp;omega)|omega) _)|(refine Below.setCell ?_ (by first|(simp;done)|(simp;omega)|omega) _)|(refine Below.trans ?_ (Below.mono (by assumption) (by first|(simp;done)|(simp;omega)|omega)))))
 have X0:Hid (Blk w.heap.size cl ((((w.alloc cl).alloc cp).alloc c4).alloc c5)):=(((Blk.new w _).alloc _).alloc _).alloc _;have Y0:Hid (Blk (w.heap.size+1) cp ((((w.alloc cl).alloc cp).alloc c4).alloc c5)):=((Blk.at (w.alloc cl) _ _ (by simp)).alloc _).alloc _;have Z0:Hid (Blk (w.heap.size+1+1) c4 ((((w.alloc cl).alloc cp).alloc c4).alloc c5)):=(Blk.at ((w.alloc cl).alloc cp) _ _ (by simp)).alloc _;have V0:Hid (Blk (w.heap.size+1+1+1) c5 ((((w.alloc cl).alloc cp).alloc c4).alloc c5)):=Blk.at (((w.alloc cl).alloc cp).alloc c4) _ _ (by simp);subst hcl hcp hc4 hc5;clear hnl;go_enter Tryd.func66,Tryd.ntmps66;go_wp2_with fail;refine(HC.out _ U0.out).mono ?_;rintro e w1 ⟨rfl,u1⟩;have x1:=Lib.hid (X0.out.go u1);have y1:=Lib.hid (Y0.out.go u1);have z1:=Lib.hid (Z0.out.go u1);have v1:=Lib.hid (V0.out.go u1);have U1:=Lib.hid (up U0.out u1);obtain⟨r0,r1,r2,r3,r4,r5,r6,r7,r8⟩:=blk9_cells y1.out;clear u1 X0 Y0 Z0 V0 U0 HC;go_wp2_with fail;refine(HF.out _ U1.out).mono ?_;rintro e w2 ⟨rfl,u2⟩;have x2:=Lib.hid (x1.out.go u2);have y2:=Lib.hid (y1.out.go u2);have z2:=Lib.hid (z1.out.go u2);have v2:=Lib.hid (v1.out.go u2);have U2:=Lib.hid (up U1.out u2);clear r0 r1 r2 r3 r4 r5 r6 r7 r8 u2 x1 y1 z1 v1 U1 HF;obtain⟨r0,r1,r2,r3,r4,r5,r6,r7,r8⟩:=blk9_cells y2.out;obtain⟨q0,q1,q2,q3,q4⟩:=blk_cells5 x2.out;have hz2z:=v2.out.lt;go_wp2_with fail;refine(HO.out _ U2.out).mono ?_;rintro e w3 ⟨sv,qv,rfl,os,oq,hne,u3⟩;obtain⟨sa,sc,rfl⟩:=os.form;obtain⟨qa,qc,rfl⟩:=oq.form;rw[←Hn.out]at os oq hne⊢;rw[←Hm.out]at os oq hne⊢;have hz3z:=u3.size;have U3:=Lib.hid (up U2.out u3);have y3:=Lib.hid (y2.out.go u3);have z3:=Lib.hid (z2.out.go u3);have v3:=Lib.hid (v2.out.go u3);have hosr:=os.rowlt;have hoqr:=oq.rowlt;have u4:Below w3.heap.size w3 (w3.alloc (.cells #[.int .i64 ep,.int .i64 nx,.slice sa n sc,.slice qa m qc,.int .i64 he] 70)):=(Below.refl _ _).alloc (Nat.le_refl _) _;have F4:Hid (Fl w2.heap.size w3.heap.size ⟨ep,nx,ls,lq,he⟩ (.slice sa n sc) (.slice qa m qc) (w3.alloc (.cells #[.int .i64 ep,.int .i64 nx,.slice sa n sc,.slice qa m qc,.int .i64 he] 70))):=by
  refine⟨Blk.new _ _,?_,?_,fun e=>by have:=hosr _ e;omega,hz3z⟩
  ·exact(OwnO.of ((os.more (X':=fun z=>z<w2.heap.size∨z=w3.heap.size) (fun k hk hx=>by rcases hx with hx|hx;exact .inl hx;omega)).go u4))
  ·obtain⟨a',c',hv',hr'⟩:=(OwnO.of oq).rd (A:=fun z=>w2.heap.size≤z∧z<w3.heap.size∧(Value.slice sa n sc).ownBlock≠some z) (fun z hz hx=>⟨by omega,hz,fun e=>hx (.inr e)⟩) (fun k hk=>⟨(hoqr k hk).1,(hoqr k hk).2,fun e=>hne k e hk⟩);exact⟨a',c',hv',hr'.mono fun z hz=>⟨⟨hz.1,Nat.lt_of_lt_of_le hz.2.1 u4.size,by omega,hz.2.2⟩,u4.block z hz.2.1⟩⟩
 have W4:=Lib.hid (And.intro (up U3.out u4) (And.intro (y3.out.go u4) (And.intro (z3.out.go u4) (v3.out.go u4))));clear u3 u4 os oq hne x2 y2 z2 v2 y3 z3 v3 U3 hosr hoqr HO r0 r1 r2 r3 r4 r5 r6 r7 r8 q0 q1 q2 q3 q4;obtain⟨S1,HS1⟩:∃S1:World→Prop,Hid (S1=fun W=>∃sv qv,Fl w2.heap.size w3.heap.size ⟨ep,nx,AK,lq,he⟩ sv qv W∧Blk (w.heap.size+1) (.cells #[.int .i64 pe,.int .i64 pn,.bool pb,.int .i64 pk,.int .i64 fk,.int .i64 fh,.int .i64 fe,.slice fa fn fc,.string ft] 46 (0,0)) W∧Blk (w.heap.size+1+1) (.cells lk0 70 (0,0)) W∧Blk (w.heap.size+1+1+1) (.cells fr0 44 (0,0)) W∧Below w.heap.size w W):=⟨_,rfl⟩;obtain⟨cc0,cc1,cc2,cc3,cc4⟩:=blk_cells5 F4.out.box;simp only at cc0 cc1 cc2 cc3 cc4;have ccf:=F4.out.box.frozen;obtain⟨r0,r1,r2,r3,r4,r5,r6,r7,r8⟩:=blk9_cells W4.out.2.1;go_upto_region 11 with fail;obtain⟨AB,hAB⟩:∃AB:Bool,AB=(decide (nx-(n:Int)≤pk)&&decide (pk<nx)):=⟨_,rfl⟩;have HAB:=Lib.hid hAB;clear hAB;generalize hW:(w3.alloc (.cells #[.int .i64 ep,.int .i64 nx,.slice sa n sc,.slice qa m qc,.int .i64 he] 70))=w4 at*;clear hW;go_cut [57]from 47 to 56 (fun s57 W=>s57=.bool AB∧w4=W)
 case first=>
  by_cases g1:nx-(n:Int)≤pk
  ·by_cases g2:pk<nx
   ·have hAB:AB=true:=by rw[HAB.out];simp[g1,g2]
    subst hAB;clear HAB;go_wp2_with fail;go_meet
    case rel=>exact⟨rfl,rfl⟩
   ·have hAB:AB=false:=by rw[HAB.out];simp[g2]
    subst hAB;clear HAB;go_wp2_with fail;go_meet
    case rel=>exact⟨rfl,rfl⟩
  ·have hAB:AB=false:=by rw[HAB.out];simp[g1]
   subst hAB;clear HAB;go_wp2_with fail;go_meet
   case rel=>exact⟨rfl,rfl⟩
 case rest=>
  obtain⟨rfl,rfl⟩:=hcut;go_upto_if 57 with fail;go_cut []from 58 to 66 (fun W=>S1 W)
  case first=>
   cases AB with
   |false=>
    have hK:AK=ls:=by
     rw[HAck.out,if_neg];rintro⟨h1,h2⟩;have:=HAB.out;simp[h1,h2]at this
    go_wp2_with fail;go_meet
    case rel=>
     rw[HS1.out,hK];exact⟨_,_,F4.out,W4.out.2.1,W4.out.2.2.1,W4.out.2.2.2,W4.out.1⟩
   |true=>
    have hab:=HAB.out;simp at hab;obtain⟨ha1,ha2⟩:=hab;obtain⟨kk,hkk⟩:∃kk:Nat,pk-(nx-(n:Int))+1=(kk:Int):=⟨(pk-(nx-(n:Int))+1).toNat,by omega⟩;have hK:AK=ls.drop kk:=by
     rw[HAck.out,if_pos ⟨ha1,ha2⟩];congr 1;omega
    have hkn:kk≤n:=by omega
    have hk1:1≤kk:=by omega
    have hF4:=F4.out;have hrow:=hF4.sent.row;rcases hrow with⟨a',hv,-⟩|⟨g,off,cap,hv,-,-,hcap,-⟩
    ·injection hv with e1 e2 e3;omega
    ·simp only at hcap;injection hv with e1 e2 e3;subst e1 e3;rw[←e2]at hcap;have hkI:(kk:Int)≤(n:Int):=by omega
     have hcI:(n:Int)≤(sc:Int):=by omega
     by_cases hkc:kk<sc
     ·have hFr:=Lib.hid (hF4.reslice (hF4.sent.drop_in hkn hkc) rfl);have hT:=touch1 (w:=w4) (g:=w3.heap.size) (i:=2) (.slice (some ⟨g,off+kk*5,none⟩) (n-kk) (sc-kk));have hz4:=hF4.box.lt;have G:Hid (S1 (w4.setCell ⟨w3.heap.size,2,none⟩ (.slice (some ⟨g,off+kk*5,none⟩) (n-kk) (sc-kk)))):=by
       unfold Hid;rw[HS1.out,hK];exact⟨_,_,hFr.out,W4.out.2.1.touch hT (by omega),W4.out.2.2.1.touch hT (by omega),W4.out.2.2.2.touch hT (by omega),W4.out.1.trans (hT.toBelow W4.out.1.size (fun k hk=>by omega))⟩
      clear hF4 hFr hT hK ha1 ha2 HAB HAck e2;go_wp2_with fail;go_meet
      case rel=>exact G.out
     ·have hkn2:kk=n:=by omega
      have hsc2:sc=n:=by omega
      have hFr:=Lib.hid (hF4.reslice (hF4.sent.drop_all hkn2) rfl);have hT:=touch1 (w:=w4) (g:=w3.heap.size) (i:=2) (.slice (some ⟨g,off,none⟩) 0 0);have hz4:=hF4.box.lt;have G:Hid (S1 (w4.setCell ⟨w3.heap.size,2,none⟩ (.slice (some ⟨g,off,none⟩) 0 0))):=by
       unfold Hid;rw[HS1.out,hK];exact⟨_,_,hFr.out,W4.out.2.1.touch hT (by omega),W4.out.2.2.1.touch hT (by omega),W4.out.2.2.2.touch hT (by omega),W4.out.1.trans (hT.toBelow W4.out.1.size (fun k hk=>by omega))⟩
      rw[hsc2]at cc2;rw[hkn2]at hkk;clear hF4 hFr hT hK ha1 ha2 HAB HAck e2 hkn2 hsc2 hkc hkI hcI hkn hk1 hcap;go_wp2_with fail;go_meet
      case rel=>exact G.out
  case rest=>
   rw[HS1.out]at hcut;obtain⟨sv5,qv5,f5,p5,z5,v5,b5⟩:=hcut;obtain⟨w5,rfl⟩:∃x:World,x=wc:=⟨_,rfl⟩;clear r0 r1 r2 r3 r4 r5 r6 r7 r8 cc0 cc1 cc2 cc3 cc4 ccf HS1 F4 W4 HAB HAck;obtain⟨r0,r1,r2,r3,r4,r5,r6,r7,r8⟩:=blk9_cells p5;obtain⟨cc0,cc1,cc2,cc3,cc4⟩:=blk_cells5 f5.box;simp only at cc0 cc1 cc2 cc3 cc4;have ccf:=f5.box.frozen;obtain⟨o0,o1,o2,o3,o4⟩:=blk_cells5 v5;have of:=v5.frozen;have hzB:=f5.box.lt;have hzv:=v5.lt;have F5:=Lib.hid f5;have Q5:=Lib.hid (And.intro p5 (And.intro z5 (And.intro v5 b5)));clear f5 p5 z5 v5 b5;obtain⟨FX,hFX⟩:∃FX:Fr,FX=if TE=true then(⟨fk,fh,fe,fo,ft⟩:Fr)else bareFr:=⟨_,rfl⟩;rw[←hFX]at Hend;have HFX:=Lib.hid hFX;clear hFX;obtain⟨S2,HS2⟩:∃S2:World→Prop,Hid (S2=fun W=>∃sv qv fa' fc',Fl w2.heap.size w3.heap.size LB sv qv W∧Blk (w.heap.size+1) (.cells #[.int .i64 pe,.int .i64 pn,.bool pb,.int .i64 pk,.int .i64 fk,.int .i64 fh,.int .i64 fe,.slice fa fn fc,.string ft] 46 (0,0)) W∧Blk (w.heap.size+1+1) (.cells lk0 70 (0,0)) W∧Blk (w.heap.size+1+1+1) (.cells #[.int .i64 FX.kind,.int .i64 FX.heard,.int .i64 FX.epoch,.slice fa' FX.op.length fc',.string FX.text] 44 (0,0)) W∧RdS (fun z=>w3.heap.size<z∧z<W.heap.size∧sv.ownBlock≠some z) W FX.op fa' FX.op.length fc'∧Below w.heap.size w W):=⟨_,rfl⟩;go_upto_region 13 with fail;go_cut [82]from 67 to 81 (fun s82 W=>s82=.bool TE∧w5=W)
   case first=>
    cases pb with
    |true=>
     have hT:TE=false:=by rw[HTell.out];rfl
     subst hT;clear HTell;go_wp2_with fail;go_meet
     case rel=>exact⟨rfl,rfl⟩
    |false=>
     by_cases g1:pn=he+1
     ·have b1:(pn==he+1)=true:=by simpa using g1
      by_cases g2:he<1048576
      ·have b2:decide (he<1048576)=true:=decide_eq_true g2;have hT:TE=true:=by rw[HTell.out,b1,b2];rfl
       subst hT;clear HTell g1;go_wp2_with fail;go_meet
       case rel=>exact⟨rfl,rfl⟩
      ·have b2:decide (he<1048576)=false:=decide_eq_false g2;have hT:TE=false:=by rw[HTell.out,b1,b2];rfl
       subst hT;clear HTell g1;go_wp2_with fail;go_meet
       case rel=>exact⟨rfl,rfl⟩
     ·have b1:(pn==he+1)=false:=by simpa using g1
      have hT:TE=false:=by rw[HTell.out,b1];rfl
      subst hT;clear HTell g1;go_wp2_with fail;go_meet
      case rel=>exact⟨rfl,rfl⟩
   case rest=>
    obtain⟨rfl,rfl⟩:=hcut;go_upto_if 82 with fail;go_cut [6]from 83 to 89 (fun s6 W=>s6=.bool TE∧S2 W)
    case first=>
     cases TE with
     |false=>
      have hB:LB=⟨ep,nx,AK,lq,he⟩:=by rw[HBeh.out];rfl
      have hX:FX=bareFr:=by rw[HFX.out];rfl
      have G:Hid (S2 w5):=by
       unfold Hid;rw[HS2.out,hB,hX];exact⟨_,_,none,0,F5.out,Q5.out.1,Q5.out.2.1,Q5.out.2.2.1,RdS.nil _ _,Q5.out.2.2.2⟩
      clear hB hX HBeh HFX;go_wp2_with fail;go_meet
      case rel=>exact⟨rfl,G.out⟩
     |true=>
      have hB:LB=⟨ep,nx,AK,lq,he+1⟩:=by rw[HBeh.out];rfl
      have hX:FX=⟨fk,fh,fe,fo,ft⟩:=by rw[HFX.out];rfl
      have hh2:he<1048576:=by
       have:=HTell.out;simp at this;exact this.2
      have F6:=Lib.hid (F5.out.hearing (he+1));have hT6:=touch1 (w:=w5) (g:=w3.heap.size) (i:=4) (.int .i64 (he+1));have P6:=Lib.hid (Q5.out.1.touch hT6 (by omega));have Z6:=Lib.hid (Q5.out.2.1.touch hT6 (by omega));have V6:=Lib.hid (Q5.out.2.2.1.touch hT6 (by omega));have B6:=Lib.hid (Q5.out.2.2.2.setCell (p:=⟨w3.heap.size,4,none⟩) (by show w.heap.size≤w3.heap.size;omega) (.int .i64 (he+1)));clear HTell hT6 F5 Q5;go_wp2_with fail;refine(Hcl.out _ B6.out).mono ?_;rintro e w7 ⟨fa7,fc7,rfl,rf7,u7⟩;simp only at rf7⊢;have f7:=F6.out.go u7;have p7:=P6.out.go u7;have z7:=Z6.out.go u7;have v7:=V6.out.go u7;have b7:=up B6.out u7;have hz7:=u7.size;simp at hz7;have hzv7:=v7.lt;obtain⟨o0,o1,o2,o3,o4⟩:=blk_cells5 v7;have of:=v7.frozen;have T7:=touch5 w7 (w.heap.size+1+1+1) (.int .i64 fk) (.int .i64 fh) (.int .i64 fe) (.slice fa7 fo.length fc7) (.string ft);have hrow7:=f7.sent.rowlt;have hrow6:=F6.out.sent.rowlt;have G:Hid (S2 (set5w w7 (w.heap.size+1+1+1) (.int .i64 fk) (.int .i64 fh) (.int .i64 fe) (.slice fa7 fo.length fc7) (.string ft))):=by
       unfold Hid;rw[HS2.out,hB,hX];refine⟨_,_,fa7,fc7,f7.touch T7 (fun k hk=>by omega),p7.touch T7 (by omega),z7.touch T7 (by omega),blk_set5 v7 _ _ _ _ _,?_,b7.trans (T7.toBelow (by omega) (fun k hk=>by omega))⟩;refine rf7.mono fun z hz=>⟨⟨by have:=hz.1;simp at this;omega,Nat.lt_of_lt_of_le hz.2 T7.size,fun e=>by have h8:=(hrow6 z e).2;have:=hz.1;simp at this h8;omega⟩,T7.block z hz.2 (by have:=hz.1;simp at this;omega)⟩
      clear hB hX HBeh HFX F6 P6 Z6 V6 B6 rf7 u7 f7 p7 z7 v7 b7 T7 hrow7 hrow6 Hcl;generalize fo.length=lo at*;go_wp2_with fail;go_meet
      case rel=>exact⟨rfl,G.out⟩
    case rest=>
     obtain⟨rfl,hcut⟩:=hcut;rw[HS2.out]at hcut;obtain⟨sv8,qv8,fa8,fc8,f8,p8,z8,v8,rf8,b8⟩:=hcut;obtain⟨w8,rfl⟩:∃x:World,x=wc:=⟨_,rfl⟩;clear r0 r1 r2 r3 r4 r5 r6 r7 r8 cc0 cc1 cc2 cc3 cc4 ccf o0 o1 o2 o3 o4 of F5 Q5 HS2 HTell;have hls:LB.sent.length=AK.length:=by rw[HBeh.out]
     rw[hls]at HFill;obtain⟨LF,hLF⟩:∃LF:Lk,LB.filled=LF:=⟨_,rfl⟩;rw[hLF]at HFill HBr Hend;have hfitF:I64 LF.epoch∧I64 LF.heard:=by
      rw[←hLF,HBeh.out];refine⟨Hlf.out.1,?_⟩
      show I64 (if TE=true then he+1 else he)
      unfold I64;split<;>omega
     have HfitF:=Lib.hid hfitF;have hpl:(LF.pks AK.length).length≤1000000000:=by
      rw[pks_len,←hLF,HBeh.out];have hfm:=fillL_len lq AK nx
      show(fillL AK lq nx).1.length-AK.length≤1000000000
      have:=Hm.out;have:=Hm6.out;omega
     have Hpl:=Lib.hid hpl;clear hls hLF hfitF hpl HBeh HFX;generalize LF.pks AK.length=PS at*;obtain⟨S3,HS3⟩:∃S3:Value→World→Prop,Hid (S3=fun v W=>∃sa9 sc9 qa9 qc9 fa9 fc9 pa pc,v=.slice pa (PS++(if pb then []else [LF.barePk])).length pc∧RdS (fun z=>w3.heap.size<z∧z<W.heap.size) W (PS++(if pb then []else [LF.barePk])) pa (PS++(if pb then []else [LF.barePk])).length pc∧
      Blk w3.heap.size (.cells #[.int .i64 LF.epoch,.int .i64 LF.next,.slice sa9 LF.sent.length sc9,.slice qa9 LF.queue.length qc9,.int .i64 LF.heard] 70 (0,0)) W∧RdS (fun z=>w2.heap.size≤z∧z<W.heap.size) W LF.sent sa9 LF.sent.length sc9∧RdS (fun z=>w2.heap.size≤z∧z<W.heap.size) W LF.queue qa9 LF.queue.length qc9∧
      Blk (w.heap.size+1+1) (.cells lk0 70 (0,0)) W∧Blk (w.heap.size+1+1+1) (.cells #[.int .i64 FX.kind,.int .i64 FX.heard,.int .i64 FX.epoch,.slice fa9 FX.op.length fc9,.string FX.text] 44 (0,0)) W∧RdS (fun z=>w3.heap.size<z∧z<W.heap.size) W FX.op fa9 FX.op.length fc9∧Below w.heap.size w W):=⟨_,rfl⟩
     have hz8:=f8.box.lt;have hzp8:=p8.lt;have F8:=Lib.hid f8;have Q8:=Lib.hid (And.intro p8 (And.intro z8 (And.intro v8 (And.intro rf8 b8))));have hrow8:=f8.sent.rowlt;clear f8 p8 z8 v8 rf8 b8;go_wp2_with fail;refine(HFill.out _ _ _ _ _ F8.out).mono ?_;rintro e w9 ⟨wf,pa,pc,sv9,qv9,rfl,own9,f9,u9,hz9,t9,hrow9⟩;have f9':=f9.go u9;obtain⟨sa9,sc9,qa9,qc9,rfl,rfl,rs9,rq9⟩:=f9'.res;have hne8:∀k,(k=w3.heap.size∨sv8.ownBlock=some k)→w2.heap.size≤k:=fun k hk=>by
      rcases hk with hk|hk
      ·omega
      ·exact(hrow8 k hk).1
     have hnot:∀k,k<w2.heap.size→¬(k=w3.heap.size∨sv8.ownBlock=some k):=fun k hk hs=>by have:=hne8 k hs;omega
     have p9:=Q8.out.1.touch t9 (hnot _ (by omega));have z9:=Q8.out.2.1.touch t9 (hnot _ (by omega));have v9:=Q8.out.2.2.1.touch t9 (hnot _ (by omega));have rf9:RdS (fun z=>w3.heap.size<z∧z<w8.heap.size) w9 FX.op fa8 FX.op.length fc8:=Q8.out.2.2.2.1.mono fun z hz=>⟨⟨hz.1,hz.2.1⟩,t9.block z hz.2.1 (by rintro(h|h);omega;exact hz.2.2 h)⟩;have b9:Below w.heap.size w w9:=Q8.out.2.2.2.2.trans (t9.toBelow (by omega) (fun k hk=>by have:=hne8 k hk;omega));have r2:w9.cell? ⟨w.heap.size+1,2,none⟩=some (.bool pb):=p9.cell 2;obtain⟨cc0,cc1,cc2,cc3,cc4⟩:=blk_cells5 f9'.box;have hbz9:=f9'.box.lt;have B9:=Lib.hid f9'.box;have Rs9:Hid (RdS (fun z=>w2.heap.size≤z∧z<w9.heap.size) w9 LF.sent sa9 LF.sent.length sc9):=rs9.mono fun z hz=>⟨⟨hz.1,hz.2.1⟩,rfl⟩;have Rq9:Hid (RdS (fun z=>w2.heap.size≤z∧z<w9.heap.size) w9 LF.queue qa9 LF.queue.length qc9):=rq9.mono fun z hz=>⟨⟨hz.1,hz.2.1⟩,rfl⟩;have Q9:=Lib.hid (And.intro z9 (And.intro v9 (And.intro rf9 b9)));have Own9:=Lib.hid own9;have U9:=Lib.hid u9;have Hz9:=Lib.hid hz9;have Rs9f:Hid (Fl w2.heap.size w3.heap.size LF (.slice sa9 LF.sent.length sc9) (.slice qa9 LF.queue.length qc9) wf):=f9;clear F8 Q8 hrow8 own9 f9 u9 t9 hrow9 f9' rs9 rq9 p9 z9 v9 rf9 b9 hne8 hnot HFill hzp8;go_upto_if 93 with fail;go_cut [7]from 94 to 98 (fun s7 W=>S3 s7 W)
     case first=>
      cases pb with
      |true=>
       have G:Hid (S3 (.slice pa PS.length pc) w9):=by
        unfold Hid;rw[HS3.out];obtain⟨oa,oc,hoe,hor⟩:=Own9.out.rd (fun k hk hx=>by have:=(Own9.out.rowlt k hk).1;omega);injection hoe with ho1 ho2 ho3;subst ho1 ho3;have hzf:=Rs9f.out.box.lt;simp only[if_true,List.append_nil];exact⟨sa9,sc9,qa9,qc9,fa8,fc8,pa,pc,rfl,hor.mono fun z hz=>⟨⟨by have:=hz.2;omega,hz.1⟩,rfl⟩,B9.out,Rs9.out,Rq9.out,Q9.out.1,Q9.out.2.1,Q9.out.2.2.1.mono fun z hz=>⟨⟨hz.1,Nat.lt_of_lt_of_le hz.2 (Nat.le_trans Hz9.out U9.out.size)⟩,rfl⟩,Q9.out.2.2.2⟩
       clear Own9 B9 Rs9 Rq9 Q9 Rs9f HBr Hend;go_wp2_with fail;go_meet
       case rel=>exact G.out
      |false=>
       simp only[Bool.false_eq_true,if_false]at HS3;have HBr9:=Lib.hid (HBr.out (.slice sa9 LF.sent.length sc9) (.slice qa9 LF.queue.length qc9) w9);go_wp2_with fail;refine HBr9.out.mono ?_;rintro e w10 ⟨a3,cp3,rfl,r3,u10⟩;simp only[Lk.barePk,bareFr,List.length_nil]at r3⊢;have hrow2:=fun k hk=>Own9.out.rowlt k hk;have hz10:=u10.size;have hz9':=U9.out.size;have hzf:=Rs9f.out.box.lt;have hal:Below w10.heap.size w10 (w10.alloc (.cells #[.int .i64 LF.epoch,.int .i64 0,.bool true,.int .i64 LF.heard,.int .i64 0,.int .i64 0,.int .i64 0,.slice a3 0 cp3,.string noText] 46)):=(Below.refl _ _).alloc (Nat.le_refl _) _;have Hy:Hid (Rep.rd (fun z=>z<(w10.alloc (.cells #[.int .i64 LF.epoch,.int .i64 0,.bool true,.int .i64 LF.heard,.int .i64 0,.int .i64 0,.int .i64 0,.slice a3 0 cp3,.string noText] 46)).heap.size∧¬(fun z=>z<wf.heap.size) z∧(Value.slice pa PS.length pc).ownBlock≠some z) (w10.alloc (.cells #[.int .i64 LF.epoch,.int .i64 0,.bool true,.int .i64 LF.heard,.int .i64 0,.int .i64 0,.int .i64 0,.slice a3 0 cp3,.string noText] 46)) LF.barePk [.int .i64 LF.epoch,.int .i64 0,.bool true,.int .i64 LF.heard,.int .i64 0,.int .i64 0,.int .i64 0,.slice a3 0 cp3,.string noText]):=
        ⟨a3,0,cp3,rfl,r3.mono fun z hz=>⟨⟨by simp;omega,by omega,fun e=>by have:=hrow2 z e;omega⟩,hal.block z hz.2⟩,HfitF.out.1,by unfold I64;simp[Lk.barePk],HfitF.out.2,⟨by unfold I64;simp[Lk.barePk,bareFr],by unfold I64;simp[Lk.barePk,bareFr],by unfold I64;simp[Lk.barePk,bareFr],by simp[Lk.barePk,bareFr,noText_size]⟩⟩
       have HO4:=Lib.hid ((Own9.out.go u10).go hal);have HB10:=Lib.hid (up (up U9.out u10) hal);have HB9:=Lib.hid (up u10 hal);have Hz4:Hid ((w10.alloc (.cells #[.int .i64 LF.epoch,.int .i64 0,.bool true,.int .i64 LF.heard,.int .i64 0,.int .i64 0,.int .i64 0,.slice a3 0 cp3,.string noText] 46)).heap.size=w10.heap.size+1):=by unfold Hid;simp
       have HNew:=Lib.hid (Blk.new w10 (.cells #[.int .i64 LF.epoch,.int .i64 0,.bool true,.int .i64 LF.heard,.int .i64 0,.int .i64 0,.int .i64 0,.slice a3 0 cp3,.string noText] 46));have Hrow2:=Lib.hid hrow2;clear u10 r3 hal HBr9 HBr hrow2;go_wp2_with (at_builtin;go_must (refine wpList_append_one rfl _ _ _ (by rfl) wf.heap.size 46 j0 _ 96 Tryd.underlying107 Ji.out Jz0.out Jz1.out Jz2.out rfl (.slice pa PS.length pc) PS (by rfl) HO4.out w10.heap.size 1 _ [.int .i64 LF.epoch,.int .i64 0,.bool true,.int .i64 LF.heard,.int .i64 0,.int .i64 0,.int .i64 0,.slice a3 0 cp3,.string noText] LF.barePk (by rfl) HNew.out Hy.out (by have:=Hpl.out;unfold maxLen;omega) (by have:=Hpl.out;omega) (by have:=Hz4.out;omega) ?_));intro g2 cap w11 hown5 hgrow hat hlt5;have hgr:∀k,k<wf.heap.size→w11.heap[k]?=wf.heap[k]?:=fun k hk=>(hgrow.block k (by have:=Hz4.out;omega) (fun e=>by have:=(Hrow2.out k e.symm).1;omega)).trans (HB10.out.block k hk);have hb11:Below wf.heap.size wf w11:=HB10.out.grown hgrow (by have:=Hz4.out;omega) (fun k hk=>(Hrow2.out k hk).1);have hf11:=Rs9f.out.go hb11;obtain⟨sa0,sc0,qa0,qc0,hs0,hq0,rs0,rq0⟩:=hf11.res;injection hs0 with hs1 hs2 hs3;injection hq0 with hq1 hq2 hq3;subst hs1 hs3 hq1 hq3;have t11:∀k,k<w9.heap.size→(Value.slice pa PS.length pc).ownBlock≠some k→w11.heap[k]?=w9.heap[k]?:=fun k hk hne=>(hgrow.block k (by have:=Hz4.out;omega) (fun e=>hne e.symm)).trans (HB9.out.block k hk);have hz11:=hgrow.size;have G:Hid (S3 (.slice (some ⟨g2,0,none⟩) (PS.length+1) cap) w11):=by
        unfold Hid;rw[HS3.out];obtain⟨oa,oc,hoe,hor⟩:=hown5.rd (fun k hk hx=>by have:=(hown5.rowlt k hk).1;omega);rw[List.length_append,List.length_singleton]at hoe hor;injection hoe with ho1 ho2 ho3;subst ho1 ho3;have hzw:=Hz9.out;have h4:=Hz4.out;have hz8a:w8.heap.size≤w9.heap.size:=Nat.le_trans hzw hz9';have hz8b:w8.heap.size≤w11.heap.size:=by omega
        have hrr:∀k,k<wf.heap.size→(Value.slice pa PS.length pc).ownBlock≠some k:=fun k hk e=>by have:=(Hrow2.out k e).1;omega
        refine⟨sa9,sc9,qa9,qc9,fa8,fc8,_,_,by rw[List.length_append,List.length_singleton],by rw[List.length_append,List.length_singleton];exact hor.mono fun z hz=>⟨⟨by have:=hz.2;omega,hz.1⟩,rfl⟩,hf11.box,rs0.mono fun z hz=>⟨⟨hz.1,hz.2.1⟩,rfl⟩,rq0.mono fun z hz=>⟨⟨hz.1,hz.2.1⟩,rfl⟩,(t11 _ (by omega) (hrr _ (by omega))).trans Q9.out.1,(t11 _ (by omega) (hrr _ (by omega))).trans Q9.out.2.1,Q9.out.2.2.1.mono fun z hz=>⟨⟨hz.1,Nat.lt_of_lt_of_le hz.2 hz8b⟩,t11 z (Nat.lt_of_lt_of_le hz.2 hz8a) (hrr _ (Nat.lt_of_lt_of_le hz.2 hzw))⟩,?_⟩;exact(Q9.out.2.2.2.trans (HB9.out.mono (by omega))).grown hgrow (by have:=Hz4.out;omega) (fun k hk=>by have:=(Hrow2.out k hk).1;omega)
       clear hown5 hgrow hat HO4 HB10 HB9 HNew Hy Hz4 Hend Rs9f hgr hb11 hf11 rs0 rq0 t11;go_wp2_with fail;go_meet
       case rel=>exact G.out
     case rest=>
      rw[HS3.out]at hcut;obtain⟨sa0,sc0,qa0,qc0,fa0,fc0,pa0,pc0,rfl,rp,bB,rs,rq,bz,bv,rf,bw⟩:=hcut;obtain⟨w12,rfl⟩:∃x:World,x=wc:=⟨_,rfl⟩;clear cc0 cc1 cc2 cc3 cc4 r2 Own9 B9 Rs9 Rq9 Q9 U9 Hz9 Rs9f HS3 HBr HfitF Hpl;have hz12:=bB.lt;have hz13:=bv.lt;generalize hPL:(PS++(if pb=true then []else [LF.barePk]))=PL at*;have BB:=Lib.hid bB;have BZ:=Lib.hid bz;have BV:=Lib.hid bv;have RR:=Lib.hid (And.intro rs (And.intro rq (And.intro rf (And.intro rp bw))));clear bB bz bv rs rq rf rp bw hPL;generalize hns:LF.sent.length=ns at*;generalize hnq:LF.queue.length=nq at*;generalize hnf:FX.op.length=nf at*;generalize hnp:PL.length=np at*;obtain⟨lfe,hlfe⟩:∃x,LF.epoch=x:=⟨_,rfl⟩;obtain⟨lfn,hlfn⟩:∃x,LF.next=x:=⟨_,rfl⟩
      obtain⟨lfh,hlfh⟩:∃x,LF.heard=x:=⟨_,rfl⟩;obtain⟨fxk,hfxk⟩:∃x,FX.kind=x:=⟨_,rfl⟩;obtain⟨fxh,hfxh⟩:∃x,FX.heard=x:=⟨_,rfl⟩;obtain⟨fxe,hfxe⟩:∃x,FX.epoch=x:=⟨_,rfl⟩;obtain⟨fxt,hfxt⟩:∃x,FX.text=x:=⟨_,rfl⟩;rw[hlfe,hlfn,hlfh]at BB Hend;rw[hfxk,hfxh,hfxe,hfxt]at BV Hend;clear hns hnq hnf hnp hlfe hlfn hlfh hfxk hfxh hfxe hfxt;go_wp2_with fail;obtain⟨Vp,HV⟩:∃Vp:Nat→Value→World→Prop,Hid (Vp=fun i v W=>match i with
       |0=>v=.agg #[.int .i64 lfe,.int .i64 lfn,.slice sa0 ns sc0,.slice qa0 nq qc0,.int .i64 lfh]
       |1=>v=.agg #[.int .i64 fxk,.int .i64 fxh,.int .i64 fxe,.slice fa0 nf fc0,.string fxt]
       |2=>v=.bool TE
       |3=>v=.slice pa0 np pc0
       |4=>v=undef
       |5=>v=undef
       |6=>v=.bool TE
       |7=>v=.slice pa0 np pc0
       |_=>v=.int .i64 0):=⟨_,rfl⟩
      obtain⟨Ip,HIp⟩:∃Ip:(Nat→Bool)→(Nat→Value)→World→Prop,Hid (Ip=fun L x W=>(Touch (fun z=>z=w.heap.size+1+1∨z=w.heap.size+1+1+1) w12 W∧(L 4=false→Blk (w.heap.size+1+1) (.cells lk0 70 (0,0)) W)∧(L 4=true→Blk (w.heap.size+1+1) (.cells #[.int .i64 lfe,.int .i64 lfn,.slice sa0 ns sc0,.slice qa0 nq qc0,.int .i64 lfh] 70 (0,0)) W)∧Blk (w.heap.size+1+1+1) (.cells #[.int .i64 fxk,.int .i64 fxh,.int .i64 fxe,.slice fa0 nf fc0,.string fxt] 44 (0,0)) W)):=⟨_,rfl⟩;refine region_lit3 (by kernel_rfl) (by kernel_rfl) (by kernel_rfl) [[],[],[],[],[0],[1],[2],[3],[]] (by kernel_rfl) [some 99,some 100,some 101,some 102,none,none,some 6,some 7,some 8] (by kernel_rfl) [[0,4],[1,5],[2,6],[3,7],[4],[5],[6],[7],[8]] (by kernel_rfl) [[],[],[],[],[],[],[],[],[]] [[],[],[],[],[0],[1],[2],[3],[]] (by kernel_rfl)
       Ip
       Vp
       (fun j W W'=>match j with
        |4=>Touch (fun z=>z=w.heap.size+1+1) W W'
        |5=>Touch (fun z=>z=w.heap.size+1+1+1) W W'
        |_=>Below W.heap.size W W')
       [fun x=>⟨(fZm 11 (.pointer (some ⟨w3.heap.size,0,none⟩)) (fEm 88)).toArray,[]⟩,fun x=>⟨(fZm 5 (.pointer (some ⟨w.heap.size+1+1+1,0,none⟩)) (fEm 95)).toArray,[]⟩,fun x=>⟨(fZm 6 (.bool TE) (fEm 95)).toArray,[]⟩,fun x=>⟨(fZm 7 (.slice pa0 np pc0) (fEm 95)).toArray,[]⟩,fun x=>⟨(fZm 4 (.pointer (some ⟨w.heap.size+1+1,0,none⟩)) (fZm 94 (x 0) [])).toArray,[]⟩,fun x=>⟨(fZm 5 (.pointer (some ⟨w.heap.size+1+1+1,0,none⟩)) (fZm 94 (x 1) [])).toArray,[]⟩,fun x=>⟨(fZm 101 (x 2) []).toArray,[]⟩,fun x=>⟨(fZm 102 (x 3) []).toArray,[]⟩,fun x=>⟨(fEm 9).toArray,[]⟩]
       ?hF ?mono ?h0 ?step [0,1,2,3,4,5,6,7,8] (by kernel_rfl) ?fin
      case hF=>
       iterate 9 refine⟨fun x=>⟨by kernel_rfl,by kernel_rfl⟩,?_⟩
       trivial
      case mono=>
       intro i j hi hj hne hna hnk v W W' hE hv;rw[HV.out]at hv⊢;simp only[List.length_cons,List.length_nil]at hi hj
       match i,hi with
       |0,_|1,_|2,_|3,_|4,_|5,_|6,_|7,_|8,_=>exact hv
       |m+9,h=>exact absurd h (by omega)
      case h0=>intro x;exact toI HIp ⟨(Touch.refl _ _).drew,fun _=>BZ.out,(fun h=>by cases h),BV.out⟩
      case step=>
       refine⟨?_,?_,?_,?_,?_,?_,?_,?_,?_,trivial⟩
       all_goals
        intro x W L hI hL hV;replace hI:(Touch (fun z=>z=w.heap.size+1+1∨z=w.heap.size+1+1+1) w12 W∧(L 4=false→Blk (w.heap.size+1+1) (.cells lk0 70 (0,0)) W)∧(L 4=true→Blk (w.heap.size+1+1) (.cells #[.int .i64 lfe,.int .i64 lfn,.slice sa0 ns sc0,.slice qa0 nq qc0,.int .i64 lfh] 70 (0,0)) W)∧Blk (w.heap.size+1+1+1) (.cells #[.int .i64 fxk,.int .i64 fxh,.int .i64 fxe,.slice fa0 nf fc0,.string fxt] 44 (0,0)) W):=ofI HIp hI;rw[HV.out]at hV;simp only[AllV,and_true]at hV;dsimp only[fZm,fEm,List.reduceReplicate,List.cons_append,List.nil_append]
       ·clear hV;have bF:=(BB.out).touch hI.1 (by omega);obtain⟨q0,q1,q2,q3,q4⟩:=blk_cells5 bF;have HI:=Lib.hid hI;clear hI bF;go_wp2_with fail;refine step3_done rfl ?_ ?_ ?_
        ·exact(toI HIp HI.out)
        ·exact(Below.refl _ _)
        ·exact(toV HV rfl)
       ·clear hV;obtain⟨q0,q1,q2,q3,q4⟩:=blk_cells5 hI.2.2.2;have HI:=Lib.hid hI;clear hI;go_wp2_with fail;refine step3_done rfl ?_ ?_ ?_
        ·exact(toI HIp HI.out)
        ·exact(Below.refl _ _)
        ·exact(toV HV rfl)
       ·clear hV;have HI:=Lib.hid hI;clear hI;go_wp2_with fail;refine step3_done rfl ?_ ?_ ?_
        ·exact(toI HIp HI.out)
        ·exact(Below.refl _ _)
        ·exact(toV HV rfl)
       ·clear hV;have HI:=Lib.hid hI;clear hI;go_wp2_with fail;refine step3_done rfl ?_ ?_ ?_
        ·exact(toI HIp HI.out)
        ·exact(Below.refl _ _)
        ·exact(toV HV rfl)
       ·have u0:=hV;clear hV;simp only[u0];clear u0;have b7:=hI.2.1 (hL.2 4 (by simp));obtain⟨q0,q1,q2,q3,q4⟩:=blk_cells5 b7;have fW:=b7.frozen;have B7:=Lib.hid (blk_set5 b7 (.int .i64 lfe) (.int .i64 lfn) (.slice sa0 ns sc0) (.slice qa0 nq qc0) (.int .i64 lfh));have HT:=Lib.hid (touch5 W (w.heap.size+1+1) (.int .i64 lfe) (.int .i64 lfn) (.slice sa0 ns sc0) (.slice qa0 nq qc0) (.int .i64 lfh));have HI:=Lib.hid hI;clear hI b7;go_wp2_with fail;obtain⟨i1,i2,i3,i4⟩:=HI.out;exact step3_done (v:=undef) rfl (toI HIp ⟨i1.then_ HT.out (fun k _ hk=>.inl hk),(fun h=>absurd h (by simp[setB])),fun _=>B7.out,i4.touch HT.out (by omega)⟩) HT.out (toV HV rfl)
       ·have u1:=hV;clear hV;simp only[u1];clear u1;obtain⟨q0,q1,q2,q3,q4⟩:=blk_cells5 hI.2.2.2;have fW:=hI.2.2.2.frozen;have B7:=Lib.hid (blk_set5 hI.2.2.2 (.int .i64 fxk) (.int .i64 fxh) (.int .i64 fxe) (.slice fa0 nf fc0) (.string fxt));have HT:=Lib.hid (touch5 W (w.heap.size+1+1+1) (.int .i64 fxk) (.int .i64 fxh) (.int .i64 fxe) (.slice fa0 nf fc0) (.string fxt));have HI:=Lib.hid hI;clear hI;go_wp2_with fail;obtain⟨i1,i2,i3,i4⟩:=HI.out;exact step3_done (v:=undef) rfl (toI HIp ⟨i1.then_ HT.out (fun k _ hk=>.inr hk),fun h=>(i2 h).touch HT.out (by omega),fun h=>(i3 h).touch HT.out (by omega),B7.out⟩) HT.out (toV HV rfl)
       ·have u2:=hV;clear hV;simp only[u2];clear u2;have HI:=Lib.hid hI;clear hI;go_wp2_with fail;refine step3_done rfl ?_ ?_ ?_
        ·exact(toI HIp HI.out)
        ·exact(Below.refl _ _)
        ·exact(toV HV rfl)
       ·have u3:=hV;clear hV;simp only[u3];clear u3;have HI:=Lib.hid hI;clear hI;go_wp2_with fail;refine step3_done rfl ?_ ?_ ?_
        ·exact(toI HIp HI.out)
        ·exact(Below.refl _ _)
        ·exact(toV HV rfl)
       ·clear hV;have HI:=Lib.hid hI;clear hI;go_wp2_with fail;refine step3_done rfl ?_ ?_ ?_
        ·exact(toI HIp HI.out)
        ·exact(Below.refl _ _)
        ·exact(toV HV rfl)
      case fin=>
       intro x W L hL hI hV;replace hI:(Touch (fun z=>z=w.heap.size+1+1∨z=w.heap.size+1+1+1) w12 W∧(L 4=false→Blk (w.heap.size+1+1) (.cells lk0 70 (0,0)) W)∧(L 4=true→Blk (w.heap.size+1+1) (.cells #[.int .i64 lfe,.int .i64 lfn,.slice sa0 ns sc0,.slice qa0 nq qc0,.int .i64 lfh] 70 (0,0)) W)∧Blk (w.heap.size+1+1+1) (.cells #[.int .i64 fxk,.int .i64 fxh,.int .i64 fxe,.slice fa0 nf fc0,.string fxt] 44 (0,0)) W):=ofI HIp hI;rw[HV.out]at hV;simp only[AllV,and_true]at hV;obtain⟨u0,u1,u2,u3,u4,u5,u6,u7,u8⟩:=hV;simp only[getsD,List.getD_cons_succ,List.getD_cons_zero,List.length_cons,List.length_nil,List.range,List.range.loop,u0,u1,u2,u3,u4,u5,u6,u7,u8,Act.put,List.setIfInBounds_toArray,List.set_cons_succ,List.set_cons_zero];clear u0 u1 u2 u3 u4 u5 u6 u7 u8;obtain⟨i1,i2,i3,i4⟩:=hI;have g4:=i3 (hL 4 (by simp));have hno:∀z,w3.heap.size<z→z<w12.heap.size→W.heap[z]?=w12.heap[z]?:=fun z h1 h2=>i1.block z h2 (by omega);have hno2:∀z,w2.heap.size≤z→z<w12.heap.size→W.heap[z]?=w12.heap[z]?:=fun z h1 h2=>i1.block z h2 (by omega);have G:=Lib.hid (Hend.out sa0 sc0 qa0 qc0 fa0 fc0 pa0 pc0 W (RR.out.1.mono fun z hz=>⟨⟨by omega,Nat.lt_of_lt_of_le hz.2 i1.size⟩,hno2 z hz.1 hz.2⟩) (RR.out.2.1.mono fun z hz=>⟨⟨by omega,Nat.lt_of_lt_of_le hz.2 i1.size⟩,hno2 z hz.1 hz.2⟩) (RR.out.2.2.1.mono fun z hz=>⟨⟨by omega,Nat.lt_of_lt_of_le hz.2 i1.size⟩,hno z hz.1 hz.2⟩) (RR.out.2.2.2.1.mono fun z hz=>⟨⟨by omega,Nat.lt_of_lt_of_le hz.2 i1.size⟩,hno z hz.1 hz.2⟩) (RR.out.2.2.2.2.trans (i1.toBelow (by have:=RR.out.2.2.2.2.size;omega) (fun k hk=>by omega))));obtain⟨k0,k1,k2,k3,k4⟩:=blk_cells5 g4;obtain⟨j0,j1,j2,j3,j4⟩:=blk_cells5 i4;clear i1 i2 i3 i4 g4 hL hno hno2;go_wp2_with fail;refine bodyPost_ret (v:=.tuple #[.agg #[.int .i64 lfe,.int .i64 lfn,.slice sa0 ns sc0,.slice qa0 nq qc0,.int .i64 lfh],.agg #[.int .i64 fxk,.int .i64 fxh,.int .i64 fxe,.slice fa0 nf fc0,.string fxt],.bool TE,.slice pa0 np pc0,.int .i64 0]) (by simp[results,Tryd.results66,go_sem,k0,k1,k2,k3,k4,j0,j1,j2,j3,j4]) rfl G.out
theorem lkHear_any (l:Lk)(p:Pkt)(a b fa:Option Addr)(n c m d fn fc:Nat)(w:World)(hg:Good w)(hr:RdS (· <w.heap.size) w l.sent a n c)(hq:RdS (· <w.heap.size) w l.queue b m d)(hfr:RdS (· <w.heap.size) w p.f.op fa fn fc)(hl:l.fits)(hp:p.fits)(hm:m≤1000000):
 Calls Tryd.prog 66 #[.agg #[.int .i64 l.epoch,.int .i64 l.next,.slice a n c,.slice b m d,.int .i64 l.heard],.agg #[.int .i64 p.epoch,.int .i64 p.number,.bool p.bare,.int .i64 p.ack,.int .i64 p.f.kind,.int .i64 p.f.heard,.int .i64 p.f.epoch,.slice fa fn fc,.string p.f.text]] w (LkHearP l p w):=by
 by_cases hE:l.hearE p=0
 ·exact lkHear_ok l p a b fa n c m d fn fc w hg hr hq hfr hl hp hm hE
 ·refine(lkHear_bad l p a b fa n c m d fn fc w hg hr hq hfr hl hp hE).mono ?_;rintro e w' ⟨rfl,h⟩;have e1:l.hearL p=noLk:=if_neg hE;have e2:l.told p=false:=if_neg hE;have e3:l.hearP p=[]:=if_neg hE;have e4:l.hearF p=bareFr:=by unfold Lk.hearF;rw[e2];rfl
  unfold LkHearP;rw[e1,e2,e3,e4];exact⟨none,0,none,0,none,0,none,0,rfl,RdS.nil _ _,RdS.nil _ _,RdS.nil _ _,RdS.nil _ _,h⟩
end Go.Proofs.YtkbfhgcjimfgkaaDoor
set_option linter.unusedSimpArgs false
namespace Go.Proofs.YtkbfhgcjimfgkaaDoor
open Go.RowKit
def Fresh (B:Nat)(w:World)(z:Nat):Prop:=B≤z∧z<w.heap.size
theorem RdS.up {α:Type} [Rep α] {B:Nat}{w w':World}{l:List α}{a:Option Addr}{n c:Nat}(h:RdS (Fresh B w) w l a n c)(hb:Below w.heap.size w w'):RdS (Fresh B w') w' l a n c:=
 h.mono fun z hz=>⟨⟨hz.1,Nat.lt_of_lt_of_le hz.2 hb.size⟩,hb.block z hz.2⟩
theorem RdS.past {α:Type} [Rep α] {B:Nat}{S:Nat→Prop}{w w':World}{l:List α}{a:Option Addr}{n c:Nat}(h:RdS (Fresh B w) w l a n c)(ht:Touch S w w')(hs:∀z,S z→z<B):RdS (Fresh B w') w' l a n c:=
 h.mono fun z hz=>⟨⟨hz.1,Nat.lt_of_lt_of_le hz.2 ht.size⟩,ht.block z hz.2 (fun h=>by have:=hs z h;have:=hz.1;omega)⟩
theorem RdS.deep {α:Type} [Rep α] {B B':Nat}{w:World}{l:List α}{a:Option Addr}{n c:Nat}(h:RdS (Fresh B w) w l a n c)(hb:B'≤B):RdS (Fresh B' w) w l a n c:=h.mono fun z hz=>⟨⟨Nat.le_trans hb hz.1,hz.2⟩,rfl⟩
def LkVal (B:Nat)(l:Lk)(v:Value)(w:World):Prop:=∃sa sc qa qc,v=.agg #[.int .i64 l.epoch,.int .i64 l.next,.slice sa l.sent.length sc,.slice qa l.queue.length qc,.int .i64 l.heard]∧RdS (Fresh B w) w l.sent sa l.sent.length sc∧RdS (Fresh B w) w l.queue qa l.queue.length qc
def PsVal (B:Nat)(ps:List Pkt)(v:Value)(w:World):Prop:=∃pa pc,v=.slice pa ps.length pc∧RdS (Fresh B w) w ps pa ps.length pc
theorem LkVal.go {B:Nat}{l:Lk}{v:Value}{w w':World}(h:LkVal B l v w)(hb:Below w.heap.size w w'):LkVal B l v w':=by obtain⟨a,c,a',c',e,h,h'⟩:=h;exact⟨a,c,a',c',e,h.up hb,h'.up hb⟩
theorem PsVal.go {B:Nat}{ps:List Pkt}{v:Value}{w w':World}(h:PsVal B ps v w)(hb:Below w.heap.size w w'):PsVal B ps v w':=by obtain⟨a,c,e,h⟩:=h;exact⟨a,c,e,h.up hb⟩
theorem LkVal.deep {B B':Nat}{l:Lk}{v:Value}{w:World}(h:LkVal B l v w)(hb:B'≤B):LkVal B' l v w:=by obtain⟨a,c,a',c',e,h,h'⟩:=h;exact⟨a,c,a',c',e,h.deep hb,h'.deep hb⟩
theorem PsVal.deep {B B':Nat}{ps:List Pkt}{v:Value}{w:World}(h:PsVal B ps v w)(hb:B'≤B):PsVal B' ps v w:=by obtain⟨a,c,e,h⟩:=h;exact⟨a,c,e,h.deep hb⟩
end Go.Proofs.YtkbfhgcjimfgkaaDoor
