/- The walk of link.Send at what is not refused; link.Send whole. -/
import Derived.Test.YtkbfhgcjimfgkaaDoorPartB1
set_option linter.unusedVariables false
set_option linter.unusedSimpArgs false
set_option linter.unusedSimpArgs false
namespace Go.Proofs.YtkbfhgcjimfgkaaDoor
open Go.RowKit
theorem sendE_zero {l:Lk}{f:Fr}(h:l.sendE f=0):l.check=0∧l.epoch≠0∧f.check=0∧l.next≠1048576:=by
 unfold Lk.sendE at h;by_cases h1:l.check=0
 ·rw[if_neg (by simpa using h1)]at h;by_cases h2:l.epoch=0
  ·rw[if_pos h2]at h;exact absurd h (by decide)
  ·rw[if_neg h2]at h;by_cases h3:f.check=0
   ·rw[if_neg (by simpa using h3)]at h;by_cases h4:l.next=1048576
    ·rw[if_pos h4]at h;exact absurd h (by decide)
    ·exact⟨h1,h2,h3,h4⟩
   ·rw[if_pos h3]at h;exact absurd h h3
 ·rw[if_pos h1]at h;exact absurd h h1
theorem Fl.res {base b:Nat}{l:Lk}{sv qv:Value}{w:World}(h:Fl base b l sv qv w):∃sa sc qa qc,sv=.slice sa l.sent.length sc∧qv=.slice qa l.queue.length qc∧RdS (fun z=>base≤z∧z<w.heap.size∧z≠b) w l.sent sa l.sent.length sc∧RdS (fun z=>base≤z∧z<w.heap.size∧z≠b) w l.queue qa l.queue.length qc:=by
 obtain⟨qa,qc,hq,hr⟩:=h.queue;obtain⟨sa,sc,hs,hsr⟩:=h.sent.rd (A:=fun z=>base≤z∧z<w.heap.size∧z≠b) (fun z hz hx=>⟨by omega,hz,fun e=>hx (.inr e)⟩) (fun k hk=>⟨(h.sent.rowlt k hk).1,(h.sent.rowlt k hk).2,fun e=>h.ne (e▸hk)⟩);exact⟨sa,sc,qa,qc,hs,hq,hsr,hr.mono fun z hz=>⟨⟨hz.1,hz.2.1,hz.2.2.1⟩,rfl⟩⟩
set_option maxRecDepth 100000 in
set_option maxHeartbeats 8000000 in
theorem lkSend_ok (l:Lk)(f:Fr)(a b fa:Option Addr)(n c m d fn fc:Nat)(w:World)(hg:Good w)(hr:RdS (· <w.heap.size) w l.sent a n c)(hq:RdS (· <w.heap.size) w l.queue b m d)(hfr:RdS (· <w.heap.size) w f.op fa fn fc)(hl:l.fits)(hf:f.fits)(hm:m≤1000000)(hE:l.sendE f=0):
 Calls Tryd.prog 71 #[.agg #[.int .i64 l.epoch,.int .i64 l.next,.slice a n c,.slice b m d,.int .i64 l.heard],.agg #[.int .i64 f.kind,.int .i64 f.heard,.int .i64 f.epoch,.slice fa fn fc,.string f.text]] w (LkPksP (l.push f) ((l.push f).pks l.sent.length) 0 w):=by
 obtain⟨h1,h2,h3,h4⟩:=sendE_zero hE;obtain⟨l1,l2,l3,l4,l5,l6,l7,l8,l9,l10,l11,l12⟩:=lk_zero h1;have HC:=Lib.hid (fun W (hW:Below w.heap.size w W)=>lkCheck_any l a b n c m d W (hg.go hW) (hr.go hW) (hq.go hW) hl);have HF:=Lib.hid (fun W (hW:Below w.heap.size w W)=>checkFrame_any (· <W.heap.size) f.kind f.heard f.epoch f.op f.text fa fn fc W (hg.go hW) (fun _ h=>h) (hfr.go hW) hf.1 hf.2.1 hf.2.2.1 hf.2.2.2);rw[show checkFrame f.kind f.heard f.epoch f.op f.text=f.check from rfl,h3]at HF;rw[h1]at HC;have hsl:=frame_ops l10;have hql:=frame_ops l11;have hfl:=frame_op1 h3;have HO:=Lib.hid (fun W (hW:Below w.heap.size w W)=>lkOwn_any l a b n c m d W (hr.go hW) (hq.go hW) (fun g hg=>by have:=hsl g hg;omega) (fun g hg=>by have:=hql g hg;omega) (by have:=hr.1;omega) (by omega));have Hcl:=Lib.hid (fun W (hW:Below w.heap.size w W)=>copyFrame_any f fa fn fc W (hfr.go hW) (by have:=hfr.1;omega));have hqm:l.queue.length=m:=hq.1.symm;have HFill:=Lib.hid (fun base bb sv qv W (h:Fl base bb (Lk.mk l.epoch l.next l.sent (l.queue++[f]) l.heard) sv qv W)=>fill_any base bb (Lk.mk l.epoch l.next l.sent (l.queue++[f]) l.heard) sv qv W h l3 l4 (by simp only;omega) (by simp only[List.length_append,List.length_singleton];omega) (fun g hg=>by
  simp only[List.mem_append,List.mem_singleton]at hg;rcases hg with hg|hg|hg
  ·have:=hsl g hg;omega
  ·have:=hql g hg;omega
  ·subst hg;omega) ⟨hl.1,hl.2.2⟩)
 unfold FillP at HFill;rw[show(Lk.mk l.epoch l.next l.sent (l.queue++[f]) l.heard).filled=l.push f from rfl]at HFill;have Hend:Hid (∀sa sc qa qc pa pc W,RdS (fun z=>w.heap.size≤z∧z<W.heap.size) W (l.push f).sent sa (l.push f).sent.length sc→RdS (fun z=>w.heap.size≤z∧z<W.heap.size) W (l.push f).queue qa (l.push f).queue.length qc→RdS (fun z=>w.heap.size≤z∧z<W.heap.size) W ((l.push f).pks l.sent.length) pa ((l.push f).pks l.sent.length).length pc→Below w.heap.size w W→
  LkPksP (l.push f) ((l.push f).pks l.sent.length) 0 w (.returned (.tuple #[.agg #[.int .i64 (l.push f).epoch,.int .i64 (l.push f).next,.slice sa (l.push f).sent.length sc,.slice qa (l.push f).queue.length qc,.int .i64 (l.push f).heard],.slice pa ((l.push f).pks l.sent.length).length pc,.int .i64 0])) W):=
  fun sa sc qa qc pa pc W r1 r2 r3 r4=>⟨sa,sc,qa,qc,pa,pc,rfl,r1,r2,r3,r4⟩
 generalize LkPksP (l.push f) ((l.push f).pks l.sent.length) 0 w=SP at*;have Hfit:=Lib.hid hf;have Htl:Hid (l.queue.length≤1000000):=by unfold Hid;omega
 unfold lkV at HC HO;obtain⟨i0,hi,hz0,hz1,hz2⟩:=info_parts infoF;have Hi:=Lib.hid hi;have Hz0:=Lib.hid hz0;have Hz1:=Lib.hid hz1;have Hz2:=Lib.hid hz2;clear hi hz0 hz1 hz2;have hep:(l.epoch==0)=false:=by simpa using h2
 have hnx:(l.next==1048576)=false:=by simpa using h4
 clear hr hq hfr hl hf hE h1 h2 h3 h4 l1 l2 l3 l4 l5 l6 l7 l8 l9 l10 l11 l12 hsl hql hfl hqm hg hm;generalize l.push f=lp at*;obtain⟨ep,nx,ls,lq,he⟩:=l;obtain⟨fk,fh,fe,o,ft⟩:=f;simp only at*;have X0:=Lib.hid (((Blk.new w (.cells #[.int .i64 ep,.int .i64 nx,.slice a n c,.slice b m d,.int .i64 he] 70)).alloc (.cells #[.int .i64 fk,.int .i64 fh,.int .i64 fe,.slice fa fn fc,.string ft] 44)).alloc (.cells #[.int .i64 0,.int .i64 0,.slice none 0 0,.slice none 0 0,.int .i64 0] 70));have Y0:=Lib.hid ((Blk.at (w.alloc (.cells #[.int .i64 ep,.int .i64 nx,.slice a n c,.slice b m d,.int .i64 he] 70)) (.cells #[.int .i64 fk,.int .i64 fh,.int .i64 fe,.slice fa fn fc,.string ft] 44) (w.heap.size+1) (by simp)).alloc (.cells #[.int .i64 0,.int .i64 0,.slice none 0 0,.slice none 0 0,.int .i64 0] 70));have Z0:=Lib.hid (Blk.at ((w.alloc (.cells #[.int .i64 ep,.int .i64 nx,.slice a n c,.slice b m d,.int .i64 he] 70)).alloc (.cells #[.int .i64 fk,.int .i64 fh,.int .i64 fe,.slice fa fn fc,.string ft] 44)) (.cells #[.int .i64 0,.int .i64 0,.slice none 0 0,.slice none 0 0,.int .i64 0] 70) (w.heap.size+1+1) (by simp));have U0:Hid (Below w.heap.size w (((w.alloc (.cells #[.int .i64 ep,.int .i64 nx,.slice a n c,.slice b m d,.int .i64 he] 70)).alloc (.cells #[.int .i64 fk,.int .i64 fh,.int .i64 fe,.slice fa fn fc,.string ft] 44)).alloc (.cells #[.int .i64 0,.int .i64 0,.slice none 0 0,.slice none 0 0,.int .i64 0] 70))):=by unfold Hid;(repeat (first|exact Below.refl _ _|assumption|(refine Below.drew ?_)|(refine below_drewN ?_ _)|(refine Below.alloc ?_ (by first|(simp;done)|(simp;omega)|omega) _)|(refine Below.setCell ?_ (by first|(simp;done)|(simp;omega)|omega) _)|(refine Below.trans ?_ (Below.mono (by assumption) (by first|(simp;done)|(simp;omega)|omega)))))
 go_enter Tryd.func71,Tryd.ntmps71;go_wp2_with fail;refine(HC.out _ U0.out).mono ?_;rintro e w1 ⟨rfl,u1⟩;have x1:=Lib.hid (X0.out.go u1);have y1:=Lib.hid (Y0.out.go u1);have z1:=Lib.hid (Z0.out.go u1);have U1:=Lib.hid (up U0.out u1);obtain⟨q0,q1,q2,q3,q4⟩:=blk_cells5 x1.out;obtain⟨r0,r1,r2,r3,r4⟩:=blk_cells5 y1.out;clear u1 X0 Y0 Z0 U0 HC;go_wp2_with fail;refine(HF.out _ U1.out).mono ?_;rintro e w2 ⟨rfl,u2⟩;have x2:=Lib.hid (x1.out.go u2);have y2:=Lib.hid (y1.out.go u2);have z2:=Lib.hid (z1.out.go u2);have U2:=Lib.hid (up U1.out u2);clear u2 x1 y1 z1 U1 HF q0 q1 q2 q3 q4 r0 r1 r2 r3 r4;obtain⟨q0,q1,q2,q3,q4⟩:=blk_cells5 x2.out;go_wp2_with fail;refine(HO.out _ U2.out).mono ?_;rintro e w3 ⟨sv,qv,rfl,os,oq,hne,u3⟩;obtain⟨sa,sc,rfl⟩:=os.form;obtain⟨qa,qc,rfl⟩:=oq.form;have y3:=Lib.hid (y2.out.go u3);have z3:=Lib.hid (z2.out.go u3);have hz2z:=z2.out.lt;have hz3z:=u3.size;have U3:=Lib.hid (up U2.out u3);have OS:=Lib.hid os;have OQ:=Lib.hid oq;have HNE:=Lib.hid hne;clear u3 x2 y2 z2 HO q0 q1 q2 q3 q4 os oq hne;obtain⟨ns,hns⟩:∃ns,ls.length=ns:=⟨_,rfl⟩;obtain⟨nq,hnq⟩:∃nq,lq.length=nq:=⟨_,rfl⟩;rw[hns]at OS OQ HNE HFill Hend⊢;rw[hnq]at OS OQ HNE⊢;have Hns:=Lib.hid hns;have Hnq:=Lib.hid hnq;clear hns hnq;go_wp2_with fail;refine abs_w (fun W=>Below w3.heap.size w3 W∧Blk w3.heap.size (.cells #[.int .i64 ep,.int .i64 nx,.slice sa ns sc,.slice qa nq qc,.int .i64 he] 70 (0,0)) W) ⟨by(repeat (first|exact Below.refl _ _|assumption|(refine Below.drew ?_)|(refine below_drewN ?_ _)|(refine Below.alloc ?_ (by first|(simp;done)|(simp;omega)|omega) _)|(refine Below.setCell ?_ (by first|(simp;done)|(simp;omega)|omega) _)|(refine Below.trans ?_ (Below.mono (by assumption) (by first|(simp;done)|(simp;omega)|omega))))),Blk.new _ _⟩ ?_;rintro w4 ⟨u4,x4⟩;have hz4:=x4.lt;have hOQr:=OQ.out.rowlt;have hOSr:=OS.out.rowlt;have HFB:=Lib.hid (y3.out.go u4);have Z4:=Lib.hid (z3.out.go u4);have HB:=Lib.hid (up U3.out u4);have X3:=Lib.hid x4;have HO:Hid (Own (fun z=>(z<w2.heap.size∨(Value.slice sa ns sc).ownBlock=some z)∨z=w3.heap.size) w2.heap.size 44 (.slice qa nq qc) lq w4):=(OQ.out.more (fun k hk hx=>by
  rcases hx with hx|hx
  ·exact hx
  ·omega)).go u4
 have HS4:Hid (Own (fun z=>(z<w2.heap.size∨(Value.slice qa nq qc).ownBlock=some z)∨w3.heap.size≤z) w2.heap.size 44 (.slice sa ns sc) ls w4):=(OS.out.more (fun k hk hx=>by
  rcases hx with hx|hx
  ·exact hx
  ·omega)).go u4
 have HFN:Hid (¬(w.heap.size+1=w3.heap.size∨(Value.slice qa nq qc).ownBlock=some (w.heap.size+1))):=by
  rintro(h|h)
  ·omega
  ·have:=hOQr _ h;omega
 have Hvr:Hid (∀k,(Value.slice qa nq qc).ownBlock=some k→w2.heap.size≤k∧k<w4.heap.size∧k≠w3.heap.size):=fun k hk=>by have:=hOQr k hk;omega
 have Hsr:Hid (∀k,(Value.slice sa ns sc).ownBlock=some k→w2.heap.size≤k∧k<w3.heap.size):=fun k hk=>hOSr k hk;have hbx:w3.heap.size<w4.heap.size:=hz4;have HNE':=HNE;clear u4 x4 y3 z3 U3 OS OQ hOQr hOSr HNE;obtain⟨Vp,HV⟩:∃Vp:Nat→Value→World→Prop,Hid (Vp=fun i v W=>match i with
  |0=>v=.pointer (some ⟨w3.heap.size,3,none⟩)
  |1=>v=(Value.slice qa nq qc)
  |2=>v=.agg #[.int .i64 fk,.int .i64 fh,.int .i64 fe,.slice fa fn fc,.string ft]
  |3=>∃a c,v=.agg #[.int .i64 fk,.int .i64 fh,.int .i64 fe,.slice a o.length c,.string ft]∧RdS (fun b=>w4.heap.size≤b∧b<W.heap.size) W o a o.length c
  |4=>∃g a c,v=.slice (some ⟨g,0,none⟩) 1 1∧Blk g (.cells #[.int .i64 fk,.int .i64 fh,.int .i64 fe,.slice a o.length c,.string ft] 44 (0,0)) W∧w4.heap.size≤g∧RdS (fun b=>w4.heap.size≤b∧b<W.heap.size) W o a o.length c
  |5=>∃g c,v=.slice (some ⟨g,0,none⟩) (lq.length+1) c∧Own (fun z=>(z<w2.heap.size∨(Value.slice sa ns sc).ownBlock=some z)∨z=w3.heap.size) (w2.heap.size) 44 (.slice (some ⟨g,0,none⟩) (lq.length+1) c) (lq++[(⟨fk,fh,fe,o,ft⟩:Fr)]) W∧g≠w3.heap.size∧((Value.slice qa nq qc).ownBlock=some g∨w4.heap.size≤g)
  |6=>v=.pointer (some ⟨w3.heap.size,3,none⟩)
  |_=>v=undef):=⟨_,rfl⟩
 obtain⟨Ip,HIp⟩:∃Ip:(Nat→Bool)→(Nat→Value)→World→Prop,Hid (Ip=fun L x W=>(Below w.heap.size w W∧Touch (fun b=>b=w3.heap.size∨(Value.slice qa nq qc).ownBlock=some b) w4 W∧(L 7=false→Blk (w3.heap.size) (.cells #[.int .i64 ep,.int .i64 nx,.slice sa ns sc,(Value.slice qa nq qc),.int .i64 he] 70 (0,0)) W)∧(L 5=false→Own (fun z=>(z<w2.heap.size∨(Value.slice sa ns sc).ownBlock=some z)∨z=w3.heap.size) (w2.heap.size) 44 (Value.slice qa nq qc) lq W)∧(L 7=true→∃v',Blk (w3.heap.size) (.cells #[.int .i64 ep,.int .i64 nx,.slice sa ns sc,v',.int .i64 he] 70 (0,0)) W∧Own (fun z=>(z<w2.heap.size∨(Value.slice sa ns sc).ownBlock=some z)∨z=w3.heap.size) (w2.heap.size) 44 v' (lq++[(⟨fk,fh,fe,o,ft⟩:Fr)]) W∧(∀k,v'.ownBlock=some k→(Value.slice qa nq qc).ownBlock=some k∨w4.heap.size≤k)))):=⟨_,rfl⟩;refine region_lit3 (by kernel_rfl) (by kernel_rfl) (by kernel_rfl) [[],[0],[],[2],[2,3],[0,1,2,3,4],[],[0,1,2,3,4,5,6]] (by kernel_rfl) [some 33,some 34,some 35,some 36,some 37,some 38,some 39,none] (by kernel_rfl) [[0,1,5,7],[1,5,7],[2,3,4,5,7],[3,4,5,7],[4,5,7],[5,7],[6,7],[7]] (by kernel_rfl) [[],[],[],[],[],[],[],[]] [[],[0],[],[2],[3],[1,4],[],[5,6]] (by kernel_rfl)
  Ip
  Vp
  (fun j W W'=>match j with
   |5=>W.grownBy W' (Value.slice qa nq qc).ownBlock
   |7=>Touch (fun b=>b=w3.heap.size) W W'
   |_=>Below W.heap.size W W')
  [fun x=>⟨(fZm 9 (.pointer (some ⟨w3.heap.size,0,none⟩)) (fEm 24)).toArray,[]⟩,fun x=>⟨(fZm 33 (x 0) (fEm 1)).toArray,[]⟩,fun x=>⟨(fZm 3 (.pointer (some ⟨w.heap.size+1,0,none⟩)) (fEm 32)).toArray,[]⟩,fun x=>⟨(fZm 35 (x 2) (fEm 1)).toArray,[]⟩,fun x=>⟨(fZm 36 (x 3) (fEm 1)).toArray,[]⟩,fun x=>⟨(fZm 34 (x 1) (fZm 2 (x 4) (fEm 1))).toArray,[]⟩,fun x=>⟨(fZm 9 (.pointer (some ⟨w3.heap.size,0,none⟩)) (fEm 30)).toArray,[]⟩,fun x=>⟨(fZm 38 (x 5) (fZm 0 (x 6) [])).toArray,[]⟩]
  ?hF ?mono ?h0 ?step [0,1,2,3,4,5,6,7] (by kernel_rfl) ?fin
 case hF=>
  iterate 8 refine⟨fun x=>⟨by kernel_rfl,by kernel_rfl⟩,?_⟩
  trivial
 case mono=>
  intro i j hi hj hne hna hnk v W W' hE hv;rw[HV.out]at hv⊢;simp only[List.length_cons,List.length_nil]at hi hj
  match i,hi with
  |0,_|1,_|2,_|6,_|7,_=>exact hv
  |3,_=>
   match j,hj with
   |3,_=>exact absurd rfl hne
   |2,_=>exact absurd (by simp) hna
   |0,_|1,_|4,_|6,_=>exact(by obtain⟨a,c,h1,h2⟩:=hv;exact⟨a,c,h1,h2.freshB hE⟩)
   |5,_=>exact(by obtain⟨a,c,h1,h2⟩:=hv;exact⟨a,c,h1,h2.freshG hE (fun k hk=>(Hvr.out k hk).2.1)⟩)
   |7,_=>exact(by obtain⟨a,c,h1,h2⟩:=hv;exact⟨a,c,h1,h2.freshT hE (fun k hk=>by omega)⟩)
   |m+8,h=>exact absurd h (by omega)
  |4,_=>
   match j,hj with
   |4,_=>exact absurd rfl hne
   |2,_|3,_=>exact absurd (by simp) hna
   |0,_|1,_|6,_=>exact(by obtain⟨g,a,c,h1,h2,h3,h4⟩:=hv;exact⟨g,a,c,h1,h2.go hE,h3,h4.freshB hE⟩)
   |5,_=>exact(by obtain⟨g,a,c,h1,h2,h3,h4⟩:=hv;exact⟨g,a,c,h1,h2.grown hE (fun e=>by have:=Hvr.out g e.symm;omega),h3,h4.freshG hE (fun k hk=>(Hvr.out k hk).2.1)⟩)
   |7,_=>exact(by obtain⟨g,a,c,h1,h2,h3,h4⟩:=hv;exact⟨g,a,c,h1,h2.touch hE (by omega),h3,h4.freshT hE (fun k hk=>by omega)⟩)
   |m+8,h=>exact absurd h (by omega)
  |5,_=>
   match j,hj with
   |5,_=>exact absurd rfl hne
   |0,_|1,_|2,_|3,_|4,_=>exact absurd (by simp) hna
   |6,_=>exact(by obtain⟨g,c,h1,h2,h3,h4⟩:=hv;exact⟨g,c,h1,h2.go hE,h3,h4⟩)
   |7,_=>exact(by obtain⟨g,c,h1,h2,h3,h4⟩:=hv;exact⟨g,c,h1,h2.touch hE (fun k hk hs=>⟨by(first|omega|exact .inr hs),fun e=>h3 ((Option.some.inj (show some g=some k from e)).trans hs)⟩),h3,h4⟩)
   |m+8,h=>exact absurd h (by omega)
  |m+8,h=>exact absurd h (by omega)
 case h0=>intro x;exact toI HIp ⟨HB.out.drew,(Touch.refl _ _).drew,fun _=>X3.out,fun _=>HO.out.go (Below.refl _ _).drew,fun h=>by cases h⟩
 case step=>
  refine⟨?_,?_,?_,?_,?_,?_,?_,?_,trivial⟩
  all_goals
   intro x W L hI hL hV;replace hI:(Below w.heap.size w W∧Touch (fun b=>b=w3.heap.size∨(Value.slice qa nq qc).ownBlock=some b) w4 W∧(L 7=false→Blk (w3.heap.size) (.cells #[.int .i64 ep,.int .i64 nx,.slice sa ns sc,(Value.slice qa nq qc),.int .i64 he] 70 (0,0)) W)∧(L 5=false→Own (fun z=>(z<w2.heap.size∨(Value.slice sa ns sc).ownBlock=some z)∨z=w3.heap.size) (w2.heap.size) 44 (Value.slice qa nq qc) lq W)∧(L 7=true→∃v',Blk (w3.heap.size) (.cells #[.int .i64 ep,.int .i64 nx,.slice sa ns sc,v',.int .i64 he] 70 (0,0)) W∧Own (fun z=>(z<w2.heap.size∨(Value.slice sa ns sc).ownBlock=some z)∨z=w3.heap.size) (w2.heap.size) 44 v' (lq++[(⟨fk,fh,fe,o,ft⟩:Fr)]) W∧(∀k,v'.ownBlock=some k→(Value.slice qa nq qc).ownBlock=some k∨w4.heap.size≤k))):=ofI HIp hI;rw[HV.out]at hV;simp only[AllV,and_true]at hV;dsimp only[fZm,fEm,List.reduceReplicate,List.cons_append,List.nil_append]
  ·clear hV;have HI:=Lib.hid hI;clear hI;go_wp2_with fail;refine step3_done rfl ?_ ?_ ?_
   ·exact(toI HIp HI.out)
   ·exact(Below.refl _ _)
   ·exact(toV HV rfl)
  ·have u0:=hV;clear hV;simp only[u0];clear u0;have cW:W.cell? ⟨w3.heap.size,3,none⟩=some (Value.slice qa nq qc):=(hI.2.2.1 (hL.2 7 (by simp))).cell 3;have HI:=Lib.hid hI;clear hI;go_wp2_with fail;refine step3_done rfl ?_ ?_ ?_
   ·exact(toI HIp HI.out)
   ·exact(Below.refl _ _)
   ·exact(toV HV rfl)
  ·clear hV;have bF:=(HFB.out).touch hI.2.1 HFN.out;have q0:W.cell? ⟨w.heap.size+1,0,none⟩=some (.int .i64 fk):=bF.cell 0;have q1:W.cell? ⟨w.heap.size+1,1,none⟩=some (.int .i64 fh):=bF.cell 1;have q2:W.cell? ⟨w.heap.size+1,2,none⟩=some (.int .i64 fe):=bF.cell 2;have q3:W.cell? ⟨w.heap.size+1,3,none⟩=some (.slice fa fn fc):=bF.cell 3;have q4:W.cell? ⟨w.heap.size+1,4,none⟩=some (.string ft):=bF.cell 4;have HI:=Lib.hid hI;clear hI bF;go_wp2_with fail;refine step3_done rfl ?_ ?_ ?_
   ·exact(toI HIp HI.out)
   ·exact(Below.refl _ _)
   ·exact(toV HV rfl)
  ·have u2:=hV;clear hV;simp only[u2];clear u2;have HI:=Lib.hid hI;have HL:=Lib.hid hL;clear hI hL;go_wp2_with fail;obtain⟨i1,i2,i3,i4,i5⟩:=HI.out;refine(Hcl.out W i1).mono ?_;rintro e W' ⟨a',c',rfl,hrd,uW⟩;have hsz:=i2.size;have HP:=Lib.hid (And.intro (upper i1 uW i1.size) (And.intro (i2.below uW hsz) (And.intro (fun h:L 7=false=>(i3 h).go uW) (fun h:L 5=false=>(i4 h).go uW))));have HR3:Hid (RdS (fun b=>w4.heap.size≤b∧b<W'.heap.size) W' o a' o.length c'):=hrd.mono fun b hb=>⟨⟨by omega,hb.2⟩,rfl⟩;have HU:=Lib.hid uW;clear i1 i2 i3 i4 i5 hrd uW HI;go_wp2_with fail;refine step3_done rfl ?_ ?_ ?_
   ·exact(toI HIp ⟨HP.out.1,HP.out.2.1,HP.out.2.2.1,HP.out.2.2.2,fun h:L 7=true=>absurd ((HL.out.2 7 (by simp)).symm.trans h) (by simp)⟩)
   ·exact HU.out
   ·exact(toV HV ⟨_,_,rfl,HR3.out⟩)
  ·obtain⟨a3,c3,u3,r3⟩:=hV;simp only[u3];have U3:=Lib.hid u3;clear u3;have HI:=Lib.hid hI;have HL:=Lib.hid hL;have R3:=Lib.hid r3;clear hI hL r3;go_wp2_with fail;obtain⟨i1,i2,i3,i4,i5⟩:=HI.out;have uW:∀o,Below W.heap.size W (W.alloc o):=fun o=>(Below.refl _ _).alloc (Nat.le_refl _) o;have hsz:=i2.size;refine step3_done rfl ?_ ?_ ?_
   ·exact(toI HIp ⟨upper i1 (uW _) i1.size,i2.below (uW _) hsz,fun h=>(i3 h).go (uW _),fun h=>(i4 h).go (uW _),fun h:L 7=true=>absurd ((HL.out.2 7 (by simp)).symm.trans h) (by simp)⟩)
   ·exact(uW _)
   ·exact(toV HV ⟨_,_,_,rfl,Blk.new _ _,hsz,R3.out.freshB (uW _)⟩)
  ·obtain⟨u1,⟨g4,a4,c4,u4,b4,l4,r4⟩⟩:=hV;simp only[u1,u4];have U4:=Lib.hid u4;clear u1 u4;have HI:=Lib.hid hI;have HL:=Lib.hid hL;have R4:=Lib.hid r4;have B4:=Lib.hid b4;have hO5:=Lib.hid (hI.2.2.2.1 (hL.2 5 (by simp)));have hz5:=hI.1.size;have hz6:=hI.2.1.size;have hI0:w3.heap.size<W.heap.size:=Nat.lt_of_lt_of_le hbx hz6;have Hy:Hid (Rep.rd (fun b=>b<W.heap.size∧¬(fun z=>(z<w2.heap.size∨(Value.slice sa ns sc).ownBlock=some z)∨z=w3.heap.size) b∧(Value.slice qa nq qc).ownBlock≠some b) W (⟨fk,fh,fe,o,ft⟩:Fr) [.int .i64 fk,.int .i64 fh,.int .i64 fe,.slice a4 o.length c4,.string ft]):=⟨a4,o.length,c4,rfl,r4.mono fun b hb=>⟨⟨hb.2,by(rintro((h|h)|h);omega;(have:=(Hsr.out _ h).2;omega);omega),fun e=>by have:=Hvr.out b e;omega⟩,rfl⟩,Hfit.out⟩;clear hI hL r4 b4;go_wp2_with (at_builtin;refine wpList_append_one rfl _ _ _ (by rfl) (w2.heap.size) 44 i0 _ 64 Tryd.underlying68 Hi.out Hz0.out Hz1.out Hz2.out rfl (Value.slice qa nq qc) lq (by rfl) hO5.out g4 1 _ [.int .i64 fk,.int .i64 fh,.int .i64 fe,.slice a4 o.length c4,.string ft] (⟨fk,fh,fe,o,ft⟩:Fr) (by rfl) B4.out Hy.out (by have:=Htl.out;unfold maxLen;omega) (by have:=Htl.out;omega) (by omega) ?_);intro g cap w5 hown5 hgrow hat hlt5;obtain⟨i1,i2,i3,i4,i5⟩:=HI.out;have hP1:Below w.heap.size w w5:=i1.grown hgrow hz5 (fun g hg=>by have:=(Hvr.out g hg).1;omega);have hP2:Touch (fun b=>b=w3.heap.size∨(Value.slice qa nq qc).ownBlock=some b) w4 w5:=i2.grown hgrow (fun k hk=>.inl (.inr hk));have HP:=Lib.hid (And.intro hP1 (And.intro hP2 (fun h:L 7=false=>(i3 h).grown hgrow (fun e=>by have:=Hvr.out _ e.symm;omega))));have HG:=Lib.hid hgrow;have H5:=Lib.hid hown5;have H6:Hid (g≠w3.heap.size):=by
    unfold Hid;intro h;rcases hat with h'|h'
    ·have:=Hvr.out _ h';omega
    ·have:=hI0;omega
   have H7:Hid ((Value.slice qa nq qc).ownBlock=some g∨w4.heap.size≤g):=by
    rcases hat with h'|h'
    ·exact .inl h'
    ·exact .inr (by omega)
   clear i1 i2 i3 i4 i5 hP1 hP2 hgrow hown5 hat HI;go_wp2_with fail;refine step3_done rfl ?_ ?_ ?_
   ·exact(toI HIp ⟨HP.out.1,HP.out.2.1,HP.out.2.2,fun h=>absurd h (by simp[setB]),fun h:L 7=true=>absurd ((HL.out.2 7 (by simp)).symm.trans h) (by simp)⟩)
   ·exact HG.out
   ·exact(toV HV ⟨_,_,rfl,H5.out,H6.out,H7.out⟩)
  ·clear hV;have HI:=Lib.hid hI;clear hI;go_wp2_with fail;refine step3_done rfl ?_ ?_ ?_
   ·exact(toI HIp HI.out)
   ·exact(Below.refl _ _)
   ·exact(toV HV rfl)
  ·obtain⟨⟨g5,c5,u5,o5,n5,t5⟩,u6⟩:=hV;simp only[u5,u6];have U5:=Lib.hid u5;clear u5 u6;have b7:=hI.2.2.1 (hL.2 7 (by simp));have cW:W.cell? ⟨w3.heap.size,3,none⟩=some (Value.slice qa nq qc):=b7.cell 3;have fW:=b7.frozen 3;have HI:=Lib.hid hI;have HL:=Lib.hid hL;have B7:=Lib.hid b7;have O5:=Lib.hid o5;have T5:=Lib.hid t5;clear hI hL b7 o5 t5;go_wp2_with fail;obtain⟨i1,i2,i3,i4,i5⟩:=HI.out;have ht:∀u,Touch (fun b=>b=w3.heap.size) W (W.setCell ⟨w3.heap.size,3,none⟩ u):=fun u=>Touch.setCell (S:=fun b=>b=w3.heap.size) (Touch.refl _ _) (.inl rfl) _;have hk5:∀k,(Value.slice (some ⟨g5,0,none⟩) (lq.length+1) c5).ownBlock=some k→(Value.slice qa nq qc).ownBlock=some k∨w4.heap.size≤k:=fun k hk=>by
    obtain rfl:g5=k:=by simpa[Value.ownBlock]using hk
    exact T5.out
   refine step3_done (v:=undef) rfl ?_ ?_ ?_
   ·exact(toI HIp ⟨i1.setCell (by simp only;omega) _,i2.setCell (.inl (.inl rfl)) _,(fun h=>absurd h (by simp[setB])),fun h:L 5=false=>absurd ((HL.out.1 5 (by simp)).symm.trans h) (by simp),fun _=>⟨_,B7.out.set 3 _,O5.out.touch (ht _) (fun k hk hs=>⟨by(first|omega|exact .inr hs),fun e=>n5 ((Option.some.inj (show some g5=some k from e)).trans hs)⟩),hk5⟩⟩)
   ·exact(ht _)
   ·exact(toV HV rfl)
 case fin=>
  intro x W L hL hI hV;replace hI:(Below w.heap.size w W∧Touch (fun b=>b=w3.heap.size∨(Value.slice qa nq qc).ownBlock=some b) w4 W∧(L 7=false→Blk (w3.heap.size) (.cells #[.int .i64 ep,.int .i64 nx,.slice sa ns sc,(Value.slice qa nq qc),.int .i64 he] 70 (0,0)) W)∧(L 5=false→Own (fun z=>(z<w2.heap.size∨(Value.slice sa ns sc).ownBlock=some z)∨z=w3.heap.size) (w2.heap.size) 44 (Value.slice qa nq qc) lq W)∧(L 7=true→∃v',Blk (w3.heap.size) (.cells #[.int .i64 ep,.int .i64 nx,.slice sa ns sc,v',.int .i64 he] 70 (0,0)) W∧Own (fun z=>(z<w2.heap.size∨(Value.slice sa ns sc).ownBlock=some z)∨z=w3.heap.size) (w2.heap.size) 44 v' (lq++[(⟨fk,fh,fe,o,ft⟩:Fr)]) W∧(∀k,v'.ownBlock=some k→(Value.slice qa nq qc).ownBlock=some k∨w4.heap.size≤k))):=ofI HIp hI;rw[HV.out]at hV;simp only[AllV,and_true]at hV;obtain⟨u0,u1,u2,⟨a3,c3,u3,r3⟩,⟨g4,a4,c4,u4,b4,l4,r4⟩,⟨g5,c5,u5,o5,n5,t5⟩,u6,u7⟩:=hV;simp only[getsD,List.getD_cons_succ,List.getD_cons_zero,List.length_cons,List.length_nil,List.range,List.range.loop,u0,u1,u2,u3,u4,u5,u6,u7,Act.put,List.setIfInBounds_toArray,List.set_cons_succ,List.set_cons_zero];clear u0 u1 u2 u3 u4 u5 u6 u7;clear r3 r4 b4 o5 t5;obtain⟨i1,i2,i3,i4,i5⟩:=hI;obtain⟨v',x3',hown',hrk⟩:=i5 (hL 7 (by simp));have HF5:Hid (Fl w2.heap.size w3.heap.size ⟨ep,nx,ls,lq++[(⟨fk,fh,fe,o,ft⟩:Fr)],he⟩ (.slice sa ns sc) v' W):=by
   refine⟨x3',?_,?_,fun e=>by have:=Hsr.out _ e;omega,by omega⟩
   ·refine(OwnO.of (HS4.out.touch i2 (fun k hk hs=>?_))).more (fun k hk hx=>?_)
    ·rcases hs with hs|hs
     ·exact⟨.inr (by omega),fun e=>by have:=Hsr.out _ e;omega⟩
     ·exact⟨.inl (.inr hs),fun e=>HNE'.out k e hs⟩
    ·rcases hx with hx|hx
     ·exact .inl (.inl hx)
     ·exact .inr (by omega)
   ·obtain⟨a',c',hv',hr'⟩:=(OwnO.of hown').rd (A:=fun z=>w2.heap.size≤z∧z<W.heap.size∧z≠w3.heap.size∧(Value.slice sa ns sc).ownBlock≠some z) (fun z hz hx=>⟨by omega,hz,fun e=>hx (.inr e),fun e=>hx (.inl (.inr e))⟩) (fun k hk=>by
     have hrr:=hown'.rowlt k hk;rcases hrk k hk with h|h
     ·have:=Hvr.out k h;exact⟨hrr.1,hrr.2,this.2.2,fun e=>HNE'.out k e h⟩
     ·exact⟨hrr.1,hrr.2,by omega,fun e=>by have:=Hsr.out k e;omega⟩)
    exact⟨a',c',hv',hr'⟩
  have HW:Hid (Below w.heap.size w W):=i1;have Z5:Hid (Blk (w.heap.size+1+1) (.cells #[.int .i64 0,.int .i64 0,.slice none 0 0,.slice none 0 0,.int .i64 0] 70 (0,0)) W):=Z4.out.touch i2 (by
   rintro(h|h)
   ·omega
   ·have:=(Hvr.out _ h).1;omega)
  have hzW:=x3'.lt;clear i1 i2 i3 i4 i5 x3' hown' hL hrk;go_wp2_with fail;refine(HFill.out _ _ _ _ _ HF5.out).mono ?_;rintro e w6 ⟨pa,pc,sv6,qv6,rfl,r6,f6,t6,-⟩;obtain⟨sa6,sc6,qa6,qc6,rfl,rfl,rs6,rq6⟩:=f6.res;obtain⟨c0,c1,c2,c3,c4⟩:=blk_cells5 f6.box;have hz6:=t6.size;have z6:=Z5.out.touch t6 (by
   rintro(h|h)
   ·omega
   ·have:=(Hsr.out _ h).1;omega)
  obtain⟨p0,p1,p2,p3,p4⟩:=blk_cells5 z6;have pf:=z6.frozen;have hz6b:=z6.lt;have hz6c:=f6.box.lt;have hb6:Below w.heap.size w w6:=HW.out.trans (t6.toBelow (by omega) (fun k hk=>by
   rcases hk with hk|hk
   ·omega
   ·have:=(Hsr.out _ hk).1;omega))
  have T6:=touch5 w6 (w.heap.size+1+1) (.int .i64 lp.epoch) (.int .i64 lp.next) (.slice sa6 lp.sent.length sc6) (.slice qa6 lp.queue.length qc6) (.int .i64 lp.heard);have G:=Lib.hid (And.intro (blk_set5 z6 (.int .i64 lp.epoch) (.int .i64 lp.next) (.slice sa6 lp.sent.length sc6) (.slice qa6 lp.queue.length qc6) (.int .i64 lp.heard)) (Hend.out sa6 sc6 qa6 qc6 pa pc _ (rs6.mono fun z hz=>⟨⟨by omega,Nat.lt_of_lt_of_le hz.2.1 T6.size⟩,T6.block z hz.2.1 (by omega)⟩) (rq6.mono fun z hz=>⟨⟨by omega,Nat.lt_of_lt_of_le hz.2.1 T6.size⟩,T6.block z hz.2.1 (by omega)⟩) (r6.mono fun z hz=>⟨⟨by omega,Nat.lt_of_lt_of_le hz.2 T6.size⟩,T6.block z hz.2 (by omega)⟩) (hb6.trans (T6.toBelow (by omega) (fun k hk=>by omega)))));clear HFill HF5 HW Z5 r6 f6 t6 rs6 rq6 z6 hb6 T6 Hend;generalize lp.sent.length=s6 at*;generalize lp.queue.length=q6 at*;generalize (lp.pks ns).length=np at*;generalize lp.epoch=ep6 at*;generalize lp.next=nx6 at*
  generalize lp.heard=he6 at*;go_wp2_with fail;refine abs_ret (fun W=>Blk (w.heap.size+1+1) (.cells #[.int .i64 ep6,.int .i64 nx6,.slice sa6 s6 sc6,.slice qa6 q6 qc6,.int .i64 he6] 70 (0,0)) W∧SP (.returned (.tuple #[.agg #[.int .i64 ep6,.int .i64 nx6,.slice sa6 s6 sc6,.slice qa6 q6 qc6,.int .i64 he6],.slice pa np pc,.int .i64 0])) W) G.out ?_;rintro W9 ⟨y1,y2⟩;obtain⟨k0,k1,k2,k3,k4⟩:=blk_cells5 y1;exact bodyPost_ret (v:=.tuple #[.agg #[.int .i64 ep6,.int .i64 nx6,.slice sa6 s6 sc6,.slice qa6 q6 qc6,.int .i64 he6],.slice pa np pc,.int .i64 0]) (by simp[results,Tryd.results71,go_sem,k0,k1,k2,k3,k4]) rfl y2
theorem lkSend_any (l:Lk)(f:Fr)(a b fa:Option Addr)(n c m d fn fc:Nat)(w:World)(hg:Good w)(hr:RdS (· <w.heap.size) w l.sent a n c)(hq:RdS (· <w.heap.size) w l.queue b m d)(hfr:RdS (· <w.heap.size) w f.op fa fn fc)(hl:l.fits)(hf:f.fits)(hm:m≤1000000):
 Calls Tryd.prog 71 #[.agg #[.int .i64 l.epoch,.int .i64 l.next,.slice a n c,.slice b m d,.int .i64 l.heard],.agg #[.int .i64 f.kind,.int .i64 f.heard,.int .i64 f.epoch,.slice fa fn fc,.string f.text]] w (LkPksP (l.sendL f) (l.sendP f) (l.sendE f) w):=by
 by_cases hE:l.sendE f=0
 ·have e1:l.sendL f=l.push f:=if_pos hE;have e2:l.sendP f=(l.push f).pks l.sent.length:=if_pos hE;rw[e1,e2,hE];exact lkSend_ok l f a b fa n c m d fn fc w hg hr hq hfr hl hf hm hE
 ·have e1:l.sendL f=noLk:=if_neg hE;have e2:l.sendP f=[]:=if_neg hE;rw[e1,e2];refine(lkSend_bad l f a b fa n c m d fn fc w hg hr hq hfr hl hf hE).mono ?_;rintro e w' ⟨rfl,h⟩;exact⟨none,0,none,0,none,0,rfl,RdS.nil _ _,RdS.nil _ _,RdS.nil _ _,h⟩
end Go.Proofs.YtkbfhgcjimfgkaaDoor
