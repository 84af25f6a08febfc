/- The walk of a turn's session: a packet of the session of a side. -/
import Derived.Test.YtkbfhgcjimfgkaaDoorPartC7
import Derived.Test.YtkbfhgcjimfgkaaDoorPartB3
import Derived.Test.YtkbfhgcjimfgkaaDoorPartC0
set_option linter.unusedVariables false
set_option linter.unusedSimpArgs false
set_option linter.unusedSimpArgs false
namespace Go.Proofs.YtkbfhgcjimfgkaaDoor
open Go.RowKit
theorem WkG.sideThere {base g:Nat}{t:Tn}{us vs:Nat→Value}{w:World}{s r o c:Nat}(h:WkG base g t us vs w)(hs:s<t.node.sides.length)(hv:vs 0=.slice (some ⟨r,o,none⟩) t.node.sides.length c):
 (∀j,j<10→∃v,w.cell? ⟨r,o+s*10+j,none⟩=some v)∧(∀j,j<10→w.frozen? ⟨r,o+s*10+j,none⟩=false)∧r<w.heap.size:=by
 obtain⟨r',o',c',xs,hv',h1,hr',h2,hn',hm',hrd',hcs',hfz'⟩:=h.side s hs;rw[hv]at hv';injection hv' with e1 e2 e3;injection e1 with e1;injection e1 with e4 e5;subst e3 e4 e5;have hl:=Rep.len hrd';refine⟨fun j hj=>⟨xs[j]'(by rw[hl];exact hj),hcs' j _ (List.getElem?_eq_getElem _)⟩,fun j hj=>?_,hr'⟩;have h3:=hfz' (s*10+j) (by omega);rwa[←Nat.add_assoc]at h3
theorem hearP_len {l:Lk}{p:Pkt}(h:l.hearE p=0):(l.hearP p).length≤9:=by
 obtain⟨h1,h2,h3,h4⟩:=hearE_zero h;obtain⟨a1,a2,a3,a4,a5,a6,a7,a8,a9,a10,a11,a12⟩:=lk_zero h1;obtain⟨s1,s2⟩:=l.acked_sub p.ack;have hF:Filled (l.behind p) (l.behind p).filled:=Lk.filled_all _ (by show(l.acked p.ack).length≤8;omega) a4;unfold Lk.hearP;rw[if_pos h,List.length_append,pks_len];have:=hF.s8;split<;>simp<;>omega
theorem hearL_fits {l:Lk}{p:Pkt}{b:Int}(h:l.hearE p=0)(hb:l.next+l.queue.length≤b)(hb1:b<1000000):(l.hearL p).fits:=by
 obtain⟨k1,-⟩:=hearL_ok h hb hb1;obtain⟨a1,a2,a3,a4,a5,a6,-⟩:=lk_zero k1;exact⟨⟨by omega,by omega⟩,⟨by omega,by omega⟩,⟨by omega,by omega⟩⟩
set_option maxRecDepth 100000 in
set_option maxHeartbeats 8000000 in
theorem ndSession_any (p:Pkt)(hHl:p.f.kind=1→HeardLaw p.f)(tr:List Int)(b0:Int)(base g:Nat)(t:Tn)(vs:Nat→Value)(s:Nat)(fa:Option Addr)(fc:Nat)(w:World)(hg:Good w)(h:WkM base g t vs w)(hs:s<t.node.sides.length)(hr:RdS (NM g vs w) w p.f.op fa p.f.op.length fc)(hp:p.fits)(hG:NG tr b0 t.node)(hb:b0<800000)(hpo:t.posts.length≤900)(hre:t.recs.length≤1000):
 Calls Tryd.prog 40 #[.pointer (some ⟨g,0,none⟩),.int .i64 (s:Int),.agg #[.int .i64 p.epoch,.int .i64 p.number,.bool p.bare,.int .i64 p.ack,.int .i64 p.f.kind,.int .i64 p.f.heard,.int .i64 p.f.epoch,.slice fa p.f.op.length fc,.string p.f.text]] w fun e w'=>e=.returned (.tuple #[])∧WkS base g (t.session s p) vs w w':=by
 have HHl:=Lib.hid hHl;clear hHl;have HNP:=Lib.hid (fun W=>node_ptr g W);have HM:=Lib.hid h;have Hg:=Lib.hid hg;obtain⟨sr,so,sc0,xs,hv0,hb1,hsr0,hrg,hnc,hcm,hrd,hcs,hfz⟩:=h.side s hs;obtain⟨ea,ec,la,lc,qa0,qc0,rfl,hre1,hre2,hre3,hpe,hef,hlf⟩:=hrd;obtain⟨SD,hSD⟩:∃SD,SD=t.node.sides[s]:=⟨_,rfl⟩;have hSD2:t.side s=SD:=by rw[hSD];exact t.side_get s hs
 rw[←hSD]at hre1 hre2 hre3 hpe hef hlf hcs;obtain⟨hside,hsdb,-⟩:=hG.at hs;rw[hSD2]at hside hsdb;obtain⟨LK,hLK⟩:∃LK,LK=SD.l.hearL p:=⟨_,rfl⟩;obtain⟨FR,hFR⟩:∃FR,FR=SD.l.hearF p:=⟨_,rfl⟩;obtain⟨PS,hPS⟩:∃PS,PS=SD.l.hearP p:=⟨_,rfl⟩;obtain⟨TD,hTD⟩:∃TD,TD=SD.l.told p:=⟨_,rfl⟩;obtain⟨E,hEq⟩:∃E,E=SD.l.hearE p:=⟨_,rfl⟩;have hq:SD.l.queue.length≤1000000:=by
  have h3:=(lk_zero (sideOk_all hside).2.1).2.2.1;have:=hsdb.2.2.1;omega
 have HLh0:Hid (∀W,Below w.heap.size w W→Calls Tryd.prog 66 #[.agg #[.int .i64 SD.l.epoch,.int .i64 SD.l.next,.slice la SD.l.sent.length lc,.slice qa0 SD.l.queue.length qc0,.int .i64 SD.l.heard],.agg #[.int .i64 p.epoch,.int .i64 p.number,.bool p.bare,.int .i64 p.ack,.int .i64 p.f.kind,.int .i64 p.f.heard,.int .i64 p.f.epoch,.slice fa p.f.op.length fc,.string p.f.text]] W fun e w'=>∃sa sc qa qc xa xc pa pc,e=.returned (.tuple #[.agg #[.int .i64 LK.epoch,.int .i64 LK.next,.slice sa LK.sent.length sc,.slice qa LK.queue.length qc,.int .i64 LK.heard],.agg #[.int .i64 FR.kind,.int .i64 FR.heard,.int .i64 FR.epoch,.slice xa FR.op.length xc,.string FR.text],.bool TD,.slice pa PS.length pc,.int .i64 E])∧
  RdS (fun z=>W.heap.size≤z∧z<w'.heap.size) w' LK.sent sa LK.sent.length sc∧RdS (fun z=>W.heap.size≤z∧z<w'.heap.size) w' LK.queue qa LK.queue.length qc∧RdS (fun z=>W.heap.size≤z∧z<w'.heap.size) w' FR.op xa FR.op.length xc∧RdS (fun z=>W.heap.size≤z∧z<w'.heap.size) w' PS pa PS.length pc∧Below W.heap.size W w'):=by
  unfold Hid;intro W hW;have h1:=lkHear_any SD.l p la qa0 fa SD.l.sent.length lc SD.l.queue.length qc0 p.f.op.length fc W (hg.go hW) ((hre2.mono (w':=w) (A':=fun z=>z<w.heap.size) fun z hz=>⟨hz.1,rfl⟩).go hW) ((hre3.mono (w':=w) (A':=fun z=>z<w.heap.size) fun z hz=>⟨hz.1,rfl⟩).go hW) ((hr.mono (w':=w) (A':=fun z=>z<w.heap.size) fun z hz=>⟨hz.1,rfl⟩).go hW) hlf hp hq;rw[hLK,hFR,hPS,hTD,hEq];exact h1
 have HK:Hid (E=0→LK.fits∧PS.length≤9):=fun hE=>by
  rw[hEq]at hE;rw[hLK,hPS];exact⟨hearL_fits hE hsdb.2.2.1 (by omega),hearP_len hE⟩
 have HT:Hid (E=0→TD=true→FR=p.f∧FR.fits∧NG tr (b0+1) (t.linked s p).node∧(t.linked s p).posts.length≤1000):=fun hE hT=>by
  rw[hEq]at hE;have hF:FR=p.f:=by rw[hFR];unfold Lk.hearF;rw[if_pos (by rw[←hTD];exact hT)]
  refine⟨hF,by rw[hF];exact hp.2.2.2,hG.linked hs (by omega) (by rw[hSD2];exact hE),?_⟩
  show(t.posts++_).length≤1000
  rw[List.length_append,List.length_map,hSD2];have:=hearP_len hE;omega
 have HLq:Hid (LK=(t.side s).l.hearL p):=by rw[hSD2];exact hLK
 have HFq:Hid (FR=(t.side s).l.hearF p):=by rw[hSD2];exact hFR
 have HPq:Hid (PS=(t.side s).l.hearP p):=by rw[hSD2];exact hPS
 have HTq:Hid (TD=(t.side s).l.told p):=by rw[hSD2];exact hTD
 have HEq:Hid (E=(t.side s).l.hearE p):=by rw[hSD2];exact hEq
 have HV0:=Lib.hid hv0;have HSL:=Lib.hid hs;obtain⟨N,hN⟩:∃N,N=t.node.sides.length:=⟨_,rfl⟩;rw[←hN]at hnc hs;have HC0:Hid (w.cell? ⟨sr,so+s*10+5,none⟩=some (.int .i64 SD.l.epoch)∧w.cell? ⟨sr,so+s*10+5+1,none⟩=some (.int .i64 SD.l.next)∧w.cell? ⟨sr,so+s*10+5+2,none⟩=some (.slice la SD.l.sent.length lc)∧w.cell? ⟨sr,so+s*10+5+3,none⟩=some (.slice qa0 SD.l.queue.length qc0)∧w.cell? ⟨sr,so+s*10+5+4,none⟩=some (.int .i64 SD.l.heard)):=⟨hcs 5 _ rfl,hcs 6 _ rfl,hcs 7 _ rfl,hcs 8 _ rfl,hcs 9 _ rfl⟩;have hsN:(s:Int)<(N:Int):=by omega
 have hNc:(N:Int)≤(sc0:Int):=by omega
 have hcm2:(sc0:Int)≤9223372036854775807:=by unfold maxLen at hcm;omega
 have HG:=Lib.hid (And.intro hb (And.intro hpo hre));have HN:=Lib.hid hN;have hgl:=h.lt;have hgb:=h.gb;clear h hg hr hre1 hre2 hre3 hpe hef hlf hcs hfz hLK hFR hPS hTD hEq hv0 hN hG hb hpo hre hSD hSD2 hp hside hsdb hq;go_enter Tryd.func40,Tryd.ntmps40;go_wp2_with fail;refine abs_run (fun W=>Below w.heap.size w W∧Blk w.heap.size (.cells #[.int .i64 p.epoch,.int .i64 p.number,.bool p.bare,.int .i64 p.ack,.int .i64 p.f.kind,.int .i64 p.f.heard,.int .i64 p.f.epoch,.slice fa p.f.op.length fc,.string p.f.text] 46 (0,0)) W) ⟨(Below.refl _ _).alloc (Nat.le_refl _) _,Blk.new w _⟩ ?_;rintro w1 ⟨bb1,x1⟩;have B1:=Lib.hid bb1;have X1:=Lib.hid x1;have M1:=Lib.hid (HM.out.go bb1);have p5:w1.cell? ⟨g,5,none⟩=some (.slice (some ⟨sr,so,none⟩) N sc0):=(M1.out.box.cell 5).trans (congrArg some (show vs 0=.slice (some ⟨sr,so,none⟩) N sc0 from by rw[HV0.out,HN.out]));have HC:Hid (w1.cell? ⟨sr,so+s*10+5,none⟩=some (.int .i64 SD.l.epoch)∧w1.cell? ⟨sr,so+s*10+5+1,none⟩=some (.int .i64 SD.l.next)∧w1.cell? ⟨sr,so+s*10+5+2,none⟩=some (.slice la SD.l.sent.length lc)∧w1.cell? ⟨sr,so+s*10+5+3,none⟩=some (.slice qa0 SD.l.queue.length qc0)∧w1.cell? ⟨sr,so+s*10+5+4,none⟩=some (.int .i64 SD.l.heard)):=⟨(bb1.cell (p:=⟨sr,so+s*10+5,none⟩) hsr0).trans HC0.out.1,(bb1.cell (p:=⟨sr,so+s*10+5+1,none⟩) hsr0).trans HC0.out.2.1,(bb1.cell (p:=⟨sr,so+s*10+5+2,none⟩) hsr0).trans HC0.out.2.2.1,(bb1.cell (p:=⟨sr,so+s*10+5+3,none⟩) hsr0).trans HC0.out.2.2.2.1,(bb1.cell (p:=⟨sr,so+s*10+5+4,none⟩) hsr0).trans HC0.out.2.2.2.2⟩;have HLh:=Lib.hid (fun W (hW:Below w1.heap.size w1 W)=>HLh0.out W (up B1.out hW));have hz01:=bb1.size;have hsr:sr<w1.heap.size:=by omega
 have hgl1:g<w1.heap.size:=by omega
 clear bb1 x1 HC0 HLh0;refine(HNP.out w1).mono ?_;rintro e w2 ⟨rfl,rfl⟩;go_upto_region 2 with fail;obtain⟨Vp,HV⟩:∃Vp:Nat→Value→World→Prop,Hid (Vp=fun i v W=>match i with
  |0=>v=.pointer (some ⟨sr,so+s*10,none⟩)
  |1=>v=.pointer (some ⟨sr,so+s*10,none⟩)
  |2=>v=.pointer (some ⟨sr,so+s*10+5,none⟩)
  |3=>v=.agg #[.int .i64 SD.l.epoch,.int .i64 SD.l.next,.slice la SD.l.sent.length lc,.slice qa0 SD.l.queue.length qc0,.int .i64 SD.l.heard]
  |4=>v=.agg #[.int .i64 p.epoch,.int .i64 p.number,.bool p.bare,.int .i64 p.ack,.int .i64 p.f.kind,.int .i64 p.f.heard,.int .i64 p.f.epoch,.slice fa p.f.op.length fc,.string p.f.text]
  |5=>∃y,v=y
  |6=>∃y,v=y
  |7=>∃y,v=y
  |8=>∃y,v=y
  |9=>v=.bool TD
  |10=>∃y,v=y
  |11=>v=.int .i64 E
  |12=>∃y,v=y
  |13=>∃y,v=y
  |14=>v=undef
  |15=>v=undef
  |16=>v=.bool TD
  |17=>∃y,v=y
  |_=>v=.int .i64 E):=⟨_,rfl⟩
 obtain⟨Ip,HIp⟩:∃Ip:(Nat→Bool)→(Nat→Value)→World→Prop,Hid (Ip=fun L x W=>(Below w1.heap.size w1 W∧∃(sa:Option Addr)(sc:Nat)(qa:Option Addr)(qc:Nat)(xa:Option Addr)(xc:Nat)(pa:Option Addr)(pc:Nat),(L 5=true→x 5=.tuple #[.agg #[.int .i64 LK.epoch,.int .i64 LK.next,.slice sa LK.sent.length sc,.slice qa LK.queue.length qc,.int .i64 LK.heard],.agg #[.int .i64 FR.kind,.int .i64 FR.heard,.int .i64 FR.epoch,.slice xa FR.op.length xc,.string FR.text],.bool TD,.slice pa PS.length pc,.int .i64 E]∧RdS (fun z=>w1.heap.size≤z∧z<W.heap.size∧(L 12=true→x 12≠.pointer (some ⟨z,0,none⟩))∧(L 13=true→x 13≠.pointer (some ⟨z,0,none⟩))) W LK.sent sa LK.sent.length sc∧RdS (fun z=>w1.heap.size≤z∧z<W.heap.size∧(L 12=true→x 12≠.pointer (some ⟨z,0,none⟩))∧(L 13=true→x 13≠.pointer (some ⟨z,0,none⟩))) W LK.queue qa LK.queue.length qc∧RdS (fun z=>w1.heap.size≤z∧z<W.heap.size∧(L 12=true→x 12≠.pointer (some ⟨z,0,none⟩))∧(L 13=true→x 13≠.pointer (some ⟨z,0,none⟩))) W FR.op xa FR.op.length xc∧RdS (fun z=>w1.heap.size≤z∧z<W.heap.size∧(L 12=true→x 12≠.pointer (some ⟨z,0,none⟩))∧(L 13=true→x 13≠.pointer (some ⟨z,0,none⟩))) W PS pa PS.length pc)∧(L 12=true→∃b,x 12=.pointer (some ⟨b,0,none⟩)∧w1.heap.size≤b∧Blk b (.cells (bif L 14 then #[.int .i64 LK.epoch,.int .i64 LK.next,.slice sa LK.sent.length sc,.slice qa LK.queue.length qc,.int .i64 LK.heard]else #[.int .i64 0,.int .i64 0,.slice none 0 0,.slice none 0 0,.int .i64 0]) 70 (0,0)) W)∧(L 13=true→∃b,x 13=.pointer (some ⟨b,0,none⟩)∧w1.heap.size≤b∧Blk b (.cells (bif L 15 then #[.int .i64 FR.kind,.int .i64 FR.heard,.int .i64 FR.epoch,.slice xa FR.op.length xc,.string FR.text]else #[.int .i64 0,.int .i64 0,.int .i64 0,.slice none 0 0,.string ⟨#[]⟩]) 44 (0,0)) W)∧(L 12=true→L 13=true→x 12≠x 13)∧(L 6=true→x 6=x 5)∧(L 7=true→x 7=.agg #[.int .i64 LK.epoch,.int .i64 LK.next,.slice sa LK.sent.length sc,.slice qa LK.queue.length qc,.int .i64 LK.heard])∧(L 8=true→x 8=.agg #[.int .i64 FR.kind,.int .i64 FR.heard,.int .i64 FR.epoch,.slice xa FR.op.length xc,.string FR.text])∧(L 10=true→x 10=.slice pa PS.length pc)∧(L 17=true→x 17=.slice pa PS.length pc))):=⟨_,rfl⟩;refine region_lit3 (by kernel_rfl) (by kernel_rfl) (by kernel_rfl) [[],[0],[0,1],[0,1,2],[],[0,1,2,3,4],[0,1,2,3,4,5],[0,1,2,3,4,5,6],[0,1,2,3,4,5,6],[0,1,2,3,4,5,6],[0,1,2,3,4,5,6],[0,1,2,3,4,5,6],[],[],[0,1,2,3,4,5,6,7,12],[0,1,2,3,4,5,6,8,13],[0,1,2,3,4,5,6,9],[0,1,2,3,4,5,6,10],[0,1,2,3,4,5,6,11]] (by kernel_rfl) [some 20,some 21,some 22,some 23,some 24,some 25,some 19,some 26,some 27,some 28,some 29,some 30,some 7,some 8,none,none,some 9,some 10,some 11] (by kernel_rfl) [[0,1,2,3,5,6,7,8,9,10,11,14,15,16,17,18],[1,2,3,5,6,7,8,9,10,11,14,15,16,17,18],[2,3,5,6,7,8,9,10,11,14,15,16,17,18],[3,5,6,7,8,9,10,11,14,15,16,17,18],[4,5,6,7,8,9,10,11,14,15,16,17,18],[5,6,7,8,9,10,11,14,15,16,17,18],[6,7,8,9,10,11,14,15,16,17,18],[7,14],[8,15],[9,16],[10,17],[11,18],[12,14],[13,15],[14],[15],[16],[17],[18]] (by kernel_rfl) [[],[],[],[],[],[],[],[],[],[],[],[],[],[],[],[],[],[],[]] [[],[0],[1],[2],[],[3,4],[5],[5,6],[5,6],[5,6],[5,6],[5,6],[],[],[7,12],[8,13],[9],[10],[11]] (by kernel_rfl)
  Ip
  Vp
  (fun j W W'=>match j with
   |14=>True
   |15=>True
   |_=>Below W.heap.size W W')
  [fun x=>⟨(fZm 6 (.pointer (some ⟨sr,so+s*10,none⟩)) (fEm 14)).toArray,[]⟩,fun x=>⟨(fZm 20 (x 0) (fEm 1)).toArray,[]⟩,fun x=>⟨(fZm 21 (x 1) (fEm 1)).toArray,[]⟩,fun x=>⟨(fZm 22 (x 2) (fEm 1)).toArray,[]⟩,fun x=>⟨(fZm 5 (.pointer (some ⟨w.heap.size,0,none⟩)) (fEm 19)).toArray,[]⟩,fun x=>⟨(fZm 23 (x 3) (fZm 0 (x 4) (fEm 1))).toArray,[]⟩,fun x=>⟨(fZm 25 (x 5) []).toArray,[]⟩,fun x=>⟨(fZm 19 (x 6) (fEm 7)).toArray,[]⟩,fun x=>⟨(fZm 19 (x 6) (fEm 8)).toArray,[]⟩,fun x=>⟨(fZm 19 (x 6) (fEm 9)).toArray,[]⟩,fun x=>⟨(fZm 19 (x 6) (fEm 10)).toArray,[]⟩,fun x=>⟨(fZm 19 (x 6) (fEm 11)).toArray,[]⟩,fun x=>⟨(fEm 8).toArray,[]⟩,fun x=>⟨(fEm 9).toArray,[]⟩,fun x=>⟨(fZm 7 (x 12) (fZm 18 (x 7) [])).toArray,[]⟩,fun x=>⟨(fZm 8 (x 13) (fZm 18 (x 8) [])).toArray,[]⟩,fun x=>⟨(fZm 28 (x 9) []).toArray,[]⟩,fun x=>⟨(fZm 29 (x 10) []).toArray,[]⟩,fun x=>⟨(fZm 30 (x 11) []).toArray,[]⟩]
  ?hF ?mono ?h0 ?step [0,1,2,3,4,5,6,7,8,9,10,11,12,13,14,15,16,17,18] (by kernel_rfl) ?fin
 case hF=>
  iterate 19 refine⟨fun x=>⟨by kernel_rfl,by kernel_rfl⟩,?_⟩
  trivial
 case mono=>
  intro i j hi hj hne hna hnk v W W' hE hv;rw[HV.out]at hv⊢;simp only[List.length_cons,List.length_nil]at hi hj
  match i,hi with
  |0,_|1,_|2,_|3,_|4,_|9,_|11,_|14,_|15,_|16,_|18,_=>exact hv
  |5,_=>
   match j,hj with
   |5,_=>exact absurd rfl hne
   |0,_|1,_|2,_|3,_|4,_=>exact absurd (by simp) hna
   |6,_|7,_|8,_|9,_|10,_|11,_|12,_|13,_|14,_|15,_|16,_|17,_|18,_=>exact(id hv)
   |m+19,h=>exact absurd h (by omega)
  |6,_=>
   match j,hj with
   |6,_=>exact absurd rfl hne
   |0,_|1,_|2,_|3,_|4,_|5,_=>exact absurd (by simp) hna
   |7,_|8,_|9,_|10,_|11,_|12,_|13,_|14,_|15,_|16,_|17,_|18,_=>exact(id hv)
   |m+19,h=>exact absurd h (by omega)
  |7,_=>
   match j,hj with
   |7,_=>exact absurd rfl hne
   |0,_|1,_|2,_|3,_|4,_|5,_|6,_=>exact absurd (by simp) hna
   |8,_|9,_|10,_|11,_|12,_|13,_|14,_|15,_|16,_|17,_|18,_=>exact(id hv)
   |m+19,h=>exact absurd h (by omega)
  |8,_=>
   match j,hj with
   |8,_=>exact absurd rfl hne
   |0,_|1,_|2,_|3,_|4,_|5,_|6,_=>exact absurd (by simp) hna
   |7,_|9,_|10,_|11,_|12,_|13,_|14,_|15,_|16,_|17,_|18,_=>exact(id hv)
   |m+19,h=>exact absurd h (by omega)
  |10,_=>
   match j,hj with
   |10,_=>exact absurd rfl hne
   |0,_|1,_|2,_|3,_|4,_|5,_|6,_=>exact absurd (by simp) hna
   |7,_|8,_|9,_|11,_|12,_|13,_|14,_|15,_|16,_|17,_|18,_=>exact(id hv)
   |m+19,h=>exact absurd h (by omega)
  |12,_=>
   match j,hj with
   |12,_=>exact absurd rfl hne
   |0,_|1,_|2,_|3,_|4,_|5,_|6,_|7,_|8,_|9,_|10,_|11,_|13,_|14,_|15,_|16,_|17,_|18,_=>exact(id hv)
   |m+19,h=>exact absurd h (by omega)
  |13,_=>
   match j,hj with
   |13,_=>exact absurd rfl hne
   |0,_|1,_|2,_|3,_|4,_|5,_|6,_|7,_|8,_|9,_|10,_|11,_|12,_|14,_|15,_|16,_|17,_|18,_=>exact(id hv)
   |m+19,h=>exact absurd h (by omega)
  |17,_=>
   match j,hj with
   |17,_=>exact absurd rfl hne
   |0,_|1,_|2,_|3,_|4,_|5,_|6,_|10,_=>exact absurd (by simp) hna
   |7,_|8,_|9,_|11,_|12,_|13,_|14,_|15,_|16,_|18,_=>exact(id hv)
   |m+19,h=>exact absurd h (by omega)
  |m+19,h=>exact absurd h (by omega)
 case h0=>intro x;exact toI HIp ⟨(Below.refl _ _).drew,none,0,none,0,none,0,none,0,(fun h=>by cases h),(fun h=>by cases h),(fun h=>by cases h),(fun h=>by cases h),(fun h=>by cases h),(fun h=>by cases h),(fun h=>by cases h),(fun h=>by cases h),(fun h=>by cases h)⟩
 case step=>
  refine⟨?_,?_,?_,?_,?_,?_,?_,?_,?_,?_,?_,?_,?_,?_,?_,?_,?_,?_,?_,trivial⟩
  all_goals
   intro x W L hI hL hV;replace hI:(Below w1.heap.size w1 W∧∃(sa:Option Addr)(sc:Nat)(qa:Option Addr)(qc:Nat)(xa:Option Addr)(xc:Nat)(pa:Option Addr)(pc:Nat),(L 5=true→x 5=.tuple #[.agg #[.int .i64 LK.epoch,.int .i64 LK.next,.slice sa LK.sent.length sc,.slice qa LK.queue.length qc,.int .i64 LK.heard],.agg #[.int .i64 FR.kind,.int .i64 FR.heard,.int .i64 FR.epoch,.slice xa FR.op.length xc,.string FR.text],.bool TD,.slice pa PS.length pc,.int .i64 E]∧RdS (fun z=>w1.heap.size≤z∧z<W.heap.size∧(L 12=true→x 12≠.pointer (some ⟨z,0,none⟩))∧(L 13=true→x 13≠.pointer (some ⟨z,0,none⟩))) W LK.sent sa LK.sent.length sc∧RdS (fun z=>w1.heap.size≤z∧z<W.heap.size∧(L 12=true→x 12≠.pointer (some ⟨z,0,none⟩))∧(L 13=true→x 13≠.pointer (some ⟨z,0,none⟩))) W LK.queue qa LK.queue.length qc∧RdS (fun z=>w1.heap.size≤z∧z<W.heap.size∧(L 12=true→x 12≠.pointer (some ⟨z,0,none⟩))∧(L 13=true→x 13≠.pointer (some ⟨z,0,none⟩))) W FR.op xa FR.op.length xc∧RdS (fun z=>w1.heap.size≤z∧z<W.heap.size∧(L 12=true→x 12≠.pointer (some ⟨z,0,none⟩))∧(L 13=true→x 13≠.pointer (some ⟨z,0,none⟩))) W PS pa PS.length pc)∧(L 12=true→∃b,x 12=.pointer (some ⟨b,0,none⟩)∧w1.heap.size≤b∧Blk b (.cells (bif L 14 then #[.int .i64 LK.epoch,.int .i64 LK.next,.slice sa LK.sent.length sc,.slice qa LK.queue.length qc,.int .i64 LK.heard]else #[.int .i64 0,.int .i64 0,.slice none 0 0,.slice none 0 0,.int .i64 0]) 70 (0,0)) W)∧(L 13=true→∃b,x 13=.pointer (some ⟨b,0,none⟩)∧w1.heap.size≤b∧Blk b (.cells (bif L 15 then #[.int .i64 FR.kind,.int .i64 FR.heard,.int .i64 FR.epoch,.slice xa FR.op.length xc,.string FR.text]else #[.int .i64 0,.int .i64 0,.int .i64 0,.slice none 0 0,.string ⟨#[]⟩]) 44 (0,0)) W)∧(L 12=true→L 13=true→x 12≠x 13)∧(L 6=true→x 6=x 5)∧(L 7=true→x 7=.agg #[.int .i64 LK.epoch,.int .i64 LK.next,.slice sa LK.sent.length sc,.slice qa LK.queue.length qc,.int .i64 LK.heard])∧(L 8=true→x 8=.agg #[.int .i64 FR.kind,.int .i64 FR.heard,.int .i64 FR.epoch,.slice xa FR.op.length xc,.string FR.text])∧(L 10=true→x 10=.slice pa PS.length pc)∧(L 17=true→x 17=.slice pa PS.length pc)):=ofI HIp hI;rw[HV.out]at hV;simp only[AllV,and_true]at hV;dsimp only[fZm,fEm,List.reduceReplicate,List.cons_append,List.nil_append]
  ·clear hV;have HI:=Lib.hid hI;clear hI;go_wp2_with fail;refine step3_done rfl ?_ ?_ ?_
   ·exact(toI HIp HI.out)
   ·exact(Below.refl _ _)
   ·exact(toV HV rfl)
  ·have u0:=hV;clear hV;simp only[u0];clear u0;have HI:=Lib.hid hI;clear hI;go_wp2_with fail;refine step3_done rfl ?_ ?_ ?_
   ·exact(toI HIp HI.out)
   ·exact(Below.refl _ _)
   ·exact(toV HV rfl)
  ·have u1:=hV;clear hV;simp only[u1];clear u1;have HI:=Lib.hid hI;clear hI;go_wp2_with fail;refine step3_done rfl ?_ ?_ ?_
   ·exact(toI HIp HI.out)
   ·exact(Below.refl _ _)
   ·exact(toV HV rfl)
  ·have u2:=hV;clear hV;simp only[u2];clear u2;have z5:W.cell? ⟨sr,so+s*10+5,none⟩=some (.int .i64 SD.l.epoch):=(hI.1.cell (p:=⟨sr,so+s*10+5,none⟩) hsr).trans HC.out.1;have z6:W.cell? ⟨sr,so+s*10+5+1,none⟩=some (.int .i64 SD.l.next):=(hI.1.cell (p:=⟨sr,so+s*10+5+1,none⟩) hsr).trans HC.out.2.1;have z7:W.cell? ⟨sr,so+s*10+5+2,none⟩=some (.slice la SD.l.sent.length lc):=(hI.1.cell (p:=⟨sr,so+s*10+5+2,none⟩) hsr).trans HC.out.2.2.1;have z8:W.cell? ⟨sr,so+s*10+5+3,none⟩=some (.slice qa0 SD.l.queue.length qc0):=(hI.1.cell (p:=⟨sr,so+s*10+5+3,none⟩) hsr).trans HC.out.2.2.2.1;have z9:W.cell? ⟨sr,so+s*10+5+4,none⟩=some (.int .i64 SD.l.heard):=(hI.1.cell (p:=⟨sr,so+s*10+5+4,none⟩) hsr).trans HC.out.2.2.2.2;have HI:=Lib.hid hI;clear hI;go_wp2_with fail;refine step3_done rfl ?_ ?_ ?_
   ·exact(toI HIp HI.out)
   ·exact(Below.refl _ _)
   ·exact(toV HV rfl)
  ·clear hV;obtain⟨p0,p1,p2,p3,p4,p5,p6,p7,p8⟩:=blk9_cells (X1.out.go hI.1);have HI:=Lib.hid hI;clear hI;go_wp2_with fail;refine step3_done rfl ?_ ?_ ?_
   ·exact(toI HIp HI.out)
   ·exact(Below.refl _ _)
   ·exact(toV HV rfl)
  ·obtain⟨u3,u4⟩:=hV;simp only[u3,u4];clear u3 u4;have HL:=Lib.hid hL;have HI:=Lib.hid hI;have hzW:=hI.1.size;clear hI hL;go_wp2_with fail;refine(HLh.out W HI.out.1).mono ?_;rintro e W' ⟨sa',sc',qa',qc',xa',xc',pa',pc',rfl,r0,r1,r2,r3,hb⟩;have HB:=Lib.hid hb;have R0:=Lib.hid r0;have R1:=Lib.hid r1;have R2:=Lib.hid r2;have R3:=Lib.hid r3;clear hb r0 r1 r2 r3;go_wp2_with fail;obtain⟨hB0,_,_,_,_,_,_,_,_,c0,b0,b1,d01,m0,e_7,e_8,e_10,a_17⟩:=HI.out;refine step3_done rfl ?_ ?_ ?_
   ·exact toI HIp ⟨up hB0 HB.out,sa',sc',qa',qc',xa',xc',pa',pc',(fun _=>⟨rfl,R0.out.mono fun z hz=>⟨⟨Nat.le_trans hzW hz.1,hz.2,(fun h e=>(by obtain⟨b,e1,h4,h5⟩:=b0 h;have e2:=e1.symm.trans e;injection e2 with e2;injection e2 with e2;injection e2 with e2;have:=h5.lt;have:=hz.1;omega)),(fun h e=>(by obtain⟨b,e1,h4,h5⟩:=b1 h;have e2:=e1.symm.trans e;injection e2 with e2;injection e2 with e2;injection e2 with e2;have:=h5.lt;have:=hz.1;omega))⟩,rfl⟩,R1.out.mono fun z hz=>⟨⟨Nat.le_trans hzW hz.1,hz.2,(fun h e=>(by obtain⟨b,e1,h4,h5⟩:=b0 h;have e2:=e1.symm.trans e;injection e2 with e2;injection e2 with e2;injection e2 with e2;have:=h5.lt;have:=hz.1;omega)),(fun h e=>(by obtain⟨b,e1,h4,h5⟩:=b1 h;have e2:=e1.symm.trans e;injection e2 with e2;injection e2 with e2;injection e2 with e2;have:=h5.lt;have:=hz.1;omega))⟩,rfl⟩,R2.out.mono fun z hz=>⟨⟨Nat.le_trans hzW hz.1,hz.2,(fun h e=>(by obtain⟨b,e1,h4,h5⟩:=b0 h;have e2:=e1.symm.trans e;injection e2 with e2;injection e2 with e2;injection e2 with e2;have:=h5.lt;have:=hz.1;omega)),(fun h e=>(by obtain⟨b,e1,h4,h5⟩:=b1 h;have e2:=e1.symm.trans e;injection e2 with e2;injection e2 with e2;injection e2 with e2;have:=h5.lt;have:=hz.1;omega))⟩,rfl⟩,R3.out.mono fun z hz=>⟨⟨Nat.le_trans hzW hz.1,hz.2,(fun h e=>(by obtain⟨b,e1,h4,h5⟩:=b0 h;have e2:=e1.symm.trans e;injection e2 with e2;injection e2 with e2;injection e2 with e2;have:=h5.lt;have:=hz.1;omega)),(fun h e=>(by obtain⟨b,e1,h4,h5⟩:=b1 h;have e2:=e1.symm.trans e;injection e2 with e2;injection e2 with e2;injection e2 with e2;have:=h5.lt;have:=hz.1;omega))⟩,rfl⟩⟩),(fun h=>(by obtain⟨b,e,h1,h2⟩:=b0 h;have hs:=HL.out.2 14 (by simp);refine⟨b,e,h1,?_⟩;show Blk b (.cells (bif L 14 then _ else _) _ _) _;rw[hs]at h2⊢;exact h2.go HB.out)),(fun h=>(by obtain⟨b,e,h1,h2⟩:=b1 h;have hs:=HL.out.2 15 (by simp);refine⟨b,e,h1,?_⟩;show Blk b (.cells (bif L 15 then _ else _) _ _) _;rw[hs]at h2⊢;exact h2.go HB.out)),d01,(fun h=>absurd ((HL.out.2 6 (by simp)).symm.trans h) (by simp)),(fun h=>absurd ((HL.out.2 7 (by simp)).symm.trans h) (by simp)),(fun h=>absurd ((HL.out.2 8 (by simp)).symm.trans h) (by simp)),(fun h=>absurd ((HL.out.2 10 (by simp)).symm.trans h) (by simp)),(fun h=>absurd ((HL.out.2 17 (by simp)).symm.trans h) (by simp))⟩
   ·exact HB.out
   ·exact toV HV ⟨_,rfl⟩
  ·obtain⟨y5,u5⟩:=hV;simp only[u5];have U5:=Lib.hid u5;clear u5;have HL:=Lib.hid hL;have HI:=Lib.hid hI;clear hI hL;go_wp2_with fail;obtain⟨hB0,sa,sc,qa,qc,xa,xc,pa,pc,c0,b0,b1,d01,m0,e_7,e_8,e_10,a_17⟩:=HI.out;refine step3_done rfl ?_ ?_ ?_
   ·exact toI HIp ⟨hB0,sa,sc,qa,qc,xa,xc,pa,pc,c0,b0,b1,d01,(fun _=>U5.out.symm),e_7,e_8,e_10,a_17⟩
   ·exact Below.refl _ _
   ·exact toV HV ⟨_,rfl⟩
  ·obtain⟨⟨y5,u5⟩,⟨y6,u6⟩⟩:=hV;simp only[u6];have U5:=Lib.hid u5;have U6:=Lib.hid u6;clear u5 u6;have HL:=Lib.hid hL;have HI:=Lib.hid hI;obtain⟨hB0,sa,sc,qa,qc,xa,xc,pa,pc,c0,b0,b1,d01,m0,e_7,e_8,e_10,a_17⟩:=HI.out;have e9:y6=.tuple #[.agg #[.int .i64 LK.epoch,.int .i64 LK.next,.slice sa LK.sent.length sc,.slice qa LK.queue.length qc,.int .i64 LK.heard],.agg #[.int .i64 FR.kind,.int .i64 FR.heard,.int .i64 FR.epoch,.slice xa FR.op.length xc,.string FR.text],.bool TD,.slice pa PS.length pc,.int .i64 E]:=U6.out.symm.trans ((m0 (hL.1 6 (by simp))).trans (c0 (hL.1 5 (by simp))).1);subst e9;have HX:=Lib.hid (And.intro hB0 (And.intro c0 (And.intro b0 (And.intro b1 (And.intro d01 (And.intro m0 (And.intro e_7 (And.intro e_8 (And.intro e_10 (a_17))))))))));clear hI hL hB0 c0 b0 b1 d01 m0 e_7 e_8 e_10 a_17;go_wp2_with fail;obtain⟨hB0,c0,b0,b1,d01,m0,e_7,e_8,e_10,a_17⟩:=HX.out;refine step3_done rfl ?_ ?_ ?_
   ·exact toI HIp ⟨hB0,sa,sc,qa,qc,xa,xc,pa,pc,c0,b0,b1,d01,m0,(fun _=>rfl),e_8,e_10,a_17⟩
   ·exact Below.refl _ _
   ·exact toV HV ⟨_,rfl⟩
  ·obtain⟨⟨y5,u5⟩,⟨y6,u6⟩⟩:=hV;simp only[u6];have U5:=Lib.hid u5;have U6:=Lib.hid u6;clear u5 u6;have HL:=Lib.hid hL;have HI:=Lib.hid hI;obtain⟨hB0,sa,sc,qa,qc,xa,xc,pa,pc,c0,b0,b1,d01,m0,e_7,e_8,e_10,a_17⟩:=HI.out;have e9:y6=.tuple #[.agg #[.int .i64 LK.epoch,.int .i64 LK.next,.slice sa LK.sent.length sc,.slice qa LK.queue.length qc,.int .i64 LK.heard],.agg #[.int .i64 FR.kind,.int .i64 FR.heard,.int .i64 FR.epoch,.slice xa FR.op.length xc,.string FR.text],.bool TD,.slice pa PS.length pc,.int .i64 E]:=U6.out.symm.trans ((m0 (hL.1 6 (by simp))).trans (c0 (hL.1 5 (by simp))).1);subst e9;have HX:=Lib.hid (And.intro hB0 (And.intro c0 (And.intro b0 (And.intro b1 (And.intro d01 (And.intro m0 (And.intro e_7 (And.intro e_8 (And.intro e_10 (a_17))))))))));clear hI hL hB0 c0 b0 b1 d01 m0 e_7 e_8 e_10 a_17;go_wp2_with fail;obtain⟨hB0,c0,b0,b1,d01,m0,e_7,e_8,e_10,a_17⟩:=HX.out;refine step3_done rfl ?_ ?_ ?_
   ·exact toI HIp ⟨hB0,sa,sc,qa,qc,xa,xc,pa,pc,c0,b0,b1,d01,m0,e_7,(fun _=>rfl),e_10,a_17⟩
   ·exact Below.refl _ _
   ·exact toV HV ⟨_,rfl⟩
  ·obtain⟨⟨y5,u5⟩,⟨y6,u6⟩⟩:=hV;simp only[u6];have U5:=Lib.hid u5;have U6:=Lib.hid u6;clear u5 u6;have HL:=Lib.hid hL;have HI:=Lib.hid hI;obtain⟨hB0,sa,sc,qa,qc,xa,xc,pa,pc,c0,b0,b1,d01,m0,e_7,e_8,e_10,a_17⟩:=HI.out;have e9:y6=.tuple #[.agg #[.int .i64 LK.epoch,.int .i64 LK.next,.slice sa LK.sent.length sc,.slice qa LK.queue.length qc,.int .i64 LK.heard],.agg #[.int .i64 FR.kind,.int .i64 FR.heard,.int .i64 FR.epoch,.slice xa FR.op.length xc,.string FR.text],.bool TD,.slice pa PS.length pc,.int .i64 E]:=U6.out.symm.trans ((m0 (hL.1 6 (by simp))).trans (c0 (hL.1 5 (by simp))).1);subst e9;have HX:=Lib.hid (And.intro hB0 (And.intro c0 (And.intro b0 (And.intro b1 (And.intro d01 (And.intro m0 (And.intro e_7 (And.intro e_8 (And.intro e_10 (a_17))))))))));clear hI hL hB0 c0 b0 b1 d01 m0 e_7 e_8 e_10 a_17;go_wp2_with fail;obtain⟨hB0,c0,b0,b1,d01,m0,e_7,e_8,e_10,a_17⟩:=HX.out;refine step3_done rfl ?_ ?_ ?_
   ·exact toI HIp ⟨hB0,sa,sc,qa,qc,xa,xc,pa,pc,c0,b0,b1,d01,m0,e_7,e_8,e_10,a_17⟩
   ·exact Below.refl _ _
   ·exact toV HV rfl
  ·obtain⟨⟨y5,u5⟩,⟨y6,u6⟩⟩:=hV;simp only[u6];have U5:=Lib.hid u5;have U6:=Lib.hid u6;clear u5 u6;have HL:=Lib.hid hL;have HI:=Lib.hid hI;obtain⟨hB0,sa,sc,qa,qc,xa,xc,pa,pc,c0,b0,b1,d01,m0,e_7,e_8,e_10,a_17⟩:=HI.out;have e9:y6=.tuple #[.agg #[.int .i64 LK.epoch,.int .i64 LK.next,.slice sa LK.sent.length sc,.slice qa LK.queue.length qc,.int .i64 LK.heard],.agg #[.int .i64 FR.kind,.int .i64 FR.heard,.int .i64 FR.epoch,.slice xa FR.op.length xc,.string FR.text],.bool TD,.slice pa PS.length pc,.int .i64 E]:=U6.out.symm.trans ((m0 (hL.1 6 (by simp))).trans (c0 (hL.1 5 (by simp))).1);subst e9;have HX:=Lib.hid (And.intro hB0 (And.intro c0 (And.intro b0 (And.intro b1 (And.intro d01 (And.intro m0 (And.intro e_7 (And.intro e_8 (And.intro e_10 (a_17))))))))));clear hI hL hB0 c0 b0 b1 d01 m0 e_7 e_8 e_10 a_17;go_wp2_with fail;obtain⟨hB0,c0,b0,b1,d01,m0,e_7,e_8,e_10,a_17⟩:=HX.out;refine step3_done rfl ?_ ?_ ?_
   ·exact toI HIp ⟨hB0,sa,sc,qa,qc,xa,xc,pa,pc,c0,b0,b1,d01,m0,e_7,e_8,(fun _=>rfl),a_17⟩
   ·exact Below.refl _ _
   ·exact toV HV ⟨_,rfl⟩
  ·obtain⟨⟨y5,u5⟩,⟨y6,u6⟩⟩:=hV;simp only[u6];have U5:=Lib.hid u5;have U6:=Lib.hid u6;clear u5 u6;have HL:=Lib.hid hL;have HI:=Lib.hid hI;obtain⟨hB0,sa,sc,qa,qc,xa,xc,pa,pc,c0,b0,b1,d01,m0,e_7,e_8,e_10,a_17⟩:=HI.out;have e9:y6=.tuple #[.agg #[.int .i64 LK.epoch,.int .i64 LK.next,.slice sa LK.sent.length sc,.slice qa LK.queue.length qc,.int .i64 LK.heard],.agg #[.int .i64 FR.kind,.int .i64 FR.heard,.int .i64 FR.epoch,.slice xa FR.op.length xc,.string FR.text],.bool TD,.slice pa PS.length pc,.int .i64 E]:=U6.out.symm.trans ((m0 (hL.1 6 (by simp))).trans (c0 (hL.1 5 (by simp))).1);subst e9;have HX:=Lib.hid (And.intro hB0 (And.intro c0 (And.intro b0 (And.intro b1 (And.intro d01 (And.intro m0 (And.intro e_7 (And.intro e_8 (And.intro e_10 (a_17))))))))));clear hI hL hB0 c0 b0 b1 d01 m0 e_7 e_8 e_10 a_17;go_wp2_with fail;obtain⟨hB0,c0,b0,b1,d01,m0,e_7,e_8,e_10,a_17⟩:=HX.out;refine step3_done rfl ?_ ?_ ?_
   ·exact toI HIp ⟨hB0,sa,sc,qa,qc,xa,xc,pa,pc,c0,b0,b1,d01,m0,e_7,e_8,e_10,a_17⟩
   ·exact Below.refl _ _
   ·exact toV HV rfl
  ·clear hV;have HL:=Lib.hid hL;have HI:=Lib.hid hI;have hzW:=hI.1.size;clear hI hL;go_wp2_with fail;have uW:∀o,Below W.heap.size W (W.alloc o):=fun o=>(Below.refl _ _).alloc (Nat.le_refl _) o;obtain⟨hB0,sa,sc,qa,qc,xa,xc,pa,pc,c0,b0,b1,d01,m0,e_7,e_8,e_10,a_17⟩:=HI.out;refine step3_done rfl ?_ ?_ ?_
   ·exact toI HIp ⟨up hB0 (uW _),sa,sc,qa,qc,xa,xc,pa,pc,(fun h=>⟨(c0 h).1,(c0 h).2.1.mono fun z hz=>⟨⟨hz.1,Nat.lt_of_lt_of_le hz.2.1 (uW _).size,(fun _ e=>(by injection e with e;injection e with e;injection e with e;have:=hz.2.1;omega)),hz.2.2.2⟩,(uW _).block z hz.2.1⟩,(c0 h).2.2.1.mono fun z hz=>⟨⟨hz.1,Nat.lt_of_lt_of_le hz.2.1 (uW _).size,(fun _ e=>(by injection e with e;injection e with e;injection e with e;have:=hz.2.1;omega)),hz.2.2.2⟩,(uW _).block z hz.2.1⟩,(c0 h).2.2.2.1.mono fun z hz=>⟨⟨hz.1,Nat.lt_of_lt_of_le hz.2.1 (uW _).size,(fun _ e=>(by injection e with e;injection e with e;injection e with e;have:=hz.2.1;omega)),hz.2.2.2⟩,(uW _).block z hz.2.1⟩,(c0 h).2.2.2.2.mono fun z hz=>⟨⟨hz.1,Nat.lt_of_lt_of_le hz.2.1 (uW _).size,(fun _ e=>(by injection e with e;injection e with e;injection e with e;have:=hz.2.1;omega)),hz.2.2.2⟩,(uW _).block z hz.2.1⟩⟩),(fun _=>(by have hs:=HL.out.2 14 (by simp);refine⟨_,rfl,hzW,?_⟩;show Blk _ (.cells (bif L 14 then _ else _) _ _) _;rw[hs];exact Blk.new _ _)),(fun h=>(by obtain⟨b,e,h1,h2⟩:=b1 h;exact⟨b,e,h1,h2.go (uW _)⟩)),(fun _ h e=>(by obtain⟨b,e1,h4,h5⟩:=b1 h;have e2:=e.trans e1;injection e2 with e2;injection e2 with e2;injection e2 with e2;have:=h5.lt;omega)),m0,e_7,e_8,e_10,a_17⟩
   ·exact uW _
   ·exact toV HV ⟨_,rfl⟩
  ·clear hV;have HL:=Lib.hid hL;have HI:=Lib.hid hI;have hzW:=hI.1.size;clear hI hL;go_wp2_with fail;have uW:∀o,Below W.heap.size W (W.alloc o):=fun o=>(Below.refl _ _).alloc (Nat.le_refl _) o;obtain⟨hB0,sa,sc,qa,qc,xa,xc,pa,pc,c0,b0,b1,d01,m0,e_7,e_8,e_10,a_17⟩:=HI.out;refine step3_done rfl ?_ ?_ ?_
   ·exact toI HIp ⟨up hB0 (uW _),sa,sc,qa,qc,xa,xc,pa,pc,(fun h=>⟨(c0 h).1,(c0 h).2.1.mono fun z hz=>⟨⟨hz.1,Nat.lt_of_lt_of_le hz.2.1 (uW _).size,hz.2.2.1,(fun _ e=>(by injection e with e;injection e with e;injection e with e;have:=hz.2.1;omega))⟩,(uW _).block z hz.2.1⟩,(c0 h).2.2.1.mono fun z hz=>⟨⟨hz.1,Nat.lt_of_lt_of_le hz.2.1 (uW _).size,hz.2.2.1,(fun _ e=>(by injection e with e;injection e with e;injection e with e;have:=hz.2.1;omega))⟩,(uW _).block z hz.2.1⟩,(c0 h).2.2.2.1.mono fun z hz=>⟨⟨hz.1,Nat.lt_of_lt_of_le hz.2.1 (uW _).size,hz.2.2.1,(fun _ e=>(by injection e with e;injection e with e;injection e with e;have:=hz.2.1;omega))⟩,(uW _).block z hz.2.1⟩,(c0 h).2.2.2.2.mono fun z hz=>⟨⟨hz.1,Nat.lt_of_lt_of_le hz.2.1 (uW _).size,hz.2.2.1,(fun _ e=>(by injection e with e;injection e with e;injection e with e;have:=hz.2.1;omega))⟩,(uW _).block z hz.2.1⟩⟩),(fun h=>(by obtain⟨b,e,h1,h2⟩:=b0 h;exact⟨b,e,h1,h2.go (uW _)⟩)),(fun _=>(by have hs:=HL.out.2 15 (by simp);refine⟨_,rfl,hzW,?_⟩;show Blk _ (.cells (bif L 15 then _ else _) _ _) _;rw[hs];exact Blk.new _ _)),(fun h _ e=>(by obtain⟨b,e1,h4,h5⟩:=b0 h;have e2:=e1.symm.trans e;injection e2 with e2;injection e2 with e2;injection e2 with e2;have:=h5.lt;omega)),m0,e_7,e_8,e_10,a_17⟩
   ·exact uW _
   ·exact toV HV ⟨_,rfl⟩
  ·obtain⟨⟨y7,u7⟩,⟨y12,u12⟩⟩:=hV;simp only[u12,u7];have U7:=Lib.hid u7;have U12:=Lib.hid u12;clear u7 u12;have HL:=Lib.hid hL;have HI:=Lib.hid hI;obtain⟨hB0,sa,sc,qa,qc,xa,xc,pa,pc,c0,b0,b1,d01,m0,e_7,e_8,e_10,a_17⟩:=HI.out;obtain⟨b,e11,hb1,hb2⟩:=b0 (hL.1 12 (by simp));have f9:y7=.agg #[.int .i64 LK.epoch,.int .i64 LK.next,.slice sa LK.sent.length sc,.slice qa LK.queue.length qc,.int .i64 LK.heard]:=U7.out.symm.trans (e_7 (hL.1 7 (by simp)));have f11:y12=.pointer (some ⟨b,0,none⟩):=U12.out.symm.trans e11;subst f9 f11;rw[hL.2 14 (by simp)]at hb2;have hb2':Blk b (.cells #[.int .i64 0,.int .i64 0,.slice none 0 0,.slice none 0 0,.int .i64 0] 70 (0,0)) W:=hb2;have p0:W.cell? ⟨b,0,none⟩=some (.int .i64 0):=hb2'.cell 0;have p1:W.cell? ⟨b,1,none⟩=some (.int .i64 0):=hb2'.cell 1;have p2:W.cell? ⟨b,2,none⟩=some (.slice none 0 0):=hb2'.cell 2;have p3:W.cell? ⟨b,3,none⟩=some (.slice none 0 0):=hb2'.cell 3;have p4:W.cell? ⟨b,4,none⟩=some (.int .i64 0):=hb2'.cell 4;have pf:=hb2'.frozen;have hlt:=hb2'.lt;have HX:=Lib.hid (And.intro hB0 (And.intro c0 (And.intro b0 (And.intro b1 (And.intro d01 (And.intro m0 (And.intro e_7 (And.intro e_8 (And.intro e_10 (a_17))))))))));have HZ:=Lib.hid (And.intro hb2' (And.intro e11 hb1));clear hI hL hB0 c0 b0 b1 d01 m0 e_7 e_8 e_10 a_17 hb2 hb2' e11 hb1;go_wp2_with fail;obtain⟨hB0,c0,b0,b1,d01,m0,e_7,e_8,e_10,a_17⟩:=HX.out;obtain⟨hb2,e11,hb1⟩:=HZ.out;have HT:=touch_setCells W b 0 [.int .i64 LK.epoch,.int .i64 LK.next,.slice sa LK.sent.length sc,.slice qa LK.queue.length qc,.int .i64 LK.heard];have HC:=blk_setL b 70 [.int .i64 LK.epoch,.int .i64 LK.next,.slice sa LK.sent.length sc,.slice qa LK.queue.length qc,.int .i64 LK.heard] [] [.int .i64 0,.int .i64 0,.slice none 0 0,.slice none 0 0,.int .i64 0] W rfl hb2;refine step3_done (v:=undef) rfl ?_ ?_ ?_
   ·exact toI HIp ⟨hB0.trans (HT.toBelow hB0.size (fun z hz=>by omega)),sa,sc,qa,qc,xa,xc,pa,pc,(fun h=>⟨(c0 h).1,(c0 h).2.1.mono fun z hz=>⟨⟨hz.1,Nat.lt_of_lt_of_le hz.2.1 HT.size,hz.2.2⟩,HT.block z hz.2.1 (fun e=>(hz.2.2.1) (HL.out.1 12 (by simp)) (by rw[e];exact e11))⟩,(c0 h).2.2.1.mono fun z hz=>⟨⟨hz.1,Nat.lt_of_lt_of_le hz.2.1 HT.size,hz.2.2⟩,HT.block z hz.2.1 (fun e=>(hz.2.2.1) (HL.out.1 12 (by simp)) (by rw[e];exact e11))⟩,(c0 h).2.2.2.1.mono fun z hz=>⟨⟨hz.1,Nat.lt_of_lt_of_le hz.2.1 HT.size,hz.2.2⟩,HT.block z hz.2.1 (fun e=>(hz.2.2.1) (HL.out.1 12 (by simp)) (by rw[e];exact e11))⟩,(c0 h).2.2.2.2.mono fun z hz=>⟨⟨hz.1,Nat.lt_of_lt_of_le hz.2.1 HT.size,hz.2.2⟩,HT.block z hz.2.1 (fun e=>(hz.2.2.1) (HL.out.1 12 (by simp)) (by rw[e];exact e11))⟩⟩),(fun _=>⟨b,e11,hb1,HC⟩),(fun h=>(by obtain⟨b',e,h1,h2⟩:=b1 h;exact⟨b',e,h1,h2.touch HT (fun e'=>d01 (HL.out.1 12 (by simp)) h (e11.trans (by rw[←e',e])))⟩)),d01,m0,e_7,e_8,e_10,a_17⟩
   ·exact trivial
   ·exact toV HV rfl
  ·obtain⟨⟨y8,u8⟩,⟨y13,u13⟩⟩:=hV;simp only[u13,u8];have U8:=Lib.hid u8;have U13:=Lib.hid u13;clear u8 u13;have HL:=Lib.hid hL;have HI:=Lib.hid hI;obtain⟨hB0,sa,sc,qa,qc,xa,xc,pa,pc,c0,b0,b1,d01,m0,e_7,e_8,e_10,a_17⟩:=HI.out;obtain⟨b,e11,hb1,hb2⟩:=b1 (hL.1 13 (by simp));have f9:y8=.agg #[.int .i64 FR.kind,.int .i64 FR.heard,.int .i64 FR.epoch,.slice xa FR.op.length xc,.string FR.text]:=U8.out.symm.trans (e_8 (hL.1 8 (by simp)));have f11:y13=.pointer (some ⟨b,0,none⟩):=U13.out.symm.trans e11;subst f9 f11;rw[hL.2 15 (by simp)]at hb2;have hb2':Blk b (.cells #[.int .i64 0,.int .i64 0,.int .i64 0,.slice none 0 0,.string ⟨#[]⟩] 44 (0,0)) W:=hb2;have p0:W.cell? ⟨b,0,none⟩=some (.int .i64 0):=hb2'.cell 0;have p1:W.cell? ⟨b,1,none⟩=some (.int .i64 0):=hb2'.cell 1;have p2:W.cell? ⟨b,2,none⟩=some (.int .i64 0):=hb2'.cell 2;have p3:W.cell? ⟨b,3,none⟩=some (.slice none 0 0):=hb2'.cell 3;have p4:W.cell? ⟨b,4,none⟩=some (.string ⟨#[]⟩):=hb2'.cell 4;have pf:=hb2'.frozen;have hlt:=hb2'.lt;have HX:=Lib.hid (And.intro hB0 (And.intro c0 (And.intro b0 (And.intro b1 (And.intro d01 (And.intro m0 (And.intro e_7 (And.intro e_8 (And.intro e_10 (a_17))))))))));have HZ:=Lib.hid (And.intro hb2' (And.intro e11 hb1));clear hI hL hB0 c0 b0 b1 d01 m0 e_7 e_8 e_10 a_17 hb2 hb2' e11 hb1;go_wp2_with fail;obtain⟨hB0,c0,b0,b1,d01,m0,e_7,e_8,e_10,a_17⟩:=HX.out;obtain⟨hb2,e11,hb1⟩:=HZ.out;have HT:=touch_setCells W b 0 [.int .i64 FR.kind,.int .i64 FR.heard,.int .i64 FR.epoch,.slice xa FR.op.length xc,.string FR.text];have HC:=blk_setL b 44 [.int .i64 FR.kind,.int .i64 FR.heard,.int .i64 FR.epoch,.slice xa FR.op.length xc,.string FR.text] [] [.int .i64 0,.int .i64 0,.int .i64 0,.slice none 0 0,.string ⟨#[]⟩] W rfl hb2;refine step3_done (v:=undef) rfl ?_ ?_ ?_
   ·exact toI HIp ⟨hB0.trans (HT.toBelow hB0.size (fun z hz=>by omega)),sa,sc,qa,qc,xa,xc,pa,pc,(fun h=>⟨(c0 h).1,(c0 h).2.1.mono fun z hz=>⟨⟨hz.1,Nat.lt_of_lt_of_le hz.2.1 HT.size,hz.2.2⟩,HT.block z hz.2.1 (fun e=>(hz.2.2.2) (HL.out.1 13 (by simp)) (by rw[e];exact e11))⟩,(c0 h).2.2.1.mono fun z hz=>⟨⟨hz.1,Nat.lt_of_lt_of_le hz.2.1 HT.size,hz.2.2⟩,HT.block z hz.2.1 (fun e=>(hz.2.2.2) (HL.out.1 13 (by simp)) (by rw[e];exact e11))⟩,(c0 h).2.2.2.1.mono fun z hz=>⟨⟨hz.1,Nat.lt_of_lt_of_le hz.2.1 HT.size,hz.2.2⟩,HT.block z hz.2.1 (fun e=>(hz.2.2.2) (HL.out.1 13 (by simp)) (by rw[e];exact e11))⟩,(c0 h).2.2.2.2.mono fun z hz=>⟨⟨hz.1,Nat.lt_of_lt_of_le hz.2.1 HT.size,hz.2.2⟩,HT.block z hz.2.1 (fun e=>(hz.2.2.2) (HL.out.1 13 (by simp)) (by rw[e];exact e11))⟩⟩),(fun h=>(by obtain⟨b',e,h1,h2⟩:=b0 h;exact⟨b',e,h1,h2.touch HT (fun e'=>d01 h (HL.out.1 13 (by simp)) (by rw[e,e'];exact e11.symm))⟩)),(fun _=>⟨b,e11,hb1,HC⟩),d01,m0,e_7,e_8,e_10,a_17⟩
   ·exact trivial
   ·exact toV HV rfl
  ·have u9:=hV;clear hV;simp only[u9];clear u9;have HI:=Lib.hid hI;clear hI;go_wp2_with fail;refine step3_done rfl ?_ ?_ ?_
   ·exact(toI HIp HI.out)
   ·exact(Below.refl _ _)
   ·exact(toV HV rfl)
  ·obtain⟨y10,u10⟩:=hV;simp only[u10];have U10:=Lib.hid u10;clear u10;have HL:=Lib.hid hL;have HI:=Lib.hid hI;obtain⟨hB0,sa,sc,qa,qc,xa,xc,pa,pc,c0,b0,b1,d01,m0,e_7,e_8,e_10,a_17⟩:=HI.out;have e9:y10=.slice pa PS.length pc:=U10.out.symm.trans (e_10 (hL.1 10 (by simp)));have HX:=Lib.hid (And.intro hB0 (And.intro c0 (And.intro b0 (And.intro b1 (And.intro d01 (And.intro m0 (And.intro e_7 (And.intro e_8 (And.intro e_10 (a_17))))))))));have E9:=Lib.hid e9;clear hI hL hB0 c0 b0 b1 d01 m0 e_7 e_8 e_10 a_17 e9;go_wp2_with fail;obtain⟨hB0,c0,b0,b1,d01,m0,e_7,e_8,e_10,a_17⟩:=HX.out;have e9:=E9.out;refine step3_done rfl ?_ ?_ ?_
   ·exact toI HIp ⟨hB0,sa,sc,qa,qc,xa,xc,pa,pc,c0,b0,b1,d01,m0,e_7,e_8,e_10,(fun _=>e9)⟩
   ·exact Below.refl _ _
   ·exact toV HV ⟨_,rfl⟩
  ·have u11:=hV;clear hV;simp only[u11];clear u11;have HI:=Lib.hid hI;clear hI;go_wp2_with fail;refine step3_done rfl ?_ ?_ ?_
   ·exact(toI HIp HI.out)
   ·exact(Below.refl _ _)
   ·exact(toV HV rfl)
 case fin=>
  intro x W L hL hI hV;replace hI:(Below w1.heap.size w1 W∧∃(sa:Option Addr)(sc:Nat)(qa:Option Addr)(qc:Nat)(xa:Option Addr)(xc:Nat)(pa:Option Addr)(pc:Nat),(L 5=true→x 5=.tuple #[.agg #[.int .i64 LK.epoch,.int .i64 LK.next,.slice sa LK.sent.length sc,.slice qa LK.queue.length qc,.int .i64 LK.heard],.agg #[.int .i64 FR.kind,.int .i64 FR.heard,.int .i64 FR.epoch,.slice xa FR.op.length xc,.string FR.text],.bool TD,.slice pa PS.length pc,.int .i64 E]∧RdS (fun z=>w1.heap.size≤z∧z<W.heap.size∧(L 12=true→x 12≠.pointer (some ⟨z,0,none⟩))∧(L 13=true→x 13≠.pointer (some ⟨z,0,none⟩))) W LK.sent sa LK.sent.length sc∧RdS (fun z=>w1.heap.size≤z∧z<W.heap.size∧(L 12=true→x 12≠.pointer (some ⟨z,0,none⟩))∧(L 13=true→x 13≠.pointer (some ⟨z,0,none⟩))) W LK.queue qa LK.queue.length qc∧RdS (fun z=>w1.heap.size≤z∧z<W.heap.size∧(L 12=true→x 12≠.pointer (some ⟨z,0,none⟩))∧(L 13=true→x 13≠.pointer (some ⟨z,0,none⟩))) W FR.op xa FR.op.length xc∧RdS (fun z=>w1.heap.size≤z∧z<W.heap.size∧(L 12=true→x 12≠.pointer (some ⟨z,0,none⟩))∧(L 13=true→x 13≠.pointer (some ⟨z,0,none⟩))) W PS pa PS.length pc)∧(L 12=true→∃b,x 12=.pointer (some ⟨b,0,none⟩)∧w1.heap.size≤b∧Blk b (.cells (bif L 14 then #[.int .i64 LK.epoch,.int .i64 LK.next,.slice sa LK.sent.length sc,.slice qa LK.queue.length qc,.int .i64 LK.heard]else #[.int .i64 0,.int .i64 0,.slice none 0 0,.slice none 0 0,.int .i64 0]) 70 (0,0)) W)∧(L 13=true→∃b,x 13=.pointer (some ⟨b,0,none⟩)∧w1.heap.size≤b∧Blk b (.cells (bif L 15 then #[.int .i64 FR.kind,.int .i64 FR.heard,.int .i64 FR.epoch,.slice xa FR.op.length xc,.string FR.text]else #[.int .i64 0,.int .i64 0,.int .i64 0,.slice none 0 0,.string ⟨#[]⟩]) 44 (0,0)) W)∧(L 12=true→L 13=true→x 12≠x 13)∧(L 6=true→x 6=x 5)∧(L 7=true→x 7=.agg #[.int .i64 LK.epoch,.int .i64 LK.next,.slice sa LK.sent.length sc,.slice qa LK.queue.length qc,.int .i64 LK.heard])∧(L 8=true→x 8=.agg #[.int .i64 FR.kind,.int .i64 FR.heard,.int .i64 FR.epoch,.slice xa FR.op.length xc,.string FR.text])∧(L 10=true→x 10=.slice pa PS.length pc)∧(L 17=true→x 17=.slice pa PS.length pc)):=ofI HIp hI;rw[HV.out]at hV;simp only[AllV,and_true]at hV;obtain⟨u0,u1,u2,u3,u4,⟨y5,u5⟩,⟨y6,u6⟩,⟨y7,u7⟩,⟨y8,u8⟩,u9,⟨y10,u10⟩,u11,⟨y12,u12⟩,⟨y13,u13⟩,u14,u15,u16,⟨y17,u17⟩,u18⟩:=hV;simp only[getsD,List.getD_cons_succ,List.getD_cons_zero,List.length_cons,List.length_nil,List.range,List.range.loop,u0,u1,u2,u3,u4,u5,u6,u7,u8,u9,u10,u11,u12,u13,u14,u15,u16,u17,u18,Act.put,List.setIfInBounds_toArray,List.set_cons_succ,List.set_cons_zero];have U12:=Lib.hid u12;have U13:=Lib.hid u13;have U17:=Lib.hid u17;clear u0 u1 u2 u3 u4 u5 u6 u7 u8 u9 u10 u11 u12 u13 u14 u15 u16 u17 u18;obtain⟨hB0,sa,sc,qa,qc,xa,xc,pa,pc,c0,b0,b1,d01,m0,e_7,e_8,e_10,a_17⟩:=hI;obtain⟨b,e11,hb1,hb2⟩:=b0 (hL 12 (by simp));obtain⟨b',e12,hb3,hb4⟩:=b1 (hL 13 (by simp));rw[hL 14 (by simp)]at hb2;rw[hL 15 (by simp)]at hb4;have hx2:Blk b (.cells #[.int .i64 LK.epoch,.int .i64 LK.next,.slice sa LK.sent.length sc,.slice qa LK.queue.length qc,.int .i64 LK.heard] 70 (0,0)) W:=hb2;have hx4:Blk b' (.cells #[.int .i64 FR.kind,.int .i64 FR.heard,.int .i64 FR.epoch,.slice xa FR.op.length xc,.string FR.text] 44 (0,0)) W:=hb4;have f11:y12=.pointer (some ⟨b,0,none⟩):=U12.out.symm.trans e11;have f12:y13=.pointer (some ⟨b',0,none⟩):=U13.out.symm.trans e12;have f17:y17=.slice pa PS.length pc:=U17.out.symm.trans (a_17 (hL 17 (by simp)));obtain⟨-,r1,r2,r3,r4⟩:=c0 (hL 5 (by simp));subst f11 f12 f17;have B2:=Lib.hid hB0;have hlow:∀z,(w1.heap.size≤z∧z<W.heap.size∧(L 12=true→x 12≠.pointer (some ⟨z,0,none⟩))∧(L 13=true→x 13≠.pointer (some ⟨z,0,none⟩)))→(w1.heap.size≤z∧z<W.heap.size)∧W.heap[z]?=W.heap[z]?:=fun z hz=>⟨⟨hz.1,hz.2.1⟩,rfl⟩;have RR:=Lib.hid (And.intro (r1.mono hlow) (And.intro (r2.mono hlow) (And.intro (r3.mono hlow) (r4.mono hlow))));have BX:=Lib.hid (And.intro hx2 hx4);clear hL c0 b0 b1 d01 m0 e_7 e_8 e_10 a_17 hb2 hb4 hx2 hx4 e11 e12 r1 r2 r3 r4 hlow hB0;clear U12 U13 U17;by_cases hE:E=0
  ·have hEb:(E !=0)=false:=by simp[hE]
   have M2:=Lib.hid (M1.out.go B2.out);obtain⟨hc5,hfz2,hsr2⟩:=M2.out.sideThere (s:=s) HSL.out HV0.out;obtain⟨v5,z5⟩:=hc5 5 (by omega);obtain⟨v6,z6⟩:=hc5 6 (by omega);obtain⟨v7,z7⟩:=hc5 7 (by omega);obtain⟨v8,z8⟩:=hc5 8 (by omega);obtain⟨v9,z9⟩:=hc5 9 (by omega);have z6':W.cell? ⟨sr,so+s*10+5+1,none⟩=some v6:=z6;have z7':W.cell? ⟨sr,so+s*10+5+2,none⟩=some v7:=z7;have z8':W.cell? ⟨sr,so+s*10+5+3,none⟩=some v8:=z8;have z9':W.cell? ⟨sr,so+s*10+5+4,none⟩=some v9:=z9;have g5:=hfz2 5 (by omega);have g6:W.frozen? ⟨sr,so+s*10+5+1,none⟩=false:=hfz2 6 (by omega);have g7:W.frozen? ⟨sr,so+s*10+5+2,none⟩=false:=hfz2 7 (by omega);have g8:W.frozen? ⟨sr,so+s*10+5+3,none⟩=false:=hfz2 8 (by omega);have g9:W.frozen? ⟨sr,so+s*10+5+4,none⟩=false:=hfz2 9 (by omega);have l0:W.cell? ⟨b,0,none⟩=some (.int .i64 LK.epoch):=BX.out.1.cell 0;have l1:W.cell? ⟨b,1,none⟩=some (.int .i64 LK.next):=BX.out.1.cell 1;have l2:W.cell? ⟨b,2,none⟩=some (.slice sa LK.sent.length sc):=BX.out.1.cell 2;have l3:W.cell? ⟨b,3,none⟩=some (.slice qa LK.queue.length qc):=BX.out.1.cell 3;have l4:W.cell? ⟨b,4,none⟩=some (.int .i64 LK.heard):=BX.out.1.cell 4;have hz2:=B2.out.size;have hlk:=HK.out hE;have hnm:∀z,w1.heap.size≤z→¬Mine g vs z:=fun z hz hm=>by have:=(HM.out.mine z hm).2;omega
   have hgbase:=HM.out.gb;have hup:=WkG.updLink M2.out s HSL.out HV0.out LK hlk.1 sa sc qa qc (RR.out.1.mono fun z hz=>⟨⟨hz.2,(fun hx=>by
    rcases hx with hx|hx
    ·omega
    ·exact hnm z hz.1 hx),by omega⟩,rfl⟩) (RR.out.2.1.mono fun z hz=>⟨⟨hz.2,(fun hx=>by
    rcases hx with hx|hx
    ·omega
    ·exact hnm z hz.1 hx),by omega⟩,rfl⟩)
   have HUp:=Lib.hid hup;have Hnm:=Lib.hid hnm;have Hlk:=Lib.hid hlk.2;have hb'z:¬Mine g vs b':=hnm b' hb3;clear hup hnm hlk z6 z7 z8 z9 hc5 hfz2;go_upto_region 5 with fail;refine abs_w (fun Wx=>WkM base g (t.setSide s {t.side s with l:=LK}) vs Wx∧Touch (Mine g vs) W Wx) HUp.out ?_;rintro w3 ⟨m3,t3⟩;have M3:=Lib.hid m3;have T3:=Lib.hid t3;have X3:=Lib.hid (BX.out.2.touch t3 hb'z);have hz3:=t3.size;have RP3:Hid (RdS (NB base g vs w3) w3 PS pa PS.length pc):=RR.out.2.2.2.mono fun z hz=>⟨⟨by omega,by omega,Hnm.out z hz.1⟩,t3.block z hz.2 (Hnm.out z hz.1)⟩;have RF3:Hid (RdS (NM g vs w3) w3 FR.op xa FR.op.length xc):=RR.out.2.2.1.mono fun z hz=>⟨⟨by omega,Hnm.out z hz.1⟩,t3.block z hz.2 (Hnm.out z hz.1)⟩;clear m3 t3 HUp l0 l1 l2 l3 l4 z5 z6' z7' z8' z9' g5 g6 g7 g8 g9;go_wp2_with fail;refine(post_any base g (t.setSide s {t.side s with l:=LK}) vs s PS pa pc w3 M3.out (by show s<(t.node.sides.set s _).length;rw[List.length_set];exact HSL.out) RP3.out (by have:=HG.out;show t.posts.length≤_;omega) (by have:=Hlk.out;omega)).mono ?_;rintro e w4 ⟨rfl,v4,m4,t4,h4⟩;have hLk2:Hid ((t.setSide s {t.side s with l:=LK}).post s PS=t.linked s p):=by
    unfold Hid Tn.linked;rw[HLq.out,HPq.out]
   rw[hLk2.out]at m4;have M4:=Lib.hid m4;have T04:Hid (Touch (Mine g vs) w w4):=((Touch.of_below (up B1.out B2.out)).trans T3.out).trans t4;have H4:=Lib.hid (fun z (hz:Mine g v4 z)=>(h4 z hz).imp_right fun h=>(by have:=B1.out.size;omega:w.heap.size≤z));have X4:=Lib.hid (X3.out.touch t4 hb'z);have RF4:=Lib.hid (RF3.out.wk t4 h4);obtain⟨k0,k1,k2,k3,k4⟩:=blk_cells5 X4.out;have hb4l:=X4.out.lt;clear m4 t4 h4;cases hTd:TD with
   |false=>
    have HW:Hid (WkS base g (t.session s p) vs w w4):=by
     have hh:t.session s p=t.linked s p:=by
      unfold Tn.session;rw[if_neg (by rw[←HEq.out];simp[hE]),if_neg (by rw[←HTq.out,hTd];simp)]
     rw[hh];exact⟨v4,M4.out,T04.out,H4.out⟩
    subst hTd;clear hE k0 k1 k2 k3 k4;go_wp2_with fail;go_end0;exact⟨rfl,HW.out⟩
   |true=>
    obtain⟨hfr,hfx,hNG,hpl⟩:=HT.out hE hTd;have HCall:=Lib.hid (ndTold_any FR (fun hk=>by rw[hfr]at hk⊢;exact HHl.out hk) tr (b0+1) base g (t.linked s p) v4 s xa xc w4 (Hg.out.wk HM.out T04.out) M4.out (by show s<(t.node.sides.set s _).length;rw[List.length_set];exact HSL.out) RF4.out hfx hNG (by have:=HG.out;omega) hpl (by have:=HG.out;show t.recs.length≤_;omega));have HS:Hid (t.session s p=(t.linked s p).told s FR):=by
     unfold Hid Tn.session;rw[if_neg (by rw[←HEq.out];simp[hE]),if_pos (by rw[←HTq.out,hTd]),HFq.out]
    subst hTd;clear hE hfr hfx hNG hpl;go_wp2_with fail;refine HCall.out.mono ?_;rintro e w5 ⟨rfl,hW⟩;have HW:Hid (WkS base g (t.session s p) vs w w5):=by
     rw[HS.out];exact WkS.trans T04.out H4.out hW
    clear hW;go_wp2_with fail;go_end0;exact⟨rfl,HW.out⟩
  ·have hEb:(E !=0)=true:=by simp[hE]
   have HW:Hid (WkS base g (t.session s p) vs w W):=by
    have hh:t.session s p=t:=by
     unfold Tn.session;rw[if_pos (by rw[←HEq.out];exact hE)]
    rw[hh];exact HM.out.stayB (up B1.out B2.out)
   clear hE;go_wp2_with fail;refine bodyPost_ret (results_none rfl _ _ _) rfl ?_;exact⟨rfl,HW.out⟩
end Go.Proofs.YtkbfhgcjimfgkaaDoor
