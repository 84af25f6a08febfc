/- Plain: what forward makes of a node: the sides that are joined are told. No program in sight. -/
import Derived.Test.YtkbfhgcjimfgkaaDoorPartB8
import Derived.Test.YtkbfhgcjimfgkaaDoorPartC2
import Derived.Test.YtkbfhgcjimfgkaaDoorPartC0
import Derived.Test.YtkbfhgcjimfgkaaDoorPartB7
set_option linter.unusedVariables false
set_option linter.unusedSimpArgs false
set_option linter.unusedSimpArgs false
namespace Go.Proofs.YtkbfhgcjimfgkaaDoor
open Go.RowKit
theorem infoRec:(Tryd.prog.info? 167).map (fun i=>(i.zero,i.size,i.bytes))=some (some (.agg #[.int .i64 0,.slice none 0 0]),2,32):=by kernel_rfl
def Tn.note (t:Tn)(o:Op):Tn:={t with recs:=t.recs++[⟨0,o⟩]}
def Tn.recd (t:Tn)(o:Op):Tn:=if t.node.me=0 then t.note o else t
def edE (s:Sd)(o:Op):Sd:={s with e:=⟨s.e.sent+1,s.e.heard,s.e.pending++[o]⟩}
def editFr (h:Int)(o:Op):Fr:=⟨1,h,0,o,noText⟩
def Tn.tell (t:Tn)(o:Op)(i:Nat):Tn:=(t.setSide i (edE (t.side i) o)).send i (editFr (t.side i).e.heard o)
def Tn.fwd1 (t:Tn)(o:Op)(but:Int)(i:Nat):Tn:=if(i:Int)=but∨(t.side i).joined=false then t else t.tell o i
def Tn.fwdK (t:Tn)(o:Op)(but:Int):Nat→Tn
 |0=>t
 |k+1=>(t.fwdK o but k).fwd1 o but k
def Tn.forward (t:Tn)(o:Op)(but:Int):Tn:=(t.recd o).fwdK o but t.node.sides.length
theorem Touch.wk {g:Nat}{vs v2:Nat→Value}{w w' w2:World}(ht:Touch (Mine g vs) w w')(hm:∀z,Mine g v2 z→Mine g vs z∨w.heap.size≤z)(h2:Touch (Mine g v2) w' w2):Touch (Mine g vs) w w2:=
 ⟨h2.os.trans ht.os,h2.tape.trans ht.tape,h2.output.trans ht.output,Nat.le_trans ht.size h2.size,fun k hk hn=>by
  refine(h2.block k (Nat.lt_of_lt_of_le hk ht.size) fun h'=>?_).trans (ht.block k hk hn);rcases hm k h' with h1|h1
  ·exact hn h1
  ·omega⟩
theorem side_set (t:Tn)(s:Nat)(y:Sd)(h:s<t.node.sides.length):(t.setSide s y).side s=y:=by
 show(t.node.sides.set s y).getD s noSd=y
 rw[List.getD_eq_getElem?_getD,List.getElem?_set_self h];rfl
theorem send_fits {s h:Int}{l:List Op}{o:Op}(hE:sendE s h l o=0):I64 (s+1):=by
 by_cases e:edgeCheck s h l=0
 ·have:=edgeCheck_all e;unfold I64;omega
 ·unfold sendE at hE;rw[if_pos e]at hE;exact absurd hE e
theorem WkG.updEdge {base g r o c:Nat}{t:Tn}{vs:Nat→Value}{w:World}(h:WkM base g t vs w)(s:Nat)(hs:s<t.node.sides.length)(hv:vs 0=.slice (some ⟨r,o,none⟩) t.node.sides.length c)(e:Ed)(he:e.fits)(pa:Option Addr)(pc:Nat)
 (h1:RdS (fun b=>b<w.heap.size∧¬WX base g vs b∧b≠r) w e.pending pa e.pending.length pc):
 WkM base g (t.setSide s {t.side s with e:=e}) vs (w.setCells r (o+s*10+2) [.int .i64 e.sent,.int .i64 e.heard,.slice pa e.pending.length pc])∧Touch (Mine g vs) w (w.setCells r (o+s*10+2) [.int .i64 e.sent,.int .i64 e.heard,.slice pa e.pending.length pc]):=by
 refine h.upd s hs hv 2 _ (by simp) _ fun xs hx=>?_;obtain⟨_,_,sa,sc,qa,qc,rfl,-,p2,p3,p4,-,p6⟩:=hx;rw[t.side_get s hs];refine⟨_,⟨pa,pc,sa,sc,qa,qc,rfl,h1,p2,p3,p4,he,p6⟩,fun j v hj=>?_⟩
 match j with
 |0|1|2|3|4|5|6|7|8|9=>exact hj
 |j+10=>cases hj
theorem len_send (t:Tn)(s:Nat)(f:Fr):(t.send s f).node.sides.length=t.node.sides.length:=by
 unfold Tn.send;simp only;split
 ·show(t.node.sides.set s _).length=_;simp
 ·rfl
theorem len_fwd1 (t:Tn)(o:Op)(but:Int)(i:Nat):(t.fwd1 o but i).node.sides.length=t.node.sides.length:=by
 unfold Tn.fwd1;split
 ·rfl
 ·unfold Tn.tell;rw[len_send];show(t.node.sides.set i _).length=_;simp
theorem len_fwdK (t:Tn)(o:Op)(but:Int):∀k,(t.fwdK o but k).node.sides.length=t.node.sides.length
 |0=>rfl
 |k+1=>by unfold Tn.fwdK;rw[len_fwd1,len_fwdK t o but k]
theorem len_recd (t:Tn)(o:Op):(t.recd o).node.sides.length=t.node.sides.length:=by unfold Tn.recd;split<;>rfl
set_option maxRecDepth 100000 in
set_option maxHeartbeats 8000000 in
theorem ndForward_any (base g:Nat)(t:Tn)(vs:Nat→Value)(o:Op)(oa:Option Addr)(oc:Nat)(but:Int)(w:World)(hg:Good w)(h:WkM base g t vs w)(hr:RdS (NM g vs w) w o oa o.length oc)(hc:check o=0)(hb:I64 but)(hrl:t.recs.length≤1000000)
 (hpo:∀k,k<t.node.sides.length→((t.recd o).fwdK o but (k+1)).posts.length≤1000000∧((t.recd o).fwdK o but k).posts.length≤1000000) (hsd:∀k,k<t.node.sides.length→(((t.recd o).fwdK o but k).side k).joined=true→(k:Int)≠but→sendE (((t.recd o).fwdK o but k).side k).e.sent (((t.recd o).fwdK o but k).side k).e.heard (((t.recd o).fwdK o but k).side k).e.pending o=0∧(((t.recd o).fwdK o but k).side k).l.queue.length≤1000000):
 Calls Tryd.prog 62 #[.pointer (some ⟨g,0,none⟩),.slice oa o.length oc,.int .i64 but] w fun e w'=>e=.returned (.tuple #[])∧WkS base g (t.forward o but) vs w w':=by
 have Hcl:Hid (∀W,Touch (Mine g vs) w W→Calls Tryd.prog 82 #[.slice oa o.length oc] W (CopyPost W o)):=fun W ht=>clone_any o oa o.length oc W (hr.mono fun z hz=>⟨Nat.lt_of_lt_of_le hz.1 ht.size,ht.block z hz.1 hz.2⟩) (by have:=(check_zero hc).1;omega);have HM:=Lib.hid h;have Hg:=Lib.hid hg;have Hr:=Lib.hid hr;have Hc:=Lib.hid hc;have Hrl:=Lib.hid hrl;have hmine:=h.mine;have Hmine:=Lib.hid hmine;have HNP:=Lib.hid (fun W=>node_ptr g W);obtain⟨i0,hi,hy0,hy1,hy2⟩:=info_parts infoRec;have Hi:=Lib.hid hi;have Hy0:=Lib.hid hy0;have Hy1:=Lib.hid hy1;have Hy2:=Lib.hid hy2;obtain⟨p0,-,-,-,-,-,-,-,-,-⟩:=blk10_cells h.box;have hgl:=h.lt;have hgb:=h.gb;obtain⟨ra,rcap,hv4⟩:=own_app (h.rows 4 (by omega):OwnO (WX base g vs) base (vs 4) t.recs w);have HV4:=Lib.hid hv4;have Hpo:=Lib.hid hpo;have Hsd:=Lib.hid hsd;have Hfw:Hid (∀W,WkS base g ((t.recd o).fwdK o but t.node.sides.length) vs w W→WkS base g (t.forward o but) vs w W):=fun W h=>h;clear h hg hr hc hpo hsd hrl hi hy0 hy1 hy2 hmine hv4;go_enter Tryd.func62,Tryd.ntmps62;go_wp2_with fail;refine(HNP.out w).mono ?_;rintro e w1 ⟨rfl,rfl⟩;go_upto_if 17 with fail;go_cut [18]from 18 to 36 (fun _ W=>WkS base g (t.recd o) vs w W)
 case first=>
  by_cases h0:t.node.me=0
  ·have hR:t.recd o=t.note o:=if_pos h0;have HR:=Lib.hid hR;have hb0:(t.node.me==0)=true:=by simpa using h0
   clear hR h0 p0;go_upto_region 2 with fail;obtain⟨Vp,HV⟩:∃Vp:Nat→Value→World→Prop,Hid (Vp=fun i v W=>match i with
    |0=>v=.pointer (some ⟨g,0,none⟩)
    |1=>v=.pointer (some ⟨g,0,none⟩)
    |2=>v=.pointer (some ⟨g,0,none⟩)
    |3=>v=.pointer (some ⟨g,0,none⟩)
    |4=>v=.pointer (some ⟨g,9,none⟩)
    |5=>v=vs 4
    |6=>v=.slice oa o.length oc
    |7=>∃y,v=y∧RowV w.heap.size o y W
    |8=>∃y,v=.agg #[.int .i64 0,y]∧RowV w.heap.size o y W
    |9=>∃b y,v=.slice (some ⟨b,0,none⟩) 1 1∧Blk b (.cells #[.int .i64 0,y] 167 (0,0)) W∧w.heap.size≤b∧RowV w.heap.size o y W
    |10=>∃q p n,v=.slice (some ⟨q,p,none⟩) (t.recs.length+1) n∧((vs 4).ownBlock=some q∨w.heap.size≤q)
    |11=>v=.pointer (some ⟨g,0,none⟩)
    |12=>v=.pointer (some ⟨g,0,none⟩)
    |13=>v=.pointer (some ⟨g,9,none⟩)
    |_=>v=undef):=⟨_,rfl⟩
   obtain⟨Ip,HIp⟩:∃Ip:(Nat→Bool)→(Nat→Value)→World→Prop,Hid (Ip=fun L x W=>(Touch (Mine g vs) w W∧(L 10=false→WkM base g t vs W)∧(L 10=true→L 14=false→WkG base g (t.note o) vs (fun q=>if q=4 then x 10 else vs q) W)∧(L 14=true→∃v2,WkM base g (t.note o) v2 W∧∀z,Mine g v2 z→Mine g vs z∨w.heap.size≤z))):=⟨_,rfl⟩;refine region_lit3 (by kernel_rfl) (by kernel_rfl) (by kernel_rfl) [[],[],[1],[1,2],[1,2,3],[1,2,3,4],[],[6],[6,7],[6,7,8],[1,2,3,4,5,6,7,8,9],[0],[0,11],[0,11,12],[0,1,2,3,4,5,6,7,8,9,10,11,12,13]] (by kernel_rfl) [some 18,some 19,some 20,some 21,some 22,some 23,some 24,some 25,some 26,some 27,some 28,some 29,some 30,some 31,none] (by kernel_rfl) [[0,11,12,13,14],[1,2,3,4,5,10,14],[2,3,4,5,10,14],[3,4,5,10,14],[4,5,10,14],[5,10,14],[6,7,8,9,10,14],[7,8,9,10,14],[8,9,10,14],[9,10,14],[10,14],[11,12,13,14],[12,13,14],[13,14],[14]] (by kernel_rfl) [[],[],[],[],[],[],[],[10,14],[10,14],[10,14],[],[],[],[],[]] [[],[],[1],[2],[3],[4],[],[6],[7],[8],[5,9],[0],[11],[12],[10,13]] (by kernel_rfl)
    Ip
    Vp
    (fun j W W'=>match j with
     |10=>W.grownBy W' (vs 4).ownBlock
     |14=>Touch (fun z=>z=g) W W'
     |_=>Below W.heap.size W W')
    [fun x=>⟨(fZm 0 (.pointer (some ⟨g,0,none⟩)) (fEm 18)).toArray,[]⟩,fun x=>⟨(fZm 0 (.pointer (some ⟨g,0,none⟩)) (fEm 19)).toArray,[]⟩,fun x=>⟨(fZm 19 (x 1) (fEm 1)).toArray,[]⟩,fun x=>⟨(fZm 20 (x 2) (fEm 1)).toArray,[]⟩,fun x=>⟨(fZm 21 (x 3) (fEm 1)).toArray,[]⟩,fun x=>⟨(fZm 22 (x 4) (fEm 1)).toArray,[]⟩,fun x=>⟨(fZm 1 (.slice oa o.length oc) (fEm 23)).toArray,[]⟩,fun x=>⟨(fZm 24 (x 6) (fEm 1)).toArray,[]⟩,fun x=>⟨(fZm 25 (x 7) (fEm 1)).toArray,[]⟩,fun x=>⟨(fZm 26 (x 8) (fEm 1)).toArray,[]⟩,fun x=>⟨(fZm 23 (x 5) (fZm 3 (x 9) (fEm 1))).toArray,[]⟩,fun x=>⟨(fZm 18 (x 0) (fEm 11)).toArray,[]⟩,fun x=>⟨(fZm 29 (x 11) (fEm 1)).toArray,[]⟩,fun x=>⟨(fZm 30 (x 12) (fEm 1)).toArray,[]⟩,fun x=>⟨(fZm 28 (x 10) (fZm 2 (x 13) [])).toArray,[]⟩]
    ?hF ?mono ?h0 ?step [0,1,2,3,4,5,6,10,11,12,13,14] (by kernel_rfl) ?fin
   case hF=>
    iterate 15 refine⟨fun x=>⟨by kernel_rfl,by kernel_rfl⟩,?_⟩
    trivial
   case mono=>
    intro i j hi hj hne hna hnk v W W' hE hv;rw[HV.out]at hv⊢;simp only[List.length_cons,List.length_nil]at hi hj
    match i,hi with
    |0,_|1,_|2,_|3,_|4,_|5,_|6,_|11,_|12,_|13,_|14,_=>exact hv
    |7,_=>
     match j,hj with
     |7,_=>exact absurd rfl hne
     |6,_=>exact absurd (by simp) hna
     |10,_|14,_=>exact absurd (by simp) hnk
     |0,_|1,_|2,_|3,_|4,_|5,_|8,_|9,_|11,_|12,_|13,_=>exact(by obtain⟨y,e,h⟩:=hv;exact⟨y,e,h.go hE⟩)
     |m+15,h=>exact absurd h (by omega)
    |8,_=>
     match j,hj with
     |8,_=>exact absurd rfl hne
     |6,_|7,_=>exact absurd (by simp) hna
     |10,_|14,_=>exact absurd (by simp) hnk
     |0,_|1,_|2,_|3,_|4,_|5,_|9,_|11,_|12,_|13,_=>exact(by obtain⟨y,e,h⟩:=hv;exact⟨y,e,h.go hE⟩)
     |m+15,h=>exact absurd h (by omega)
    |9,_=>
     match j,hj with
     |9,_=>exact absurd rfl hne
     |6,_|7,_|8,_=>exact absurd (by simp) hna
     |10,_|14,_=>exact absurd (by simp) hnk
     |0,_|1,_|2,_|3,_|4,_|5,_|11,_|12,_|13,_=>exact(by obtain⟨b,y,h1,h2,h3,h4⟩:=hv;exact⟨b,y,h1,h2.go hE,h3,h4.go hE⟩)
     |m+15,h=>exact absurd h (by omega)
    |10,_=>
     match j,hj with
     |10,_=>exact absurd rfl hne
     |1,_|2,_|3,_|4,_|5,_|6,_|7,_|8,_|9,_=>exact absurd (by simp) hna
     |0,_|11,_|12,_|13,_|14,_=>exact(id hv)
     |m+15,h=>exact absurd h (by omega)
    |m+15,h=>exact absurd h (by omega)
   case h0=>intro x;exact toI HIp ⟨(Touch.refl _ _).drew,(fun _=>HM.out.go (Below.refl _ _).drew),(fun h=>by cases h),(fun h=>by cases h)⟩
   case step=>
    refine⟨?_,?_,?_,?_,?_,?_,?_,?_,?_,?_,?_,?_,?_,?_,?_,trivial⟩
    all_goals
     intro x W L hI hL hV;replace hI:(Touch (Mine g vs) w W∧(L 10=false→WkM base g t vs W)∧(L 10=true→L 14=false→WkG base g (t.note o) vs (fun q=>if q=4 then x 10 else vs q) W)∧(L 14=true→∃v2,WkM base g (t.note o) v2 W∧∀z,Mine g v2 z→Mine g vs z∨w.heap.size≤z)):=ofI HIp hI;rw[HV.out]at hV;simp only[AllV,and_true]at hV;dsimp only[fZm,fEm,List.reduceReplicate,List.cons_append,List.nil_append]
    ·clear hV;have HI:=Lib.hid hI;clear hI;go_wp2_with fail;refine step3_done rfl ?_ ?_ ?_
     ·exact(toI HIp HI.out)
     ·exact(Below.refl _ _)
     ·exact(toV HV rfl)
    ·clear hV;have HI:=Lib.hid hI;clear hI;go_wp2_with fail;refine step3_done rfl ?_ ?_ ?_
     ·exact(toI HIp HI.out)
     ·exact(Below.refl _ _)
     ·exact(toV HV rfl)
    ·have u1:=hV;clear hV;simp only[u1];clear u1;have HI:=Lib.hid hI;clear hI;go_wp2_with fail;refine step3_done rfl ?_ ?_ ?_
     ·exact(toI HIp HI.out)
     ·exact(Below.refl _ _)
     ·exact(toV HV rfl)
    ·have u2:=hV;clear hV;simp only[u2];clear u2;have HI:=Lib.hid hI;clear hI;go_wp2_with fail;refine step3_done rfl ?_ ?_ ?_
     ·exact(toI HIp HI.out)
     ·exact(Below.refl _ _)
     ·exact(toV HV rfl)
    ·have u3:=hV;clear hV;simp only[u3];clear u3;have HI:=Lib.hid hI;clear hI;go_wp2_with fail;refine step3_done rfl ?_ ?_ ?_
     ·exact(toI HIp HI.out)
     ·exact(Below.refl _ _)
     ·exact(toV HV rfl)
    ·have u4:=hV;clear hV;simp only[u4];clear u4;obtain⟨-,-,-,-,-,-,-,-,-,p9⟩:=blk10_cells (hI.2.1 (hL.2 10 (by simp))).box;have HI:=Lib.hid hI;clear hI;go_wp2_with fail;refine step3_done rfl ?_ ?_ ?_
     ·exact(toI HIp HI.out)
     ·exact(Below.refl _ _)
     ·exact(toV HV rfl)
    ·clear hV;have HI:=Lib.hid hI;clear hI;go_wp2_with fail;refine step3_done rfl ?_ ?_ ?_
     ·exact(toI HIp HI.out)
     ·exact(Below.refl _ _)
     ·exact(toV HV rfl)
    ·have u6:=hV;clear hV;simp only[u6];clear u6;have HL:=Lib.hid hL;have HI:=Lib.hid hI;have hzW:=hI.1.size;clear hI hL;go_wp2_with fail;refine(Hcl.out W HI.out.1).mono ?_;rintro e W' ⟨ka,kc,rfl,hk,hbw⟩;go_wp2_with fail;refine step3_done rfl ?_ ?_ ?_
     ·exact(toI HIp ⟨HI.out.1.trans (Touch.of_below hbw),(fun h=>(HI.out.2.1 h).go hbw),(fun h=>absurd ((HL.out.2 10 (by simp)).symm.trans h) (by simp)),(fun h=>absurd ((HL.out.2 14 (by simp)).symm.trans h) (by simp))⟩)
     ·exact hbw
     ·exact(toV HV ⟨_,rfl,ka,kc,rfl,hk.mono fun z hz=>⟨⟨by omega,hz.2⟩,rfl⟩⟩)
    ·obtain⟨y7,u7,h7⟩:=hV;simp only[u7];have U7:=Lib.hid u7;clear u7;have HI:=Lib.hid hI;obtain⟨ka,kc,rfl,hk⟩:=h7;have HK:=Lib.hid hk;clear hI hk;go_wp2_with fail;refine step3_done rfl ?_ ?_ ?_
     ·exact(toI HIp HI.out)
     ·exact(Below.refl _ _)
     ·exact(toV HV ⟨_,rfl,ka,kc,rfl,HK.out⟩)
    ·obtain⟨y8,u8,h8⟩:=hV;simp only[u8];have U8:=Lib.hid u8;clear u8;have HL:=Lib.hid hL;have HI:=Lib.hid hI;have hzW:=hI.1.size;obtain⟨ka,kc,rfl,hk⟩:=h8;have HK:=Lib.hid hk;clear hI hL hk;go_wp2_with fail;have uW:∀o,Below W.heap.size W (W.alloc o):=fun o=>(Below.refl _ _).alloc (Nat.le_refl _) o;refine step3_done rfl ?_ ?_ ?_
     ·exact(toI HIp ⟨HI.out.1.below (uW _) hzW,(fun h=>(HI.out.2.1 h).go (uW _)),(fun h=>absurd ((HL.out.2 10 (by simp)).symm.trans h) (by simp)),(fun h=>absurd ((HL.out.2 14 (by simp)).symm.trans h) (by simp))⟩)
     ·exact(uW _)
     ·exact(toV HV ⟨_,_,rfl,Blk.new _ _,hzW,RowV.go (v:=.slice ka o.length kc) ⟨ka,kc,rfl,HK.out⟩ (uW _)⟩)
    ·obtain⟨u5,⟨g9,y9,u9,b9,l9,r9⟩⟩:=hV;simp only[u5,u9];have U9:=Lib.hid u9;clear u5 u9;have hM:=hI.2.1 (hL.2 10 (by simp));have HL:=Lib.hid hL;have HI:=Lib.hid hI;have HMW:=Lib.hid hM;obtain⟨ka,kc,rfl,hk⟩:=r9;have B9:=Lib.hid b9;have hzW:=hI.1.size;have hbW:base≤W.heap.size:=by have:=hM.mine g (.inl rfl);omega
     have Hy:Hid (Rep.rd (fun z=>z<W.heap.size∧¬WX base g vs z∧(vs 4).ownBlock≠some z) W (⟨0,o⟩:Rec) [.int .i64 0,.slice ka o.length kc]):=by
      refine⟨ka,_,kc,rfl,(by show I64 0;unfold I64;omega),hk.mono fun z hz=>?_⟩;obtain⟨z1,z2⟩:=hz;exact⟨⟨z2,(fun h=>by rcases h with h|h;omega;have:=(Hmine.out z h).2;omega),fun h=>by have:=(Hmine.out z (.inr ⟨4,by omega,h⟩)).2;omega⟩,rfl⟩
     clear hI hL b9 hM hk;go_wp2_with (at_builtin;refine wpList_append_oneO rfl _ _ _ (by rfl) base 167 i0 _ 32 Tryd.underlying33 Hi.out Hy0.out Hy1.out Hy2.out rfl (vs 4) t.recs (by rfl) (HMW.out.rows 4 (by omega)) g9 1 _ [.int .i64 0,.slice ka o.length kc] ⟨0,o⟩ (by rfl) B9.out Hy.out (by have:=Hrl.out;unfold maxLen;omega) (by have:=Hrl.out;omega) hbW ?_);intro g2 o2 cap w7 hown7 hgrow hat hlt7;have HG:=Lib.hid hgrow;have HP:Hid (WkG base g (t.note o) vs (fun q=>if q=4 then Value.slice (some ⟨g2,o2,none⟩) (t.recs.length+1) cap else vs q) w7):=HMW.out.grow (t':=t.note o) (j:=4) (by omega) hgrow (fun k hk=>by
      have e:g2=k:=by simpa[Value.ownBlock]using hk
      subst e;exact hat) hown7 (fun i hi X v W h=>by
       match i,hi with
       |0,_=>exact h
       |1,_=>exact h
       |2,_=>exact h
       |3,_=>exact h
       |4,hi=>exact absurd rfl hi
       |i+5,_=>trivial) rfl HMW.out.fit
     have HT:=Lib.hid (HI.out.1.grown hgrow (fun k hk=>.inl (.inr ⟨4,by omega,hk⟩)));have Hat:Hid ((vs 4).ownBlock=some g2∨w.heap.size≤g2):=hat.imp_right fun h=>by omega
     clear hgrow hown7 hat HI HMW B9 Hy;go_wp2_with fail;refine step3_done rfl ?_ ?_ ?_
     ·exact(toI HIp ⟨HT.out,(fun h=>absurd h (by simp[setB])),(fun _ _=>HP.out),(fun h:L 14=true=>absurd ((HL.out.2 14 (by simp)).symm.trans h) (by simp))⟩)
     ·exact HG.out
     ·exact(toV HV ⟨_,_,_,rfl,Hat.out⟩)
    ·have u0:=hV;clear hV;simp only[u0];clear u0;have HI:=Lib.hid hI;clear hI;go_wp2_with fail;refine step3_done rfl ?_ ?_ ?_
     ·exact(toI HIp HI.out)
     ·exact(Below.refl _ _)
     ·exact(toV HV rfl)
    ·have u11:=hV;clear hV;simp only[u11];clear u11;have HI:=Lib.hid hI;clear hI;go_wp2_with fail;refine step3_done rfl ?_ ?_ ?_
     ·exact(toI HIp HI.out)
     ·exact(Below.refl _ _)
     ·exact(toV HV rfl)
    ·have u12:=hV;clear hV;simp only[u12];clear u12;have HI:=Lib.hid hI;clear hI;go_wp2_with fail;refine step3_done rfl ?_ ?_ ?_
     ·exact(toI HIp HI.out)
     ·exact(Below.refl _ _)
     ·exact(toV HV rfl)
    ·obtain⟨⟨g10,o10,c10,u10,n10⟩,u13⟩:=hV;simp only[u10,u13];have U10:=Lib.hid u10;clear u10 u13;have hM:=hI.2.2.1 (hL.1 10 (by simp)) (hL.2 14 (by simp));rw[U10.out]at hM;have bM:=hM.box;obtain⟨-,-,-,-,-,-,-,-,-,p9⟩:=blk10_cells bM;have fW:=bM.frozen;have hlt:=bM.lt;have HL:=Lib.hid hL;have HI:=Lib.hid hI;have HMW:=Lib.hid hM;have HBM:=Lib.hid bM;clear hI hL hM bM;go_wp2_with fail;have ht:=touch1 (w:=W) (g:=g) (i:=9) (.slice (some ⟨g10,o10,none⟩) (t.recs.length+1) c10);refine step3_done (v:=undef) rfl ?_ ?_ ?_
     ·refine toI HIp ⟨HI.out.1.trans (ht.mono fun k _ hk=>.inl hk),(fun h:L 10=false=>absurd ((HL.out.1 10 (by simp)).symm.trans h) (by simp)),(fun _ h=>absurd h (by simp[setB])),(fun _=>⟨_,HMW.out.put ht (HBM.out.set 9 _) (fun i X v W h=>h) HMW.out.fit,?_⟩)⟩;rintro z (h|⟨q,hq,h⟩)
      ·exact .inl (.inl h)
      ·by_cases e:q=4
       ·subst e;simp only[if_true]at h;have e:g10=z:=by simpa[Value.ownBlock]using h
        subst e;rcases n10 with h|h
        ·exact .inl (.inr ⟨4,by omega,h⟩)
        ·exact .inr h
       ·simp only[if_neg e]at h;exact .inl (.inr ⟨q,hq,h⟩)
     ·exact ht
     ·exact toV HV rfl
   case fin=>
    intro x W L hL hI hV;replace hI:(Touch (Mine g vs) w W∧(L 10=false→WkM base g t vs W)∧(L 10=true→L 14=false→WkG base g (t.note o) vs (fun q=>if q=4 then x 10 else vs q) W)∧(L 14=true→∃v2,WkM base g (t.note o) v2 W∧∀z,Mine g v2 z→Mine g vs z∨w.heap.size≤z)):=ofI HIp hI;rw[HV.out]at hV;simp only[AllV,and_true]at hV;obtain⟨u0,u1,u2,u3,u4,u5,u6,⟨g10,o10,c10,u10,n10⟩,u11,u12,u13,u14⟩:=hV;simp only[getsD,List.getD_cons_succ,List.getD_cons_zero,List.length_cons,List.length_nil,List.range,List.range.loop,u0,u1,u2,u3,u4,u5,u6,u10,u11,u12,u13,u14,Act.put,List.setIfInBounds_toArray,List.set_cons_succ,List.set_cons_zero];clear u0 u1 u2 u3 u4 u5 u6 u10 u11 u12 u13 u14;obtain⟨v2,hM2,hm2⟩:=hI.2.2.2 (hL 14 (by simp));have HW:Hid (WkS base g (t.recd o) vs w W):=by
     rw[HR.out];exact⟨v2,hM2,hI.1,hm2⟩
    clear hI hL hM2 hm2;go_wp2_with fail;go_meet
    case rel=>exact HW.out
  ·have hb0:(t.node.me==0)=false:=by simpa using h0
   have hR:t.recd o=t:=if_neg h0;have HR:=Lib.hid hR;clear hR;go_wp2_with fail;go_meet
   case rel=>rw[HR.out];exact HM.out.stay
 case rest=>
  have HW0:=Lib.hid hcut;obtain⟨v1,m1,-,-⟩:=hcut;obtain⟨-,-,-,-,-,p5,-⟩:=blk10_cells m1.box;obtain⟨sa0,sc0,hv0⟩:=own_app (m1.rows 0 (by omega):OwnO (WX base g v1) base (v1 0) (t.recd o).node.sides wc);rw[hv0,len_recd]at p5;have hsl:t.node.sides.length≤maxLen:=by
   have h0:OwnO (WX base g v1) base (v1 0) (t.recd o).node.sides wc:=m1.rows 0 (by omega);obtain⟨_,_,_,h1,h2,_⟩:=h0.form;rw[len_recd]at h1;omega
  unfold maxLen at hsl;generalize hNS:t.node.sides.length=NS at*;have HNS:=Lib.hid hNS;clear m1 hv0 hNS p0;go_wp2_with fail;go_loopw [37] (fun vi wr=>∃k:Nat,k≤NS∧vi=.int .i64 (k:Int)∧WkS base g ((t.recd o).fwdK o but k) vs w wr) (fun vi _=>NS-(intOf vi).toNat)
  case atStart=>exact⟨0,by omega,rfl,HW0.out⟩
  case round=>
   obtain⟨k,hk,rfl,v2,m2,ht2,hm2⟩:=hrel;have M2:=Lib.hid m2;have HS2:=Lib.hid (And.intro ht2 hm2);clear m2 ht2 hm2 HW0 p5;by_cases hlt:k<NS
   ·have hlt':(k:Int)<(NS:Int):=by omega
    have hks:k<((t.recd o).fwdK o but k).node.sides.length:=by rw[len_fwdK,len_recd,HNS.out];exact hlt
    obtain⟨sr,so,sc,sxs,hv0,hsr1,hsr2,hsr3,hsr4,hsr5,hsr6,hsr7,hsr8⟩:=M2.out.side k hks;rw[len_fwdK,len_recd,HNS.out]at hv0 hsr4;rw[←Tn.side_get _ k hks]at hsr6;have Hsk:=Lib.hid (Hsd.out k hlt);have Hpk:=Lib.hid (Hpo.out k hlt);have Hnx:Hid ((t.recd o).fwdK o but (k+1)=((t.recd o).fwdK o but k).fwd1 o but k):=rfl;have Hks:Hid (k<((t.recd o).fwdK o but k).node.sides.length∧((t.recd o).fwdK o but k).node.sides.length=NS):=⟨hks,by rw[len_fwdK,len_recd,HNS.out]⟩;generalize (t.recd o).fwdK o but k=t1 at*;generalize ht2:(t.recd o).fwdK o but (k+1)=t2 at*;have Ht2:=Lib.hid ht2;clear ht2;obtain⟨ea,ec,la,lc,qa,qc,rfl,r1,r2,r3,hpe,hef,hlf⟩:=hsr6;have y1:wr.cell? ⟨sr,so+k*10+1,none⟩=some _:=hsr7 1 _ rfl;have y2:wr.cell? ⟨sr,so+k*10+2,none⟩=some _:=hsr7 2 _ rfl;have y3:wr.cell? ⟨sr,so+k*10+3,none⟩=some _:=hsr7 3 _ rfl;have y4:wr.cell? ⟨sr,so+k*10+4,none⟩=some _:=hsr7 4 _ rfl;obtain⟨-,-,-,-,-,p5,-⟩:=blk10_cells M2.out.box;rw[hv0]at p5;have hkc:(k:Int)<(sc:Int):=by omega
    have hscm:(sc:Int)≤9223372036854775807:=by unfold maxLen at hsr5;omega
    have HV0:=Lib.hid hv0;have HFr:=Lib.hid hsr8;have HR1:=Lib.hid r1;have Hft:=Lib.hid (And.intro hpe (And.intro hef hlf));have Hsr:=Lib.hid (And.intro hsr1 (And.intro hsr2 hsr3));clear hv0 hsr7 hsr8 r1 r2 r3 hpe hef hlf hks hsr1 hsr2 hsr3 hsr4 hsr5;by_cases hbt:(k:Int)=but
    ·have hT:t2=t1:=by rw[Hnx.out];unfold Tn.fwd1;rw[if_pos (.inl hbt)]
     have HW:Hid (WkS base g t2 vs w wr):=by rw[hT];exact⟨v2,M2.out,HS2.out⟩
     clear hT;subst hbt;go_wp2_with fail
     case roundEnd=>
      refine⟨⟨k+1,by omega,by push_cast;rfl,by rw[Ht2.out];exact HW.out⟩,?_⟩;simp[intOf];omega
    ·have hbb:((k:Int)==but)=false:=by simpa using hbt
     by_cases hj:(t1.side k).joined=true
     ·obtain⟨hE,hq⟩:=Hsk.out hj hbt;have hT:t2=t1.tell o k:=by
       rw[Hnx.out];unfold Tn.fwd1;rw[if_neg];rintro(h|h)
       ·exact hbt h
       ·rw[hj]at h;cases h
      rw[hj]at y1;have HT:=Lib.hid hT;have HSd:=Lib.hid (fun W (hW:Below wr.heap.size wr W)=>send_ok (t1.side k).e.sent (t1.side k).e.heard (t1.side k).e.pending o ea oa _ ec _ oc W (Hg.out.wk HM.out (HS2.out.1.trans (Touch.of_below hW))) ((HR1.out.mono fun z hz=>⟨hz.1,rfl⟩:RdS (· <wr.heap.size) wr _ ea _ ec).go hW) (Hr.out.mono fun z hz=>⟨Nat.lt_of_lt_of_le (Nat.lt_of_lt_of_le hz.1 HS2.out.1.size) hW.size,(hW.block z (Nat.lt_of_lt_of_le hz.1 HS2.out.1.size)).trans (HS2.out.1.block z hz.1 hz.2)⟩) Hft.out.2.1.1 Hft.out.2.1.2 hE);have Hq:=Lib.hid hq;have HY:=Lib.hid (And.intro y2 (And.intro y3 y4));have HE2:Hid (Ed.fits ⟨(t1.side k).e.sent+1,(t1.side k).e.heard,(t1.side k).e.pending++[o]⟩):=⟨send_fits hE,Hft.out.2.1.2⟩;clear hT hE hq hj Hsk;go_wp2_with fail;refine(HSd.out wr (Below.refl _ _)).mono ?_;rintro e w3 ⟨ev,rfl,hev,b3⟩;generalize hpl:(t1.side k).e.pending++[o]=pl at*;have Hpl:=Lib.hid hpl;clear hpl;obtain⟨pa,pc,rfl,hp⟩:=(OwnO.of hev).rd (A:=Fresh wr.heap.size w3) (fun z hz hx=>⟨Nat.le_of_not_lt hx,hz⟩) (fun z hz=>(OwnO.of hev).rowlt z hz);have B3:=Lib.hid b3;have HP:=Lib.hid hp;have hz3:=b3.size;clear hev hp b3 y1 y2 y3 y4 p5;go_upto_region 10 with fail;refine abs_w (fun W=>Below w3.heap.size w3 W∧Blk w3.heap.size (.cells #[.int .i64 ((t1.side k).e.sent+1),.int .i64 (t1.side k).e.heard,.slice pa pl.length pc] 67 (0,0)) W) ⟨(Below.refl _ _).alloc (Nat.le_refl _) _,Blk.new w3 _⟩ ?_;rintro w4 ⟨b4,x4⟩;have B4:=Lib.hid (up B3.out b4);have X4:=Lib.hid x4;have hz4:=b4.size;have hl4:=x4.lt;have hrw:w4.heap[sr]?=wr.heap[sr]?:=B4.out.block sr Hsr.out.2.1;have q0:=x4.cell 0;have q1:=x4.cell 1;have q2:=x4.cell 2;have c2:w4.cell? ⟨sr,so+k*10+2,none⟩=some (.int .i64 (t1.side k).e.sent):=(cell_keep hrw).trans HY.out.1;have c3:w4.cell? ⟨sr,so+k*10+2+1,none⟩=some (.int .i64 (t1.side k).e.heard):=(cell_keep hrw).trans HY.out.2.1;have c4:w4.cell? ⟨sr,so+k*10+2+2,none⟩=some (.slice ea (t1.side k).e.pending.length ec):=(cell_keep hrw).trans HY.out.2.2;have f2:w4.frozen? ⟨sr,so+k*10+2,none⟩=false:=(World.frozen?_of_block (a:=⟨sr,so+k*10+2,none⟩) hrw).trans (HFr.out (k*10+2) (by omega));have f3:w4.frozen? ⟨sr,so+k*10+2+1,none⟩=false:=(World.frozen?_of_block (a:=⟨sr,so+k*10+2+1,none⟩) hrw).trans (HFr.out (k*10+3) (by omega));have f4:w4.frozen? ⟨sr,so+k*10+2+2,none⟩=false:=(World.frozen?_of_block (a:=⟨sr,so+k*10+2+2,none⟩) hrw).trans (HFr.out (k*10+4) (by omega));have hmi:=M2.out.mine;obtain⟨hu1,hu2⟩:=(M2.out.go B4.out).updEdge k Hks.out.1 (by rw[Hks.out.2];exact HV0.out) ⟨(t1.side k).e.sent+1,(t1.side k).e.heard,pl⟩ HE2.out pa pc (HP.out.mono fun z hz=>⟨⟨by have:=hz.2;omega,(fun h=>by
       rcases h with h|h
       ·have:=M2.out.gb;have:=M2.out.lt;have:=hz.1;omega
       ·have:=(hmi z h).2;have:=hz.1;omega),fun e=>by have:=Hsr.out.2.1;have:=hz.1;omega⟩,b4.block z hz.2⟩)
      have HU:Hid (WkM base g (t1.setSide k {t1.side k with e:=⟨(t1.side k).e.sent+1,(t1.side k).e.heard,pl⟩}) v2 (((w4.setCell ⟨sr,so+k*10+2,none⟩ (.int .i64 ((t1.side k).e.sent+1))).setCell ⟨sr,so+k*10+2+1,none⟩ (.int .i64 (t1.side k).e.heard)).setCell ⟨sr,so+k*10+2+2,none⟩ (.slice pa pl.length pc))∧Touch (Mine g v2) w4 (((w4.setCell ⟨sr,so+k*10+2,none⟩ (.int .i64 ((t1.side k).e.sent+1))).setCell ⟨sr,so+k*10+2+1,none⟩ (.int .i64 (t1.side k).e.heard)).setCell ⟨sr,so+k*10+2+2,none⟩ (.slice pa pl.length pc))∧Blk w3.heap.size (.cells #[.int .i64 ((t1.side k).e.sent+1),.int .i64 (t1.side k).e.heard,.slice pa pl.length pc] 67 (0,0)) (((w4.setCell ⟨sr,so+k*10+2,none⟩ (.int .i64 ((t1.side k).e.sent+1))).setCell ⟨sr,so+k*10+2+1,none⟩ (.int .i64 (t1.side k).e.heard)).setCell ⟨sr,so+k*10+2+2,none⟩ (.slice pa pl.length pc))):=⟨hu1,hu2,X4.out.touch hu2 (fun h=>by have:=(hmi _ h).2;omega)⟩;have Hmi:=Lib.hid hmi;clear hu1 hu2 hrw b4 x4 hmi HP;go_upto_region 11 with fail;refine abs_w (fun W=>WkM base g (t1.setSide k {t1.side k with e:=⟨(t1.side k).e.sent+1,(t1.side k).e.heard,pl⟩}) v2 W∧Touch (Mine g v2) w4 W∧Blk w3.heap.size (.cells #[.int .i64 ((t1.side k).e.sent+1),.int .i64 (t1.side k).e.heard,.slice pa pl.length pc] 67 (0,0)) W) HU.out ?_;rintro w5 ⟨m5,t5,x5⟩;have M5:=Lib.hid m5;have T5:Hid (Touch (Mine g v2) wr w5):=(Touch.of_below B4.out).trans t5;have X5:=Lib.hid x5;have hz5:=t5.size;have T05:Hid (Touch (Mine g vs) w w5):=by
       exact HS2.out.1.wk HS2.out.2 T5.out
      clear m5 t5 x5 HU q0 q1 q2 c2 c3 c4 f2 f3 f4 X4;obtain⟨Vp,HV⟩:∃Vp:Nat→Value→World→Prop,Hid (Vp=fun i v W=>match i with
       |0=>v=.pointer (some ⟨g,0,none⟩)
       |1=>v=.int .i64 (k:Int)
       |2=>v=.pointer (some ⟨w3.heap.size,1,none⟩)
       |3=>v=.int .i64 (t1.side k).e.heard
       |4=>v=.slice oa o.length oc
       |5=>∃y,v=y∧RowV w5.heap.size o y W
       |6=>∃y,v=.agg #[.int .i64 1,.int .i64 (t1.side k).e.heard,.int .i64 0,y,.string noText]∧RowV w5.heap.size o y W
       |_=>v=.tuple #[]):=⟨_,rfl⟩
      obtain⟨Ip,HIp⟩:∃Ip:(Nat→Bool)→(Nat→Value)→World→Prop,Hid (Ip=fun L x W=>((L 7=false→Below w5.heap.size w5 W)∧(L 7=true→WkS base g (t1.tell o k) v2 w5 W))):=⟨_,rfl⟩;refine region_lit3 (by kernel_rfl) (by kernel_rfl) (by kernel_rfl) [[],[],[],[2],[],[4],[2,3,4,5],[0,1,2,3,4,5,6]] (by kernel_rfl) [some 71,some 72,some 73,some 74,some 75,some 76,some 77,some 78] (by kernel_rfl) [[0,7],[1,7],[2,3,6,7],[3,6,7],[4,5,6,7],[5,6,7],[6,7],[7]] (by kernel_rfl) [[],[],[],[],[],[7],[7],[]] [[],[],[],[2],[],[4],[3,5],[0,1,6]] (by kernel_rfl)
       Ip
       Vp
       (fun j W W'=>match j with
        |7=>True
        |_=>Below W.heap.size W W')
       [fun x=>⟨(fZm 0 (.pointer (some ⟨g,0,none⟩)) (fEm 71)).toArray,[]⟩,fun x=>⟨(fZm 7 (.int .i64 (k:Int)) (fEm 65)).toArray,[]⟩,fun x=>⟨(fZm 9 (.pointer (some ⟨w3.heap.size,0,none⟩)) (fEm 64)).toArray,[]⟩,fun x=>⟨(fZm 73 (x 2) (fEm 1)).toArray,[]⟩,fun x=>⟨(fZm 1 (.slice oa o.length oc) (fEm 74)).toArray,[]⟩,fun x=>⟨(fZm 75 (x 4) (fEm 1)).toArray,[]⟩,fun x=>⟨(fZm 74 (x 3) (fZm 1 (x 5) (fEm 1))).toArray,[]⟩,fun x=>⟨(fZm 71 (x 0) (fZm 0 (x 1) (fZm 4 (x 6) (fEm 1)))).toArray,[]⟩]
       ?hF ?mono ?h0 ?step [0,1,2,3,4,7] (by kernel_rfl) ?fin
      case hF=>
       iterate 8 refine⟨fun x=>⟨by kernel_rfl,by kernel_rfl⟩,?_⟩
       trivial
      case mono=>
       intro i j hi hj hne hna hnk v W W' hE hv;rw[HV.out]at hv⊢;simp only[List.length_cons,List.length_nil]at hi hj
       match i,hi with
       |0,_|1,_|2,_|3,_|4,_|7,_=>exact hv
       |5,_=>
        match j,hj with
        |5,_=>exact absurd rfl hne
        |4,_=>exact absurd (by simp) hna
        |7,_=>exact absurd (by simp) hnk
        |0,_|1,_|2,_|3,_|6,_=>exact(by obtain⟨y,e,h⟩:=hv;exact⟨y,e,h.go hE⟩)
        |m+8,h=>exact absurd h (by omega)
       |6,_=>
        match j,hj with
        |6,_=>exact absurd rfl hne
        |2,_|3,_|4,_|5,_=>exact absurd (by simp) hna
        |7,_=>exact absurd (by simp) hnk
        |0,_|1,_=>exact(by obtain⟨y,e,h⟩:=hv;exact⟨y,e,h.go hE⟩)
        |m+8,h=>exact absurd h (by omega)
       |m+8,h=>exact absurd h (by omega)
      case h0=>intro x;exact toI HIp ⟨(fun _=>(Below.refl _ _).drew),(fun h=>by cases h)⟩
      case step=>
       refine⟨?_,?_,?_,?_,?_,?_,?_,?_,trivial⟩
       all_goals
        intro x W L hI hL hV;replace hI:((L 7=false→Below w5.heap.size w5 W)∧(L 7=true→WkS base g (t1.tell o k) v2 w5 W)):=ofI HIp hI;rw[HV.out]at hV;simp only[AllV,and_true]at hV;dsimp only[fZm,fEm,List.reduceReplicate,List.cons_append,List.nil_append]
       iterate 3
        ·clear hV;have HI:=Lib.hid hI;clear hI;go_wp2_with fail;refine step3_done rfl ?_ ?_ ?_
         ·exact(toI HIp HI.out)
         ·exact(Below.refl _ _)
         ·exact(toV HV rfl)
       ·have u2:=hV;clear hV;simp only[u2];clear u2;have q1:=(X5.out.go (hI.1 (hL.2 7 (by simp)))).cell 1;have HI:=Lib.hid hI;clear hI;go_wp2_with fail;refine step3_done rfl ?_ ?_ ?_
        ·exact(toI HIp HI.out)
        ·exact(Below.refl _ _)
        ·exact(toV HV rfl)
       ·clear hV;have HI:=Lib.hid hI;clear hI;go_wp2_with fail;refine step3_done rfl ?_ ?_ ?_
        ·exact(toI HIp HI.out)
        ·exact(Below.refl _ _)
        ·exact(toV HV rfl)
       ·have u4:=hV;clear hV;simp only[u4];clear u4;have hb:=hI.1 (hL.2 7 (by simp));have hzW:=hb.size;have HB:=Lib.hid hb;have HL:=Lib.hid hL;clear hI hL hb;go_wp2_with fail;refine(Hcl.out W (T05.out.trans (Touch.of_below HB.out))).mono ?_;rintro e W' ⟨ka,kc,rfl,hk,hbw⟩;go_wp2_with fail;refine step3_done rfl ?_ ?_ ?_
        ·exact(toI HIp ⟨(fun _=>up HB.out hbw),(fun h=>absurd ((HL.out.2 7 (by simp)).symm.trans h) (by simp))⟩)
        ·exact hbw
        ·exact(toV HV ⟨_,rfl,ka,kc,rfl,hk.mono fun z hz=>⟨⟨by omega,hz.2⟩,rfl⟩⟩)
       ·obtain⟨u3,⟨y5,u5,h5⟩⟩:=hV;simp only[u3,u5];have U5:=Lib.hid u5;clear u3 u5;have HI:=Lib.hid hI;obtain⟨ka,kc,rfl,hk⟩:=h5;have HK:=Lib.hid hk;clear hI hk;go_wp2_with fail;refine step3_done rfl ?_ ?_ ?_
        ·exact(toI HIp HI.out)
        ·exact(Below.refl _ _)
        ·exact(toV HV ⟨_,rfl,ka,kc,rfl,HK.out⟩)
       ·obtain⟨u0,u1,⟨y6,u6,h6⟩⟩:=hV;simp only[u0,u1,u6];have U6:=Lib.hid u6;clear u0 u1 u6;have hb:=hI.1 (hL.2 7 (by simp));have HB:=Lib.hid hb;obtain⟨ka,kc,rfl,hk⟩:=h6;have hmi:=M5.out.mine;have HK:Hid (RdS (NM g v2 W) W (editFr (t1.side k).e.heard o).op ka (editFr (t1.side k).e.heard o).op.length kc):=hk.mono fun z hz=>⟨⟨hz.2,fun h=>by have:=(hmi z h).2;have:=hz.1;omega⟩,rfl⟩;clear hI hL hb hk hmi;go_wp2_with fail;refine(ndSend_any base g (t1.setSide k {t1.side k with e:=⟨(t1.side k).e.sent+1,(t1.side k).e.heard,pl⟩}) v2 k (editFr (t1.side k).e.heard o) ka kc W (Hg.out.wk HM.out (T05.out.trans (Touch.of_below HB.out))) (M5.out.go HB.out) (by rw[len_setSide];exact Hks.out.1) HK.out ⟨by show I64 1;unfold I64;omega,Hft.out.2.1.2,by show I64 0;unfold I64;omega,by show noText.size≤strMax;rw[noText_size];unfold strMax;omega⟩ Hpk.out.2 (by rw[side_set _ _ _ Hks.out.1];exact Hq.out)).mono ?_;rintro e W' ⟨rfl,hs⟩;go_wp2_with fail;refine step3_done rfl (toI HIp ⟨(fun h=>absurd h (by simp[setB])),fun _=>?_⟩) trivial (toV HV rfl);unfold Tn.tell edE;rw[Hpl.out];exact WkS.trans (Touch.of_below HB.out) (fun z h=>.inl h) hs
      case fin=>
       intro x W L hL hI hV;replace hI:((L 7=false→Below w5.heap.size w5 W)∧(L 7=true→WkS base g (t1.tell o k) v2 w5 W)):=ofI HIp hI;rw[HV.out]at hV;simp only[AllV,and_true]at hV;obtain⟨u0,u1,u2,u3,u4,u7⟩:=hV;simp only[getsD,List.getD_cons_succ,List.getD_cons_zero,List.length_cons,List.length_nil,List.range,List.range.loop,u0,u1,u2,u3,u4,u7,Act.put,List.setIfInBounds_toArray,List.set_cons_succ,List.set_cons_zero];clear u0 u1 u2 u3 u4 u7;have HW:Hid (WkS base g t2 vs w W):=by
        rw[HT.out];exact WkS.trans HS2.out.1 HS2.out.2 (WkS.trans T5.out (fun z h=>.inl h) (hI.2 (hL 7 (by simp))))
       clear hI hL;go_wp2_with fail
       case roundEnd=>
        refine⟨⟨k+1,by omega,by push_cast;rfl,by rw[Ht2.out];exact HW.out⟩,?_⟩;simp[intOf];omega
     ·have hj:(t1.side k).joined=false:=by simpa using hj
      have hT:t2=t1:=by rw[Hnx.out];unfold Tn.fwd1;rw[if_pos (.inr hj)]
      have HW:Hid (WkS base g t2 vs w wr):=by rw[hT];exact⟨v2,M2.out,HS2.out⟩
      rw[hj]at y1;clear hT hj;go_wp2_with fail
      case roundEnd=>
       refine⟨⟨k+1,by omega,by push_cast;rfl,by rw[Ht2.out];exact HW.out⟩,?_⟩;simp[intOf];omega
   ·have hkn:k=NS:=by omega
    have HW:=Lib.hid (Hfw.out wr (by rw[←hkn];exact⟨v2,M2.out,HS2.out⟩));have hlt':¬((k:Int)<(NS:Int)):=by omega
    clear hkn;go_wp2_with fail;go_end0;exact⟨rfl,HW.out⟩
end Go.Proofs.YtkbfhgcjimfgkaaDoor
set_option linter.unusedSimpArgs false
namespace Go.Proofs.YtkbfhgcjimfgkaaDoor
open Go.RowKit
theorem side_ne (t:Tn)(s i:Nat)(y:Sd)(h:i≠s):(t.setSide s y).side i=t.side i:=by
 show(t.node.sides.set s y).getD i noSd=t.node.sides.getD i noSd
 rw[List.getD_eq_getElem?_getD,List.getElem?_set_ne (fun e=>h e.symm),←List.getD_eq_getElem?_getD]
theorem send_side_ne (t:Tn)(s i:Nat)(f:Fr)(h:i≠s):(t.send s f).side i=t.side i:=by
 unfold Tn.send;simp only;split
 ·exact side_ne t s i _ h
 ·rfl
theorem fwd1_side_ne (t:Tn)(o:Op)(but:Int)(k i:Nat)(h:i≠k):(t.fwd1 o but k).side i=t.side i:=by
 unfold Tn.fwd1;split
 ·rfl
 ·unfold Tn.tell;rw[send_side_ne _ _ _ _ h,side_ne _ _ _ _ h]
theorem fwdK_side (t:Tn)(o:Op)(but:Int):∀k i,k≤i→(t.fwdK o but k).side i=t.side i
 |0,_,_=>rfl
 |k+1,i,h=>by
  unfold Tn.fwdK;rw[fwd1_side_ne _ _ _ _ _ (by omega),fwdK_side t o but k i (by omega)]
theorem recd_side (t:Tn)(o:Op)(i:Nat):(t.recd o).side i=t.side i:=by
 unfold Tn.recd;split<;>rfl
theorem send_posts (t:Tn)(s:Nat)(f:Fr):(t.send s f).posts.length≤t.posts.length+8:=by
 unfold Tn.send;split
 ·show(t.posts++_).length≤_
  rw[List.length_append,List.length_map];have:=(sendL_fits (t.side s).l f).2;omega
 ·omega
theorem fwd1_posts (t:Tn)(o:Op)(but:Int)(k:Nat):(t.fwd1 o but k).posts.length≤t.posts.length+8:=by
 unfold Tn.fwd1;split
 ·omega
 ·exact send_posts _ _ _
theorem fwdK_posts (t:Tn)(o:Op)(but:Int):∀k,(t.fwdK o but k).posts.length≤t.posts.length+8*k
 |0=>by show t.posts.length≤_;omega
 |k+1=>by
  have h1:=fwd1_posts (t.fwdK o but k) o but k;have h2:=fwdK_posts t o but k
  show((t.fwdK o but k).fwd1 o but k).posts.length≤_
  omega
theorem recd_posts (t:Tn)(o:Op):(t.recd o).posts=t.posts:=by
 unfold Tn.recd;split<;>rfl
end Go.Proofs.YtkbfhgcjimfgkaaDoor
set_option linter.unusedSimpArgs false
namespace Go.Proofs.YtkbfhgcjimfgkaaDoor
open Go.RowKit
theorem lastT_cons {p q:Op}{l:List Op}:lastT (p::q::l)=lastT (q::l):=by unfold lastT;rw[List.getLast?_cons_cons]
theorem chain_snoc:∀(l:List Op)(q:Option Int)(o:Op),chainFrom q l=true→check o=0→(l=[]→∀t,q=some t→sumF o=t)→(∀t,lastT l=some t→sumF o=t)→chainFrom q (l++[o])=true
 |[],q,o,_,ho,h1,_=>by
  cases q with
  |none=>show chainFrom none [o]=true;rw[chain_none ho];rfl
  |some t=>show chainFrom (some t) [o]=true;rw[chain_on ho (h1 rfl t rfl)];rfl
 |p::l,q,o,h,ho,_,h2=>by
  have hp:check p=0:=by
   by_cases h0:check p=0
   ·exact h0
   ·rw[chain_bad h0]at h;cases h
  have hl:chainFrom (some (sumT p)) l=true:=by
   cases q with
   |none=>rw[chain_none hp]at h;exact h
   |some t=>
    have hs:sumF p=t:=by
     by_cases h0:sumF p=t
     ·exact h0
     ·rw[chain_off h0]at h;cases h
    rw[chain_on hp hs]at h;exact h
  have ih:=chain_snoc l (some (sumT p)) o hl ho (fun e t ht=>by
   subst e;injection ht with ht;subst ht;exact h2 _ rfl) (fun t ht=>by
   cases l with
   |nil=>cases ht
   |cons r l=>exact h2 t (by rw[lastT_cons];exact ht))
  show chainFrom q (p::(l++[o]))=true
  cases q with
  |none=>rw[chain_none hp];exact ih
  |some t=>
   have hs:sumF p=t:=by
    by_cases h0:sumF p=t
    ·exact h0
    ·rw[chain_off h0]at h;cases h
   rw[chain_on hp hs];exact ih
theorem edge_mk {s h:Int}{l:List Op}(s0:0≤s)(s1:s≤1048576)(h0:0≤h)(h1:h≤1048576)(hl:(l.length:Int)≤s)(hc:chainFrom none l=true):edgeCheck s h l=0:=by
 have ho:¬edgeOdd s h l:=by unfold edgeOdd;omega
 unfold edgeCheck;rw[if_neg ho,if_pos hc]
end Go.Proofs.YtkbfhgcjimfgkaaDoor
set_option linter.unusedSimpArgs false
namespace Go.Proofs.YtkbfhgcjimfgkaaDoor
open Go.RowKit
def sdTold (s:Sd)(o:Op):Sd:={edE s o with l:=if s.l.sendE (editFr s.e.heard o)=0 then s.l.sendL (editFr s.e.heard o)else s.l}
theorem tell_side (t:Tn)(o:Op)(i:Nat)(h:i<t.node.sides.length):(t.tell o i).side i=sdTold (t.side i) o:=by
 unfold Tn.tell Tn.send;simp only;rw[side_set t i _ h];have hl:(edE (t.side i) o).l=(t.side i).l:=rfl;rw[hl];by_cases hE:(t.side i).l.sendE (editFr (t.side i).e.heard o)=0
 ·rw[if_pos hE]
  show((t.setSide i (edE (t.side i) o)).setSide i _).side i=_
  rw[side_set _ i _ (by show i<(t.node.sides.set i _).length;rw[List.length_set];exact h)];unfold sdTold;rw[if_pos hE]
 ·rw[if_neg hE,side_set t i _ h];unfold sdTold;rw[if_neg hE];rfl
theorem send_node (t:Tn)(s:Nat)(f:Fr):(t.send s f).node={t.node with sides:=(t.send s f).node.sides}:=by
 unfold Tn.send;split<;>rfl
theorem tell_node (t:Tn)(o:Op)(i:Nat):(t.tell o i).node={t.node with sides:=(t.tell o i).node.sides}:=by
 unfold Tn.tell;rw[send_node];rfl
theorem fwd1_node (t:Tn)(o:Op)(but:Int)(i:Nat):(t.fwd1 o but i).node={t.node with sides:=(t.fwd1 o but i).node.sides}:=by
 unfold Tn.fwd1;split
 ·rfl
 ·rw[tell_node]
theorem fwdK_node (t:Tn)(o:Op)(but:Int):∀k,(t.fwdK o but k).node={t.node with sides:=(t.fwdK o but k).node.sides}
 |0=>rfl
 |k+1=>by
  have h:=fwdK_node t o but k
  show((t.fwdK o but k).fwd1 o but k).node=_
  rw[fwd1_node,h];rfl
theorem recd_node (t:Tn)(o:Op):(t.recd o).node=t.node:=by
 unfold Tn.recd;split<;>rfl
theorem fwdK_at (t:Tn)(o:Op)(but:Int):∀k,k≤t.node.sides.length→∀i,i<k→(t.fwdK o but k).side i=if(i:Int)=but∨(t.side i).joined=false then t.side i else sdTold (t.side i) o
 |0,_,i,h=>by omega
 |k+1,hk,i,h=>by
  show((t.fwdK o but k).fwd1 o but k).side i=_
  by_cases e:i=k
  ·subst e;have h1:=fwdK_side t o but i i (Nat.le_refl _);unfold Tn.fwd1;rw[h1];split
   ·rename_i hc;exact h1
   ·rename_i hc;rw[tell_side _ _ _ (by rw[len_fwdK];omega),h1]
  ·rw[fwd1_side_ne _ _ _ _ _ e];exact fwdK_at t o but k (by omega) i (by omega)
theorem forward_at (t:Tn)(o:Op)(but:Int)(i:Nat)(h:i<t.node.sides.length):(t.forward o but).side i=if(i:Int)=but∨(t.side i).joined=false then t.side i else sdTold (t.side i) o:=by
 unfold Tn.forward;rw[fwdK_at _ _ _ _ (by rw[len_recd];exact Nat.le_refl _) i h];rw[recd_side]
theorem forward_node (t:Tn)(o:Op)(but:Int):(t.forward o but).node={t.node with sides:=(t.forward o but).node.sides}:=by
 unfold Tn.forward;rw[fwdK_node,recd_node]
theorem forward_len (t:Tn)(o:Op)(but:Int):(t.forward o but).node.sides.length=t.node.sides.length:=by
 unfold Tn.forward;rw[len_fwdK,len_recd]
def SdB (b:Int)(s:Sd):Prop:=s.e.sent≤b∧s.e.heard≤b∧s.l.next+s.l.queue.length≤b∧s.l.heard≤b
def NdB (b:Int)(n:Nd):Prop:=∀s∈n.sides,SdB b s
theorem SdB.up {b c:Int}{s:Sd}(h:SdB b s)(hc:b≤c):SdB c s:=⟨by have:=h.1;omega,by have:=h.2.1;omega,by have:=h.2.2.1;omega,by have:=h.2.2.2;omega⟩
theorem sideOk_all {n:Nd}{s:Sd}(h:sideOk n s=true):edgeCheck s.e.sent s.e.heard s.e.pending=0∧s.l.check=0∧(s.joined=false→s.e.sent+s.e.heard=0)∧(s.joined=true→sideLast n s=true∧n.ready=true∧0<s.l.epoch):=by
 unfold sideOk at h;by_cases h1:edgeCheck s.e.sent s.e.heard s.e.pending=0
 ·rw[if_neg (by simpa using h1)]at h;by_cases h2:s.l.check=0
  ·rw[if_neg (by simpa using h2)]at h;cases hj:s.joined with
   |false=>
    rw[if_pos hj]at h;exact⟨h1,h2,fun _=>by simpa using h,fun h=>by cases h⟩
   |true=>
    rw[if_neg (by simp[hj])]at h;by_cases h3:sideLast n s=true
    ·rw[if_neg (by simp[h3])]at h;simp only[Bool.and_eq_true,decide_eq_true_eq]at h;exact⟨h1,h2,(fun h=>by cases h),fun _=>⟨h3,h.1,h.2⟩⟩
    ·rw[if_pos (by simpa using h3)]at h;cases h
  ·rw[if_pos h2]at h;cases h
 ·rw[if_pos h1]at h;cases h
theorem sideOk_mk {n:Nd}{s:Sd}(h1:edgeCheck s.e.sent s.e.heard s.e.pending=0)(h2:s.l.check=0)(h3:s.joined=false→s.e.sent+s.e.heard=0)(h4:s.joined=true→sideLast n s=true∧n.ready=true∧0<s.l.epoch):sideOk n s=true:=by
 unfold sideOk;rw[if_neg (by simpa using h1),if_neg (by simpa using h2)];cases hj:s.joined with
 |false=>rw[if_pos rfl];simpa using h3 hj
 |true=>
  obtain⟨k1,k2,k3⟩:=h4 hj;rw[if_neg (by simp),if_neg (by simp[k1]),k2];simpa using k3
theorem sideLast_eq {n:Nd}{s:Sd}(h:sideLast n s=true):∀t,lastT s.e.pending=some t→rc n.text=t:=by
 intro t ht;unfold sideLast at h;rw[ht]at h;simp only[beq_iff_eq]at h;exact h.symm
theorem sideLast_mk {n:Nd}{s:Sd}(h:∀t,lastT s.e.pending=some t→rc n.text=t):sideLast n s=true:=by
 unfold sideLast;cases hl:lastT s.e.pending with
 |none=>rfl
 |some t=>simp only[beq_iff_eq];exact(h t hl).symm
theorem lastT_snoc (l:List Op)(o:Op):lastT (l++[o])=some (sumT o):=by unfold lastT;simp
theorem edge_sends {n:Nd}{s:Sd}{o:Op}(h1:edgeCheck s.e.sent s.e.heard s.e.pending=0)(h2:sideLast n s=true)(h3:check o=0)(h4:sumF o=rc n.text)(h5:s.e.sent≠1048576):sendE s.e.sent s.e.heard s.e.pending o=0:=by
 unfold sendE;rw[if_neg (by simpa using h1),if_neg (by simpa using h3)];have h6:=sideLast_eq h2;cases hl:lastT s.e.pending with
 |none=>rw[if_neg (by simp),if_neg h5]
 |some t=>
  have:=h6 t hl;rw[if_neg (by simp;omega),if_neg h5]
theorem send_link {l:Lk}{f:Fr}{b:Int}(h1:l.check=0)(h2:l.next+l.queue.length≤b)(h3:b<1000000):(if l.sendE f=0 then l.sendL f else l).check=0∧(if l.sendE f=0 then l.sendL f else l).epoch=l.epoch∧(if l.sendE f=0 then l.sendL f else l).heard=l.heard∧
 (if l.sendE f=0 then l.sendL f else l).next+(if l.sendE f=0 then l.sendL f else l).queue.length≤b+1:=by
 by_cases hE:l.sendE f=0
 ·rw[if_pos hE];have hF:=push_all h1 f;have hs:l.sendL f=l.push f:=by unfold Lk.sendL;rw[if_pos hE]
  refine⟨sendL_check hE (by omega),by rw[hs];exact hF.ep,by rw[hs];exact hF.he,?_⟩;rw[hs];have h4:=congrArg List.length hF.all;have h5:=hF.nx;have h6:=hF.more;simp only[List.length_append,List.length_singleton]at h4 h5 h6;omega
 ·rw[if_neg hE];exact⟨h1,rfl,rfl,by omega⟩
theorem told_ok {n n':Nd}{s:Sd}{o:Op}{b:Int}(h:sideOk n s=true)(hj:s.joined=true)(ho:check o=0)(hF:sumF o=rc n.text)(hT:rc n'.text=sumT o)(hr:n'.ready=true)(hb:SdB b s)(hb1:b<1000000):sideOk n' (sdTold s o)=true∧SdB (b+1) (sdTold s o):=by
 obtain⟨k1,k2,-,k4⟩:=sideOk_all h;obtain⟨k5,k6,k7⟩:=k4 hj;obtain⟨b1,b2,b3,b4⟩:=hb;obtain⟨e1,e2,e3,e4,e5,e6⟩:=edgeCheck_zero k1;obtain⟨l1,l2,l3,l4⟩:=send_link (f:=editFr s.e.heard o) k2 b3 hb1;have h6:=sideLast_eq k5;refine⟨sideOk_mk ?_ l1 (fun h=>by have h':s.joined=false:=h;rw[hj]at h';cases h') (fun _=>⟨sideLast_mk fun t ht=>?_,hr,by rw[show(sdTold s o).l.epoch=s.l.epoch from l2];exact k7⟩),?_⟩
 ·show edgeCheck (s.e.sent+1) s.e.heard (s.e.pending++[o])=0
  refine edge_mk (by omega) (by omega) e3 e4 (by simp;omega) (chain_snoc _ _ _ e6 ho (fun _ t ht=>by cases ht) (fun t ht=>by have:=h6 t ht;omega))
 ·have ht':lastT (s.e.pending++[o])=some t:=ht;rw[lastT_snoc]at ht';injection ht' with ht';omega
 ·exact⟨by show s.e.sent+1≤b+1;omega,by show s.e.heard≤b+1;omega,l4,by rw[show(sdTold s o).l.heard=s.l.heard from l3];omega⟩
theorem idle_ok {n n':Nd}{s:Sd}(h:sideOk n s=true)(hj:s.joined=false):sideOk n' s=true:=by
 obtain⟨k1,k2,k3,-⟩:=sideOk_all h;exact sideOk_mk k1 k2 k3 (fun h=>by rw[hj]at h;cases h)
end Go.Proofs.YtkbfhgcjimfgkaaDoor
