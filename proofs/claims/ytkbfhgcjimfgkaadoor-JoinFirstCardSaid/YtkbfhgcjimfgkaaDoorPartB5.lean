/- The walk of text.Move. -/
import Derived.Test.YtkbfhgcjimfgkaaDoorPartB4
import Derived.Deep.MidRow
import Derived.Test.YtkbfhgcjimfgkaaDoorPartA5
set_option linter.unusedVariables false
set_option linter.unusedSimpArgs false
set_option linter.unusedSimpArgs false
namespace Go.Proofs.YtkbfhgcjimfgkaaDoor
open Go.RowKit
set_option maxRecDepth 100000 in
theorem node_ptr (g:Nat)(w:World):Calls Tryd.prog 27 #[.pointer (some ⟨g,0,none⟩)] w fun e w'=>e=.returned (.pointer (some ⟨g,0,none⟩))∧w=w':=by
 go_enter Tryd.func27,Tryd.ntmps27;go_wp2_with fail
 go_ret
 exact⟨rfl,rfl⟩
def NB (base g:Nat)(vs:Nat→Value)(w:World)(z:Nat):Prop:=base≤z∧NM g vs w z
def Tn.peer (t:Tn)(s:Nat):Int:=(t.node.sides.map Sd.peer).getD s 0
def Tn.post (t:Tn)(s:Nat)(ps:List Pkt):Tn:={t with posts:=t.posts++ps.map (fun p=>⟨t.peer s,p⟩)}
theorem Tn.post_nil (t:Tn)(s:Nat):t.post s []=t:=by unfold Tn.post;simp
theorem Tn.post_more (t:Tn)(s:Nat)(ps:List Pkt)(p:Pkt):(t.post s ps).post s [p]=t.post s (ps++[p]):=by
 unfold Tn.post Tn.peer;simp only[List.map_append,List.map_cons,List.map_nil,List.append_assoc]
theorem RdS.nb {α:Type} [Rep α] {base g:Nat}{vs vs':Nat→Value}{w w':World}{l:List α}{a:Option Addr}{n c:Nat}(h:RdS (NB base g vs w) w l a n c)(ht:Touch (Mine g vs) w w')(hm:∀z,Mine g vs' z→Mine g vs z∨w.heap.size≤z):RdS (NB base g vs' w') w' l a n c:=
 h.mono fun z hz=>⟨⟨hz.1,Nat.lt_of_lt_of_le hz.2.1 ht.size,fun h'=>by
  rcases hm z h' with h1|h1
  ·exact hz.2.2 h1
  ·have:=hz.2.1;omega⟩,ht.block z hz.2.1 hz.2.2⟩
theorem WkG.side {base g:Nat}{t:Tn}{us vs:Nat→Value}{w:World}(h:WkG base g t us vs w)(s:Nat)(hs:s<t.node.sides.length):
 ∃r o c xs,vs 0=.slice (some ⟨r,o,none⟩) t.node.sides.length c∧base≤r∧r<w.heap.size∧r≠g∧t.node.sides.length≤c∧c≤maxLen∧Rep.rd (fun b=>b<w.heap.size∧¬WX base g vs b∧b≠r) w t.node.sides[s] xs∧(∀j v,xs[j]?=some v→w.cell? ⟨r,o+s*10+j,none⟩=some v)∧
  (∀j,j<c*10→w.frozen? ⟨r,o+j,none⟩=false):=by
 have h0:OwnO (WX base g vs) base (vs 0) t.node.sides w:=h.rows 0 (by omega);rcases h0.row with⟨a,hv,hl,h2⟩|⟨r,o,cap,hv,h1,h2,h3,h4,h5,h6⟩
 ·rw[hl]at hs;simp at hs
 ·obtain⟨xs,r1,r2⟩:=h6 s _ (List.getElem?_eq_getElem hs);exact⟨r,o,cap,xs,hv,h1,h2,h.ne 0 (by omega) r (by rw[hv];rfl),h3,h4,r1,r2,fun j hj=>(h5 j hj).2⟩
theorem infoPo:(Tryd.prog.info? 48).map (fun i=>(i.zero,i.size,i.bytes))=some (some (.agg #[.int .i64 0,.int .i64 0,.int .i64 0,.bool false,.int .i64 0,.int .i64 0,.int .i64 0,.int .i64 0,.slice none 0 0,.string ⟨#[]⟩]),10,104):=by kernel_rfl
set_option maxRecDepth 100000 in
set_option maxHeartbeats 8000000 in
theorem post_any (base g:Nat)(t:Tn)(vs:Nat→Value)(s:Nat)(ps:List Pkt)(pa:Option Addr)(pc:Nat)(w:World)(h:WkM base g t vs w)(hs:s<t.node.sides.length)(hr:RdS (NB base g vs w) w ps pa ps.length pc)(hn:t.posts.length≤1000000)(hp:ps.length≤1000000):
 Calls Tryd.prog 43 #[.pointer (some ⟨g,0,none⟩),.int .i64 (s:Int),.slice pa ps.length pc] w fun e w'=>e=.returned (.tuple #[])∧WkS base g (t.post s ps) vs w w':=by
 have HM:=Lib.hid h;have Hr:=Lib.hid hr;have hpcm:=hr.2.2.1;have hpcn:=hr.2.1;obtain⟨i0,hi,hz0,hz1,hz2⟩:=info_parts infoPo;have Hi:=Lib.hid hi;have Hz0:=Lib.hid hz0;have Hz1:=Lib.hid hz1;have Hz2:=Lib.hid hz2;have Hn:=Lib.hid hn;have Hp:=Lib.hid hp;have hps:(ps.length:Int)≤1000000:=by omega
 have hgb:=h.gb;generalize hN:ps.length=N at*;have HN:=Lib.hid hN;clear h hr hi hz0 hz1 hz2 hN hn hp;go_enter Tryd.func43,Tryd.ntmps43;go_wp2_with fail;go_loopw [10] (fun vi wr=>∃k:Nat,k≤N∧vi=.int .i64 (k:Int)∧WkS base g (t.post s (ps.take k)) vs w wr) (fun vi _=>N-(intOf vi).toNat)
 case atStart=>exact⟨0,by omega,rfl,by rw[List.take_zero,Tn.post_nil];exact HM.out.stay⟩
 case round=>
  obtain⟨k,hk,rfl,v1,m1,ht1,hm1⟩:=hrel;by_cases hlt:k<N
  ·have hlt':(k:Int)<(N:Int):=by omega
   have hkl:k<ps.length:=by have:=HN.out;omega
   have R1:=Hr.out.nb ht1 hm1;obtain⟨pb,po,xs,rfl,hA,hpb,⟨oa,on,oc,rfl,hop,hf1,hf2,hf3,hf4⟩,hcl⟩:=R1.elem k hkl;have y0:wr.cell? ⟨pb,po+k*9,none⟩=some _:=hcl 0 _ rfl;have y1:wr.cell? ⟨pb,po+k*9+1,none⟩=some _:=hcl 1 _ rfl;have y2:wr.cell? ⟨pb,po+k*9+2,none⟩=some _:=hcl 2 _ rfl;have y3:wr.cell? ⟨pb,po+k*9+3,none⟩=some _:=hcl 3 _ rfl;have y4:wr.cell? ⟨pb,po+k*9+4,none⟩=some _:=hcl 4 _ rfl;have y5:wr.cell? ⟨pb,po+k*9+5,none⟩=some _:=hcl 5 _ rfl;have y6:wr.cell? ⟨pb,po+k*9+6,none⟩=some _:=hcl 6 _ rfl;have y7:wr.cell? ⟨pb,po+k*9+7,none⟩=some _:=hcl 7 _ rfl;have y8:wr.cell? ⟨pb,po+k*9+8,none⟩=some _:=hcl 8 _ rfl;have hon:=hop.1;subst hon;have hs1:s<(t.post s (ps.take k)).node.sides.length:=hs;have hnx:t.post s (ps.take (k+1))=(t.post s (ps.take k)).post s [ps[k]]:=by
    rw[Tn.post_more,List.take_succ_eq_append_getElem hkl]
   have hpl:(t.post s (ps.take k)).posts.length≤2000000:=by
    show(t.posts++_).length≤_
    rw[List.length_append,List.length_map,List.length_take];have:=Hn.out;omega
   have Hnx:=Lib.hid hnx;generalize t.post s (ps.take k)=t1 at*;generalize ps[k]=p at*;have M1:=Lib.hid m1;have HS1:=Lib.hid (And.intro ht1 hm1);have Hop:=Lib.hid hop;have Hff:=Lib.hid (And.intro hf1 (And.intro hf2 (And.intro hf3 hf4)));have hkc:(k:Int)<(pc:Int):=by omega
   clear m1 ht1 hm1 R1 hcl hop hf1 hf2 hf3 hf4 hA hnx;have HNP:=Lib.hid (fun W=>node_ptr g W);obtain⟨sr,so,sc,sxs,hv0,hsr1,hsr2,hsr3,hsr4,hsr5,hsr6,-,hsr8⟩:=M1.out.side s hs1;have hv3:∃a3 c3,v1 3=.slice a3 t1.posts.length c3:=by
    have h3:OwnO (WX base g v1) base (v1 3) t1.posts wr:=M1.out.rows 3 (by omega);obtain⟨a,c,h,-⟩:=h3.form;exact⟨a,c,h⟩
   have HV0:=Lib.hid hv0;have Hpe:Hid (I64 (t1.peer s)):=by
    obtain⟨_,_,_,_,_,_,-,-,-,-,hpe,-⟩:=hsr6;unfold Hid Tn.peer;rw[List.getD_eq_getElem?_getD,List.getElem?_map,List.getElem?_eq_getElem hs1];exact hpe
   have hmine:=M1.out.mine;have Hmine:=Lib.hid hmine;have Hnx2:=Lib.hid hpl;have hsI:(s:Int)<(sc:Int):=by omega
   have hsI2:(s:Int)<(t1.node.sides.length:Int):=by omega
   have hsc:(sc:Int)≤9223372036854775807:=by unfold maxLen at hsr5;omega
   clear hmine hv0 hpl hsr8 hv3 hsr6;generalize hNS:t1.node.sides.length=NS at*;have HNS:=Lib.hid hNS;clear hNS;go_wp2_with fail;refine abs_w (fun W=>Below wr.heap.size wr W∧Blk wr.heap.size (.cells #[.int .i64 p.epoch,.int .i64 p.number,.bool p.bare,.int .i64 p.ack,.int .i64 p.f.kind,.int .i64 p.f.heard,.int .i64 p.f.epoch,.slice oa p.f.op.length oc,.string p.f.text] 46 (0,0)) W) ⟨(Below.refl _ _).alloc (Nat.le_refl _) _,Blk.new wr _⟩ ?_;rintro w2 ⟨b2,x2⟩;have B2:=Lib.hid b2;have X2:=Lib.hid x2;have M2:=Lib.hid (M1.out.go b2);have hz2:=b2.size;clear b2 x2 y0 y1 y2 y3 y4 y5 y6 y7 y8;obtain⟨Vp,HV⟩:∃Vp:Nat→Value→World→Prop,Hid (Vp=fun i v W=>match i with
    |0=>v=.pointer (some ⟨g,0,none⟩)
    |1=>v=.pointer (some ⟨g,0,none⟩)
    |2=>v=.pointer (some ⟨g,0,none⟩)
    |3=>v=.pointer (some ⟨g,0,none⟩)
    |4=>v=.pointer (some ⟨g,8,none⟩)
    |5=>v=v1 3
    |6=>v=.pointer (some ⟨g,0,none⟩)
    |7=>v=.pointer (some ⟨g,0,none⟩)
    |8=>v=.pointer (some ⟨g,0,none⟩)
    |9=>v=.pointer (some ⟨g,5,none⟩)
    |10=>v=.slice (some ⟨sr,so,none⟩) NS sc
    |11=>v=.int .i64 (s:Int)
    |12=>v=.pointer (some ⟨sr,so+s*10,none⟩)
    |13=>v=.pointer (some ⟨sr,so+s*10,none⟩)
    |14=>v=.int .i64 (t1.peer s)
    |15=>v=.agg #[.int .i64 p.epoch,.int .i64 p.number,.bool p.bare,.int .i64 p.ack,.int .i64 p.f.kind,.int .i64 p.f.heard,.int .i64 p.f.epoch,.slice oa p.f.op.length oc,.string p.f.text]
    |16=>v=.agg #[.int .i64 (t1.peer s),.int .i64 p.epoch,.int .i64 p.number,.bool p.bare,.int .i64 p.ack,.int .i64 p.f.kind,.int .i64 p.f.heard,.int .i64 p.f.epoch,.slice oa p.f.op.length oc,.string p.f.text]
    |17=>∃b,v=.slice (some ⟨b,0,none⟩) 1 1∧Blk b (.cells #[.int .i64 (t1.peer s),.int .i64 p.epoch,.int .i64 p.number,.bool p.bare,.int .i64 p.ack,.int .i64 p.f.kind,.int .i64 p.f.heard,.int .i64 p.f.epoch,.slice oa p.f.op.length oc,.string p.f.text] 48 (0,0)) W∧w2.heap.size≤b
    |18=>∃q o n,v=.slice (some ⟨q,o,none⟩) (t1.posts.length+1) n∧((v1 3).ownBlock=some q∨wr.heap.size≤q)
    |19=>v=.pointer (some ⟨g,0,none⟩)
    |20=>v=.pointer (some ⟨g,0,none⟩)
    |21=>v=.pointer (some ⟨g,8,none⟩)
    |_=>v=undef):=⟨_,rfl⟩
   obtain⟨Ip,HIp⟩:∃Ip:(Nat→Bool)→(Nat→Value)→World→Prop,Hid (Ip=fun L x W=>(Touch (Mine g v1) w2 W∧(L 18=false→WkM base g t1 v1 W)∧(L 18=true→L 22=false→WkG base g (t1.post s [p]) v1 (fun q=>if q=3 then x 18 else v1 q) W)∧(L 22=true→∃v2,WkM base g (t1.post s [p]) v2 W∧∀z,Mine g v2 z→Mine g v1 z∨wr.heap.size≤z))):=⟨_,rfl⟩;refine region_lit3 (by kernel_rfl) (by kernel_rfl) (by kernel_rfl) [[],[],[1],[1,2],[1,2,3],[1,2,3,4],[],[6],[6,7],[6,7,8],[6,7,8,9],[],[6,7,8,9,10,11],[6,7,8,9,10,11,12],[6,7,8,9,10,11,12,13],[],[6,7,8,9,10,11,12,13,14,15],[6,7,8,9,10,11,12,13,14,15,16],[1,2,3,4,5,6,7,8,9,10,11,12,13,14,15,16,17],[0],[0,19],[0,19,20],[0,1,2,3,4,5,6,7,8,9,10,11,12,13,14,15,16,17,18,19,20,21]] (by kernel_rfl) [some 14,some 15,some 16,some 17,some 18,some 19,some 20,some 21,some 22,some 23,some 24,some 25,some 26,some 27,some 28,some 29,some 30,some 31,some 32,some 33,some 34,some 35,none] (by kernel_rfl) [[0,19,20,21,22],[1,2,3,4,5,18,22],[2,3,4,5,18,22],[3,4,5,18,22],[4,5,18,22],[5,18,22],[6,7,8,9,10,12,13,14,16,17,18,22],[7,8,9,10,12,13,14,16,17,18,22],[8,9,10,12,13,14,16,17,18,22],[9,10,12,13,14,16,17,18,22],[10,12,13,14,16,17,18,22],[11,12,13,14,16,17,18,22],[12,13,14,16,17,18,22],[13,14,16,17,18,22],[14,16,17,18,22],[15,16,17,18,22],[16,17,18,22],[17,18,22],[18,22],[19,20,21,22],[20,21,22],[21,22],[22]] (by kernel_rfl) [[],[],[],[],[],[],[],[],[],[],[],[],[],[],[],[],[],[18,22],[],[],[],[],[]] [[],[],[1],[2],[3],[4],[],[6],[7],[8],[9],[],[10,11],[12],[13],[],[14,15],[16],[5,17],[0],[19],[20],[18,21]] (by kernel_rfl)
    Ip
    Vp
    (fun j W W'=>match j with
     |18=>W.grownBy W' (v1 3).ownBlock
     |22=>Touch (fun z=>z=g) W W'
     |_=>Below W.heap.size W W')
    [fun x=>⟨(fZm 0 (.pointer (some ⟨g,0,none⟩)) (fEm 14)).toArray,[]⟩,fun x=>⟨(fZm 0 (.pointer (some ⟨g,0,none⟩)) (fEm 15)).toArray,[]⟩,fun x=>⟨(fZm 15 (x 1) (fEm 1)).toArray,[]⟩,fun x=>⟨(fZm 16 (x 2) (fEm 1)).toArray,[]⟩,fun x=>⟨(fZm 17 (x 3) (fEm 1)).toArray,[]⟩,fun x=>⟨(fZm 18 (x 4) (fEm 1)).toArray,[]⟩,fun x=>⟨(fZm 0 (.pointer (some ⟨g,0,none⟩)) (fEm 20)).toArray,[]⟩,fun x=>⟨(fZm 20 (x 6) (fEm 1)).toArray,[]⟩,fun x=>⟨(fZm 21 (x 7) (fEm 1)).toArray,[]⟩,fun x=>⟨(fZm 22 (x 8) (fEm 1)).toArray,[]⟩,fun x=>⟨(fZm 23 (x 9) (fEm 1)).toArray,[]⟩,fun x=>⟨(fZm 1 (.int .i64 (s:Int)) (fEm 24)).toArray,[]⟩,fun x=>⟨(fZm 24 (x 10) (fZm 0 (x 11) (fEm 1))).toArray,[]⟩,fun x=>⟨(fZm 26 (x 12) (fEm 1)).toArray,[]⟩,fun x=>⟨(fZm 27 (x 13) (fEm 1)).toArray,[]⟩,fun x=>⟨(fZm 7 (.pointer (some ⟨wr.heap.size,0,none⟩)) (fEm 22)).toArray,[]⟩,fun x=>⟨(fZm 28 (x 14) (fZm 0 (x 15) (fEm 1))).toArray,[]⟩,fun x=>⟨(fZm 30 (x 16) (fEm 1)).toArray,[]⟩,fun x=>⟨(fZm 19 (x 5) (fZm 11 (x 17) (fEm 1))).toArray,[]⟩,fun x=>⟨(fZm 14 (x 0) (fEm 19)).toArray,[]⟩,fun x=>⟨(fZm 33 (x 19) (fEm 1)).toArray,[]⟩,fun x=>⟨(fZm 34 (x 20) (fEm 1)).toArray,[]⟩,fun x=>⟨(fZm 32 (x 18) (fZm 2 (x 21) [])).toArray,[]⟩]
    ?hF ?mono ?h0 ?step [0,1,2,3,4,5,6,7,8,9,10,11,12,13,14,15,16,18,19,20,21,22] (by kernel_rfl) ?fin
   case hF=>
    iterate 23 refine⟨fun x=>⟨by kernel_rfl,by kernel_rfl⟩,?_⟩
    trivial
   case mono=>
    intro i j hi hj hne hna hnk v W W' hE hv;rw[HV.out]at hv⊢;simp only[List.length_cons,List.length_nil]at hi hj
    match i,hi with
    |0,_|1,_|2,_|3,_|4,_|5,_|6,_|7,_|8,_|9,_|10,_|11,_|12,_|13,_|14,_|15,_|16,_|19,_|20,_|21,_|22,_=>exact hv
    |17,_=>
     match j,hj with
     |17,_=>exact absurd rfl hne
     |6,_|7,_|8,_|9,_|10,_|11,_|12,_|13,_|14,_|15,_|16,_=>exact absurd (by simp) hna
     |18,_|22,_=>exact absurd (by simp) hnk
     |0,_|1,_|2,_|3,_|4,_|5,_|19,_|20,_|21,_=>exact(by obtain⟨b,h1,h2,h3⟩:=hv;exact⟨b,h1,h2.go hE,h3⟩)
     |m+23,h=>exact absurd h (by omega)
    |18,_=>
     match j,hj with
     |18,_=>exact absurd rfl hne
     |1,_|2,_|3,_|4,_|5,_|6,_|7,_|8,_|9,_|10,_|11,_|12,_|13,_|14,_|15,_|16,_|17,_=>exact absurd (by simp) hna
     |0,_|19,_|20,_|21,_|22,_=>exact(id hv)
     |m+23,h=>exact absurd h (by omega)
    |m+23,h=>exact absurd h (by omega)
   case h0=>intro x;exact toI HIp ⟨(Touch.refl _ _).drew,(fun _=>M2.out.go (Below.refl _ _).drew),(fun h=>by cases h),(fun h=>by cases h)⟩
   case step=>
    refine⟨?_,?_,?_,?_,?_,?_,?_,?_,?_,?_,?_,?_,?_,?_,?_,?_,?_,?_,?_,?_,?_,?_,?_,trivial⟩
    all_goals
     intro x W L hI hL hV;replace hI:(Touch (Mine g v1) w2 W∧(L 18=false→WkM base g t1 v1 W)∧(L 18=true→L 22=false→WkG base g (t1.post s [p]) v1 (fun q=>if q=3 then x 18 else v1 q) W)∧(L 22=true→∃v2,WkM base g (t1.post s [p]) v2 W∧∀z,Mine g v2 z→Mine g v1 z∨wr.heap.size≤z)):=ofI HIp hI;rw[HV.out]at hV;simp only[AllV,and_true]at hV;dsimp only[fZm,fEm,List.reduceReplicate,List.cons_append,List.nil_append]
    ·clear hV;have HI:=Lib.hid hI;clear hI;go_wp2_with fail;refine step3_done rfl ?_ ?_ ?_
     ·exact(toI HIp HI.out)
     ·exact(Below.refl _ _)
     ·exact(toV HV rfl)
    ·clear hV;have HI:=Lib.hid hI;clear hI;go_wp2_with fail;refine step3_done rfl ?_ ?_ ?_
     ·exact(toI HIp HI.out)
     ·exact(Below.refl _ _)
     ·exact(toV HV rfl)
    ·have u1:=hV;clear hV;simp only[u1];clear u1;have HI:=Lib.hid hI;clear hI;go_wp2_with fail;refine step3_done rfl ?_ ?_ ?_
     ·exact(toI HIp HI.out)
     ·exact(Below.refl _ _)
     ·exact(toV HV rfl)
    ·have u2:=hV;clear hV;simp only[u2];clear u2;have HI:=Lib.hid hI;clear hI;go_wp2_with fail;refine step3_done rfl ?_ ?_ ?_
     ·exact(toI HIp HI.out)
     ·exact(Below.refl _ _)
     ·exact(toV HV rfl)
    ·have u3:=hV;clear hV;simp only[u3];clear u3;have HI:=Lib.hid hI;clear hI;go_wp2_with fail;refine step3_done rfl ?_ ?_ ?_
     ·exact(toI HIp HI.out)
     ·exact(Below.refl _ _)
     ·exact(toV HV rfl)
    ·have u4:=hV;clear hV;simp only[u4];clear u4;obtain⟨-,-,-,-,-,-,-,-,p8,-⟩:=blk10_cells (hI.2.1 (hL.2 18 (by simp))).box;have HI:=Lib.hid hI;clear hI;go_wp2_with fail;refine step3_done rfl ?_ ?_ ?_
     ·exact(toI HIp HI.out)
     ·exact(Below.refl _ _)
     ·exact(toV HV rfl)
    ·clear hV;have HI:=Lib.hid hI;clear hI;go_wp2_with fail;refine step3_done rfl ?_ ?_ ?_
     ·exact(toI HIp HI.out)
     ·exact(Below.refl _ _)
     ·exact(toV HV rfl)
    ·have u6:=hV;clear hV;simp only[u6];clear u6;have HI:=Lib.hid hI;clear hI;go_wp2_with fail;refine(HNP.out W).mono ?_;rintro e W' ⟨rfl,rfl⟩;go_wp2_with fail;refine step3_done rfl ?_ ?_ ?_
     ·exact(toI HIp HI.out)
     ·exact(Below.refl _ _)
     ·exact(toV HV rfl)
    ·have u7:=hV;clear hV;simp only[u7];clear u7;have HI:=Lib.hid hI;clear hI;go_wp2_with fail;refine step3_done rfl ?_ ?_ ?_
     ·exact(toI HIp HI.out)
     ·exact(Below.refl _ _)
     ·exact(toV HV rfl)
    ·have u8:=hV;clear hV;simp only[u8];clear u8;have HI:=Lib.hid hI;clear hI;go_wp2_with fail;refine step3_done rfl ?_ ?_ ?_
     ·exact(toI HIp HI.out)
     ·exact(Below.refl _ _)
     ·exact(toV HV rfl)
    ·have u9:=hV;clear hV;simp only[u9];clear u9;obtain⟨-,-,-,-,-,p5,-⟩:=blk10_cells (hI.2.1 (hL.2 18 (by simp))).box;rw[HV0.out]at p5;have HI:=Lib.hid hI;clear hI;go_wp2_with fail;refine step3_done rfl ?_ ?_ ?_
     ·exact(toI HIp HI.out)
     ·exact(Below.refl _ _)
     ·exact(toV HV rfl)
    ·clear hV;have HI:=Lib.hid hI;clear hI;go_wp2_with fail;refine step3_done rfl ?_ ?_ ?_
     ·exact(toI HIp HI.out)
     ·exact(Below.refl _ _)
     ·exact(toV HV rfl)
    ·obtain⟨u10,u11⟩:=hV;simp only[u10,u11];clear u10 u11;have HI:=Lib.hid hI;clear hI;go_wp2_with fail;refine step3_done rfl ?_ ?_ ?_
     ·exact(toI HIp HI.out)
     ·exact(Below.refl _ _)
     ·exact(toV HV rfl)
    ·have u12:=hV;clear hV;simp only[u12];clear u12;have HI:=Lib.hid hI;clear hI;go_wp2_with fail;refine step3_done rfl ?_ ?_ ?_
     ·exact(toI HIp HI.out)
     ·exact(Below.refl _ _)
     ·exact(toV HV rfl)
    ·have u13:=hV;clear hV;simp only[u13];clear u13;have hMW:=hI.2.1 (hL.2 18 (by simp));obtain⟨qr,qo,qc,qxs,hq0,-,-,-,-,-,hqrd,hqc,-⟩:=hMW.side s (by rw[HNS.out];exact hs1);rw[HV0.out]at hq0;injection hq0 with e1 e2 e3;injection e1 with e1;injection e1 with e1 e4;subst e1 e4;obtain⟨_,_,_,_,_,_,rfl,-⟩:=hqrd;have hpc:W.cell? ⟨sr,so+s*10,none⟩=some (.int .i64 (t1.peer s)):=by
      refine(hqc 0 _ rfl).trans ?_;unfold Tn.peer;rw[List.getD_eq_getElem?_getD,List.getElem?_map,List.getElem?_eq_getElem (by rw[HNS.out];exact hs1)];rfl
     have HI:=Lib.hid hI;clear hI hMW hqc;go_wp2_with fail;refine step3_done rfl ?_ ?_ ?_
     ·exact(toI HIp HI.out)
     ·exact(Below.refl _ _)
     ·exact(toV HV rfl)
    ·clear hV;have hb:=X2.out.touch hI.1 (fun h=>by have:=(Hmine.out _ h).2;omega);have y0:=hb.cell 0;have y1:=hb.cell 1;have y2:=hb.cell 2;have y3:=hb.cell 3;have y4:=hb.cell 4;have y5:=hb.cell 5;have y6:=hb.cell 6;have y7:=hb.cell 7;have y8:=hb.cell 8;have HI:=Lib.hid hI;clear hI hb;go_wp2_with fail;refine step3_done rfl ?_ ?_ ?_
     ·exact(toI HIp HI.out)
     ·exact(Below.refl _ _)
     ·exact(toV HV rfl)
    ·obtain⟨u14,u15⟩:=hV;simp only[u14,u15];clear u14 u15;have HI:=Lib.hid hI;clear hI;go_wp2_with fail;refine step3_done rfl ?_ ?_ ?_
     ·exact(toI HIp HI.out)
     ·exact(Below.refl _ _)
     ·exact(toV HV rfl)
    ·have u16:=hV;clear hV;simp only[u16];clear u16;have HL:=Lib.hid hL;have HI:=Lib.hid hI;have hzW:=hI.1.size;clear hI hL;go_wp2_with fail;have uW:∀o,Below W.heap.size W (W.alloc o):=fun o=>(Below.refl _ _).alloc (Nat.le_refl _) o;refine step3_done rfl ?_ ?_ ?_
     ·exact(toI HIp ⟨HI.out.1.below (uW _) hzW,(fun h=>(HI.out.2.1 h).go (uW _)),(fun h=>absurd ((HL.out.2 18 (by simp)).symm.trans h) (by simp)),(fun h=>absurd ((HL.out.2 22 (by simp)).symm.trans h) (by simp))⟩)
     ·exact(uW _)
     ·exact(toV HV ⟨_,rfl,Blk.new _ _,hzW⟩)
    ·obtain⟨u5,⟨g17,u17,b17,l17⟩⟩:=hV;simp only[u5,u17];have U17:=Lib.hid u17;clear u5 u17;have hM:=hI.2.1 (hL.2 18 (by simp));have HL:=Lib.hid hL;have HI:=Lib.hid hI;have HMW:=Lib.hid hM;have B17:=Lib.hid b17;have hzW:=hI.1.size;have hbW:base≤W.heap.size:=by have:=hM.mine g (.inl rfl);omega
     have Hy:Hid (Rep.rd (fun z=>z<W.heap.size∧¬WX base g v1 z∧(v1 3).ownBlock≠some z) W (⟨t1.peer s,p⟩:Po) [.int .i64 (t1.peer s),.int .i64 p.epoch,.int .i64 p.number,.bool p.bare,.int .i64 p.ack,.int .i64 p.f.kind,.int .i64 p.f.heard,.int .i64 p.f.epoch,.slice oa p.f.op.length oc,.string p.f.text]):=by
      refine⟨oa,oc,rfl,Hop.out.mono fun z hz=>?_,Hpe.out,Hff.out⟩;obtain⟨z1,z2,z3⟩:=hz;exact⟨⟨by omega,(fun h=>by rcases h with h|h;omega;exact z3 h),fun h=>z3 (.inr ⟨3,by omega,h⟩)⟩,(hI.1.block z (by omega) z3).trans (B2.out.block z z2)⟩
     clear hI hL b17 hM;go_wp2_with (at_builtin;refine wpList_append_oneO rfl _ _ _ (by rfl) base 48 i0 _ 104 Tryd.underlying32 Hi.out Hz0.out Hz1.out Hz2.out rfl (v1 3) t1.posts (by rfl) (HMW.out.rows 3 (by omega)) g17 1 _ [.int .i64 (t1.peer s),.int .i64 p.epoch,.int .i64 p.number,.bool p.bare,.int .i64 p.ack,.int .i64 p.f.kind,.int .i64 p.f.heard,.int .i64 p.f.epoch,.slice oa p.f.op.length oc,.string p.f.text] ⟨t1.peer s,p⟩ (by rfl) B17.out Hy.out (by have:=Hnx2.out;unfold maxLen;omega) (by have:=Hnx2.out;omega) hbW ?_);intro g2 o2 cap w7 hown7 hgrow hat hlt7;have HG:=Lib.hid hgrow;have HP:Hid (WkG base g (t1.post s [p]) v1 (fun q=>if q=3 then Value.slice (some ⟨g2,o2,none⟩) (t1.posts.length+1) cap else v1 q) w7):=HMW.out.grow (t':=t1.post s [p]) (j:=3) (by omega) hgrow (fun k hk=>by
      have e:g2=k:=by simpa[Value.ownBlock]using hk
      subst e;exact hat) hown7 (fun i hi X v W h=>by
       match i,hi with
       |0,_=>exact h
       |1,_=>exact h
       |2,_=>exact h
       |3,hi=>exact absurd rfl hi
       |4,_=>exact h
       |i+5,_=>trivial) rfl HMW.out.fit
     have HT:=Lib.hid (HI.out.1.grown hgrow (fun k hk=>.inl (.inr ⟨3,by omega,hk⟩)));have Hat:Hid ((v1 3).ownBlock=some g2∨wr.heap.size≤g2):=hat.imp_right fun h=>by omega
     clear hgrow hown7 hat HI HMW B17 Hy;go_wp2_with fail;refine step3_done rfl ?_ ?_ ?_
     ·exact(toI HIp ⟨HT.out,(fun h=>absurd h (by simp[setB])),(fun _ _=>HP.out),(fun h:L 22=true=>absurd ((HL.out.2 22 (by simp)).symm.trans h) (by simp))⟩)
     ·exact HG.out
     ·exact(toV HV ⟨_,_,_,rfl,Hat.out⟩)
    ·have u0:=hV;clear hV;simp only[u0];clear u0;have HI:=Lib.hid hI;clear hI;go_wp2_with fail;refine step3_done rfl ?_ ?_ ?_
     ·exact(toI HIp HI.out)
     ·exact(Below.refl _ _)
     ·exact(toV HV rfl)
    ·have u19:=hV;clear hV;simp only[u19];clear u19;have HI:=Lib.hid hI;clear hI;go_wp2_with fail;refine step3_done rfl ?_ ?_ ?_
     ·exact(toI HIp HI.out)
     ·exact(Below.refl _ _)
     ·exact(toV HV rfl)
    ·have u20:=hV;clear hV;simp only[u20];clear u20;have HI:=Lib.hid hI;clear hI;go_wp2_with fail;refine step3_done rfl ?_ ?_ ?_
     ·exact(toI HIp HI.out)
     ·exact(Below.refl _ _)
     ·exact(toV HV rfl)
    ·obtain⟨⟨g18,o18,c18,u18,n18⟩,u21⟩:=hV;simp only[u18,u21];have U18:=Lib.hid u18;clear u18 u21;have hM:=hI.2.2.1 (hL.1 18 (by simp)) (hL.2 22 (by simp));rw[U18.out]at hM;have bM:=hM.box;obtain⟨-,-,-,-,-,-,-,-,p8,-⟩:=blk10_cells bM;have fW:=bM.frozen;have hlt:=bM.lt;have hmi:=hM.mine;have HL:=Lib.hid hL;have HI:=Lib.hid hI;have HMW:=Lib.hid hM;have HBM:=Lib.hid bM;clear hI hL hM bM hmi;go_wp2_with fail;have ht:=touch1 (w:=W) (g:=g) (i:=8) (.slice (some ⟨g18,o18,none⟩) (t1.posts.length+1) c18);refine step3_done (v:=undef) rfl ?_ ?_ ?_
     ·refine toI HIp ⟨HI.out.1.trans (ht.mono fun k _ hk=>.inl hk),(fun h:L 18=false=>absurd ((HL.out.1 18 (by simp)).symm.trans h) (by simp)),(fun _ h=>absurd h (by simp[setB])),(fun _=>⟨_,HMW.out.put ht (HBM.out.set 8 _) (fun i X v W h=>h) HMW.out.fit,?_⟩)⟩;rintro z (h|⟨q,hq,h⟩)
      ·exact .inl (.inl h)
      ·by_cases e:q=3
       ·subst e;simp only[if_true]at h;have e:g18=z:=by simpa[Value.ownBlock]using h
        subst e;rcases n18 with h|h
        ·exact .inl (.inr ⟨3,by omega,h⟩)
        ·exact .inr h
       ·simp only[if_neg e]at h;exact .inl (.inr ⟨q,hq,h⟩)
     ·exact ht
     ·exact toV HV rfl
   case fin=>
    intro x W L hL hI hV;replace hI:(Touch (Mine g v1) w2 W∧(L 18=false→WkM base g t1 v1 W)∧(L 18=true→L 22=false→WkG base g (t1.post s [p]) v1 (fun q=>if q=3 then x 18 else v1 q) W)∧(L 22=true→∃v2,WkM base g (t1.post s [p]) v2 W∧∀z,Mine g v2 z→Mine g v1 z∨wr.heap.size≤z)):=ofI HIp hI;rw[HV.out]at hV;simp only[AllV,and_true]at hV;obtain⟨u0,u1,u2,u3,u4,u5,u6,u7,u8,u9,u10,u11,u12,u13,u14,u15,u16,⟨g18,o18,c18,u18,n18⟩,u19,u20,u21,u22⟩:=hV;simp only[getsD,List.getD_cons_succ,List.getD_cons_zero,List.length_cons,List.length_nil,List.range,List.range.loop,u0,u1,u2,u3,u4,u5,u6,u7,u8,u9,u10,u11,u12,u13,u14,u15,u16,u18,u19,u20,u21,u22,Act.put,List.setIfInBounds_toArray,List.set_cons_succ,List.set_cons_zero];clear u0 u1 u2 u3 u4 u5 u6 u7 u8 u9 u10 u11 u12 u13 u14 u15 u16 u18 u19 u20 u21 u22;obtain⟨v2,hM2,hm2⟩:=hI.2.2.2 (hL 22 (by simp));have hT:=hI.1;have HW:Hid (WkS base g (t.post s (ps.take (k+1))) vs w W):=by
     rw[Hnx.out];exact WkS.trans HS1.out.1 HS1.out.2 ⟨v2,hM2,(Touch.of_below B2.out).trans hT,hm2⟩
    clear hI hL hM2 hm2 hT HS1;go_wp2_with fail
    case roundEnd=>
     refine⟨⟨k+1,by omega,by push_cast;rfl,HW.out⟩,?_⟩;simp[intOf];omega
  ·have hkn:k=N:=by omega
   have hE:ps.take k=ps:=by rw[hkn,←HN.out,List.take_length]
   rw[hE]at m1;have HW:Hid (WkS base g (t.post s ps) vs w wr):=⟨v1,m1,ht1,hm1⟩;have hlt':¬((k:Int)<(N:Int)):=by omega
   clear m1 ht1 hm1 hE;go_wp2_with fail;go_end0;exact⟨rfl,HW.out⟩
end Go.Proofs.YtkbfhgcjimfgkaaDoor
set_option linter.unusedSimpArgs false
namespace Go.Proofs.YtkbfhgcjimfgkaaDoor
open Go.RowKit
theorem OwnO.upd {α:Type} [Rep α] {X:Nat→Prop}{base r o n c:Nat}{l:List α}{w:World}(h:OwnO X base (.slice (some ⟨r,o,none⟩) n c) l w)(i:Nat)(hi:i<l.length)(d:Nat)(cs:List Value)(hd:d+cs.length≤Rep.n α)(y:α)
 (hy:∀xs,Rep.rd (fun b=>b<w.heap.size∧¬X b∧b≠r) w l[i] xs→∃ys,Rep.rd (fun b=>b<w.heap.size∧¬X b∧b≠r) w y ys∧∀j v,ys[j]?=some v→if d≤j∧j<d+cs.length then cs[j-d]?=some v else xs[j]?=some v):
 OwnO X base (.slice (some ⟨r,o,none⟩) n c) (l.set i y) (w.setCells r (o+i*Rep.n α+d) cs):=by
 have hT:=touch_setCells w r (o+i*Rep.n α+d) cs;rcases h.row with⟨a,hv,hl,h2⟩|⟨g',off',cap,hv,h1,h2,h3,h4,h5,h6⟩
 ·subst hl;simp at hi
 ·injection hv with e1 e2 e3;injection e1 with e1;injection e1 with e4 e5;subst e2 e3 e4 e5;have hA:∀b,(b<w.heap.size∧¬X b∧b≠r)→(b<(w.setCells r (o+i*Rep.n α+d) cs).heap.size∧¬X b∧b≠r)∧(w.setCells r (o+i*Rep.n α+d) cs).heap[b]?=w.heap[b]?:=fun b hb=>⟨⟨Nat.lt_of_lt_of_le hb.1 hT.size,hb.2⟩,hT.block b hb.1 hb.2.2⟩;have hmul:∀{a b:Nat},a<b→a*Rep.n α+Rep.n α≤b*Rep.n α:=fun {a b} hab=>by
   have:=Nat.mul_le_mul_right (Rep.n α) (Nat.succ_le_of_lt hab);rwa[Nat.succ_mul]at this
  have hic:i*Rep.n α+Rep.n α≤c*Rep.n α:=hmul (by omega);have hin:∀j,j<cs.length→(w.cell? ⟨r,o+i*Rep.n α+d+j,none⟩).isSome=true:=fun j hj=>by
   have:=(h5 (i*Rep.n α+d+j) (by omega)).1;rwa[←Nat.add_assoc,←Nat.add_assoc]at this
  refine⟨.inr ⟨r,o,c,by rw[List.length_set],h1,Nat.lt_of_lt_of_le h2 hT.size,by rw[List.length_set];exact h3,h4,fun j hj=>⟨World.isSome_setCells r cs _ w _ (h5 j hj).1,by rw[World.frozen?_setCells];exact(h5 j hj).2⟩,fun j x hx=>?_⟩⟩;by_cases hji:j=i
  ·subst hji;rw[List.getElem?_set_self hi]at hx;injection hx with hx;subst hx;obtain⟨xs,r1,r2⟩:=h6 j l[j] (List.getElem?_eq_getElem hi);obtain⟨ys,q1,q2⟩:=hy xs r1;refine⟨ys,Rep.mono hA q1,fun k v hk=>?_⟩;have hq:=q2 k v hk;by_cases hkd:d≤k∧k<d+cs.length
   ·rw[if_pos hkd]at hq;have e:o+j*Rep.n α+k=o+j*Rep.n α+d+(k-d):=by omega
    rw[e,World.cell?_setCells_in r cs _ w hin (k-d) (by omega),←hq,List.getElem?_eq_getElem (by omega)]
   ·rw[if_neg hkd]at hq;rw[World.cell?_setCells_out r cs _ w _ (fun _ _=>by show o+j*Rep.n α+k<_∨_≤o+j*Rep.n α+k;omega)];exact r2 k v hq
  ·rw[List.getElem?_set_ne (by omega)]at hx;obtain⟨xs,r1,r2⟩:=h6 j x hx;have hlen:=Rep.len r1;refine⟨xs,Rep.mono hA r1,fun k v hk=>?_⟩;have hkl:=(List.getElem?_eq_some_iff.1 hk).1;rw[World.cell?_setCells_out r cs _ w _ (fun _ _=>by
    show o+j*Rep.n α+k<_∨_≤o+j*Rep.n α+k
    rcases Nat.lt_or_gt_of_ne hji with hlt|hgt
    ·have:=hmul hlt;omega
    ·have:=hmul hgt;omega)]
   exact r2 k v hk
def Tn.setSide (t:Tn)(s:Nat)(y:Sd):Tn:={t with node:={t.node with sides:=t.node.sides.set s y}}
theorem WkG.upd {base g r o c:Nat}{t:Tn}{vs:Nat→Value}{w:World}(h:WkM base g t vs w)(s:Nat)(hs:s<t.node.sides.length)(hv:vs 0=.slice (some ⟨r,o,none⟩) t.node.sides.length c)(d:Nat)(cs:List Value)(hd:d+cs.length≤10)(y:Sd)
 (hy:∀xs,Rep.rd (fun b=>b<w.heap.size∧¬WX base g vs b∧b≠r) w t.node.sides[s] xs→∃ys,Rep.rd (fun b=>b<w.heap.size∧¬WX base g vs b∧b≠r) w y ys∧∀j v,ys[j]?=some v→if d≤j∧j<d+cs.length then cs[j-d]?=some v else xs[j]?=some v):
 WkM base g (t.setSide s y) vs (w.setCells r (o+s*10+d) cs)∧Touch (Mine g vs) w (w.setCells r (o+s*10+d) cs):=by
 have h0:OwnO (WX base g vs) base (vs 0) t.node.sides w:=h.rows 0 (by omega);rw[hv]at h0;have hr:(vs 0).ownBlock=some r:=by rw[hv];rfl
 have hn:=h0.upd s hs d cs hd y hy;have hg:=grownBy_setCells w r (o+s*10+d) cs;have k:=h.grow (t':=t.setSide s y) (j:=0) (v':=vs 0) (by omega) (by rw[hr];exact hg) (fun k hk=>.inl hk) (by rw[hv];exact hn) (fun i hi X v W h=>by
  match i,hi with
  |0,hi=>exact absurd rfl hi
  |1,_=>exact h
  |2,_=>exact h
  |3,_=>exact h
  |4,_=>exact h
  |i+5,_=>trivial) rfl h.fit
 have e:(fun q=>if q=0 then vs 0 else vs q)=vs:=by
  funext q;by_cases e:q=0
  ·rw[if_pos e,e]
  ·rw[if_neg e]
 rw[e]at k;exact⟨k,(touch_setCells w r (o+s*10+d) cs).mono fun z _ hz=>.inr ⟨0,by omega,by rw[hr,hz]⟩⟩
def noSd:Sd:=⟨0,false,⟨0,0,[]⟩,⟨0,0,[],[],0⟩⟩
def Tn.side (t:Tn)(s:Nat):Sd:=t.node.sides.getD s noSd
theorem Tn.side_get (t:Tn)(s:Nat)(hs:s<t.node.sides.length):t.side s=t.node.sides[s]:=by
 unfold Tn.side;rw[List.getD_eq_getElem?_getD,List.getElem?_eq_getElem hs];rfl
theorem WkG.updLink {base g r o c:Nat}{t:Tn}{vs:Nat→Value}{w:World}(h:WkM base g t vs w)(s:Nat)(hs:s<t.node.sides.length)(hv:vs 0=.slice (some ⟨r,o,none⟩) t.node.sides.length c)(l:Lk)(hl:l.fits)(sa:Option Addr)(sc:Nat)(qa:Option Addr)(qc:Nat)
 (h1:RdS (fun b=>b<w.heap.size∧¬WX base g vs b∧b≠r) w l.sent sa l.sent.length sc) (h2:RdS (fun b=>b<w.heap.size∧¬WX base g vs b∧b≠r) w l.queue qa l.queue.length qc):
 WkM base g (t.setSide s {t.side s with l:=l}) vs (w.setCells r (o+s*10+5) [.int .i64 l.epoch,.int .i64 l.next,.slice sa l.sent.length sc,.slice qa l.queue.length qc,.int .i64 l.heard])∧Touch (Mine g vs) w (w.setCells r (o+s*10+5) [.int .i64 l.epoch,.int .i64 l.next,.slice sa l.sent.length sc,.slice qa l.queue.length qc,.int .i64 l.heard]):=by
 refine h.upd s hs hv 5 _ (by simp) _ fun xs hx=>?_;obtain⟨a,ac,_,_,_,_,rfl,p1,-,-,p4,p5,-⟩:=hx;rw[t.side_get s hs];refine⟨_,⟨a,ac,sa,sc,qa,qc,rfl,p1,h1,h2,p4,p5,hl⟩,fun j v hj=>?_⟩
 match j with
 |0|1|2|3|4|5|6|7|8|9=>exact hj
 |j+10=>cases hj
end Go.Proofs.YtkbfhgcjimfgkaaDoor
set_option linter.unusedSimpArgs false
namespace Go.Proofs.YtkbfhgcjimfgkaaDoor
open Go.RowKit
set_option maxRecDepth 100000 in
set_option maxHeartbeats 2000000 in
theorem move_any (A:Nat→Prop)(x:Int)(l:Op)(push:Bool)(a:Option Addr)(n c:Nat)(w:World)(hg:Good w)(hA:∀b,A b→b<w.heap.size)(hr:RdS A w l a n c)(hx:I64 x)(hc:check l=0):
 Calls Tryd.prog 81 #[.int .i64 x,.slice a n c,.bool push] w fun e w'=>e=.returned (.tuple #[.int .i64 (if x<0∨sumF l<x then 0 else mv push l x 0 0),.int .i64 (if x<0∨sumF l<x then 2 else 0)])∧Below w.heap.size w w':=by
 have hnl:n=l.length:=hr.1;obtain⟨hlen,hok,hF,hT⟩:=check_zero hc;have hF0:=sumF_nonneg l hok;have hn2:n≤8001:=by omega
 have Hck:=Lib.hid (by have:=check_any A l a n c w hg hA hr;rw[hc]at this;exact this);have Hlen:=Lib.hid (fun W (hb:Below w.heap.size w W)=>lengths_any A l a n c W (hr.below hA hb) (check_small hc));have Hp:Hid (0<n→∃b off,a=some ⟨b,off,none⟩∧A b∧b<w.heap.size∧∀i (h:i<l.length),I64 l[i].kind∧I64 l[i].n∧l[i].text.size≤strMax∧
  w.cell? ⟨b,off+i*3,none⟩=some (.int .i64 l[i].kind)∧w.cell? ⟨b,off+i*3+1,none⟩=some (.int .i64 l[i].n)∧w.cell? ⟨b,off+i*3+2,none⟩=some (.string l[i].text)):=fun h=>hr.part h
 have Hbd:Hid (∀k,k≤l.length→0≤sumF (l.take k)∧sumF (l.take k)≤4000∧0≤sumT (l.take k)∧sumT (l.take k)≤4000):=fun k _=>by
  have h1:=sum_parts lenF l k (fun p hp=>(partOk_small (hok p hp)).1);have h2:=sum_parts lenT l k (fun p hp=>(partOk_small (hok p hp)).2.2.1);unfold sumF sumT at*;omega
 have Hl:=Lib.hid hnl;have Hok:=Lib.hid hok;have Hc:=Lib.hid hc;clear hnl hok hc hr hlen hT;unfold I64 at hx;generalize hu:(if x<0∨sumF l<x then(0:Int)else mv push l x 0 0)=u;generalize hv:(if x<0∨sumF l<x then(2:Int)else 0)=v;have Hu:=Lib.hid hu;have Hv:=Lib.hid hv;clear hu hv;go_enter Tryd.func81,Tryd.ntmps81;go_wp2_with fail;refine Hck.out.mono ?_;rintro e w1 ⟨rfl,hb1⟩;go_wp2_with fail;refine(Hlen.out _ (by(repeat (first|exact Below.refl _ _|assumption|(refine Below.drew ?_)|(refine below_drewN ?_ _)|(refine Below.alloc ?_ (by first|(simp;done)|(simp;omega)|omega) _)|(refine Below.setCell ?_ (by first|(simp;done)|(simp;omega)|omega) _)|(refine Below.trans ?_ (Below.mono (by assumption) (by first|(simp;done)|(simp;omega)|omega))))))).mono ?_;rintro e w2 ⟨rfl,hb2⟩;have Hb2:=Lib.hid (hb1.trans (hb2.mono hb1.size));clear hb1 hb2;by_cases h0:x<0
 ·have hu:=Hu.out;have hv:=Hv.out;rw[if_pos (.inl h0)]at hu hv;subst hu hv;clear Hu Hv;clear Hck Hlen;go_wp2_with fail
  go_ret2
  exact⟨rfl,Hb2.out⟩
 by_cases h1:sumF l<x
 ·have hu:=Hu.out;have hv:=Hv.out;rw[if_pos (.inr h1)]at hu hv;subst hu hv;clear Hu Hv;clear Hck Hlen;generalize sumF l=z at*;go_wp2_with fail
  go_ret2
  exact⟨rfl,Hb2.out⟩
 have hu:=Hu.out;have hv:=Hv.out;rw[if_neg (by omega)]at hu hv;clear Hu Hv;subst hv;have Hm:=Lib.hid hu;clear hu;clear Hck Hlen;have hx4:x≤4000:=by omega
 have h1':x≤sumF l:=by omega
 clear h1;have Hx:=Lib.hid h1';generalize sumF l=z at h1' hF hF0;go_wp2_with fail;generalize sumT l=z2;go_loopw [0,11,12,34] (fun a o m i wr=>∃(k:Nat)(X:Int),k≤n∧i=.int .i64 k∧a=.int .i64 X∧o=.int .i64 (sumF (l.take k))∧m=.int .i64 (sumT (l.take k))∧sumF (l.take k)≤X∧X≤4000∧mv push (l.drop k) X (sumF (l.take k)) (sumT (l.take k))=u∧Below w.heap.size w wr) (fun _ _ _ i _=>n-(intOf i).toNat)
 case atStart=>exact⟨0,x,by omega,rfl,rfl,rfl,rfl,by simp[sumF];omega,hx4,by simpa[sumF,sumT]using Hm.out,Hb2.out⟩
 case round=>
  obtain⟨k,X,hk,rfl,rfl,rfl,rfl,hX0,hX4,hmv,hb⟩:=hrel;clear Hm Hx h1' hF hF0 hx4 h0 hx;by_cases hlt:k<n
  ·obtain⟨b,off,rfl,_,hbs,hcs⟩:=Hp.out (by omega);have hkl:k<l.length:=by have:=Hl.out;omega
   obtain⟨_,hn64,ht,c0,c1,c2⟩:=hcs k hkl;clear hcs;have hbk:=Hbd.out k (by omega);have hbk1:=Hbd.out (k+1) (by omega);have hpk:=partOk_kind (Hok.out l[k] (List.getElem_mem hkl));have hFn:=sumF_next l k hkl;have hTn:=sumT_next l k hkl;rw[hFn,hTn]at hbk1;have HF:=Lib.hid hFn;have HT:=Lib.hid hTn;rw[List.drop_eq_getElem_cons hkl]at hmv;have hz:=hb.size;obtain⟨hcb,hfb⟩:=bcell hb;clear hFn hTn;have hSz:=fun W:World=>size_any l[k] W hn64 ht;generalize sumF (l.take k)=O at*;generalize sumT (l.take k)=N at*;generalize l[k]=p at*;obtain⟨pk,pn,pt⟩:=p;simp only at*;rcases hpk with⟨rfl,n1,n2⟩|⟨rfl,rfl,n2⟩|⟨rfl,n1,n2⟩
   ·have e1:lenF ⟨1,pn,pt⟩=pn:=by simp[lenF]
    have e2:lenT ⟨1,pn,pt⟩=pn:=by simp[lenT]
    rw[e1]at HF hbk1;rw[e2]at HT hbk1;simp only[mv,i12,i32,i31,if_false,if_true]at hmv;clear e1 e2 hSz hn64 ht;by_cases h1:X<O+pn
    ·rw[if_pos h1]at hmv;have d:decide (X<O+pn)=true:=by simpa using h1
     have Hmv:=Lib.hid hmv;clear hmv h1;go_wp2_with fail
     go_ret2
     exact⟨by have h:=Hmv.out;subst h;rfl,by(repeat (first|exact Below.refl _ _|assumption|(refine Below.drew ?_)|(refine below_drewN ?_ _)|(refine Below.alloc ?_ (by first|(simp;done)|(simp;omega)|omega) _)|(refine Below.setCell ?_ (by first|(simp;done)|(simp;omega)|omega) _)|(refine Below.trans ?_ (Below.mono (by assumption) (by first|(simp;done)|(simp;omega)|omega)))))⟩
    ·rw[if_neg h1]at hmv;have d:decide (X<O+pn)=false:=by simpa using h1
     have Hmv:=Lib.hid hmv;have h2:O+pn≤X:=by omega
     clear hmv h1;go_wp2_with fail;go_quiet (fail);go_wp2_with fail;go_roundw
     case rel=>exact⟨k+1,X,by omega,by go_num,rfl,by rw[HF.out],by rw[HT.out],by rw[HF.out];exact h2,hX4,by rw[HF.out,HT.out];exact Hmv.out,by(repeat (first|exact Below.refl _ _|assumption|(refine Below.drew ?_)|(refine below_drewN ?_ _)|(refine Below.alloc ?_ (by first|(simp;done)|(simp;omega)|omega) _)|(refine Below.setCell ?_ (by first|(simp;done)|(simp;omega)|omega) _)|(refine Below.trans ?_ (Below.mono (by assumption) (by first|(simp;done)|(simp;omega)|omega)))))⟩
     case measure=>simp[intOf];omega
   ·have e1:lenF ⟨2,0,pt⟩=0:=by simp[lenF]
    have e2:lenT ⟨2,0,pt⟩=rc pt:=by simp[lenT]
    rw[e1]at HF hbk1;rw[e2]at HT hbk1;simp only[mv,if_true]at hmv;simp only[if_true]at hSz;have HSz:=Lib.hid hSz;clear e1 e2 hSz hn64 ht;generalize rc pt=R at*;have d0:decide (X<O)=false:=by simp;omega
    by_cases h1:O=X
    ·subst h1;cases push with
     |false=>
      rw[if_pos ⟨rfl,rfl⟩]at hmv;have Hmv:=Lib.hid hmv;clear hmv;go_wp2_with fail
      go_ret2
      exact⟨by have h:=Hmv.out;rw[←h,show N+O-O=N by omega];rfl,by(repeat (first|exact Below.refl _ _|assumption|(refine Below.drew ?_)|(refine below_drewN ?_ _)|(refine Below.alloc ?_ (by first|(simp;done)|(simp;omega)|omega) _)|(refine Below.setCell ?_ (by first|(simp;done)|(simp;omega)|omega) _)|(refine Below.trans ?_ (Below.mono (by assumption) (by first|(simp;done)|(simp;omega)|omega)))))⟩
     |true=>
      rw[if_neg (by rintro⟨_,h⟩;cases h)]at hmv;have Hmv:=Lib.hid hmv;clear hmv;go_wp2_with (go_at_call 93;refine(HSz.out _).mono ?_;rintro e w3 ⟨rfl,hb3⟩;obtain⟨hc3,hf3⟩:=bcell hb3);go_roundw
      case rel=>exact⟨k+1,O,by omega,by go_num,rfl,by rw[HF.out];go_num,by rw[HT.out],by rw[HF.out];omega,hX4,by rw[HF.out,HT.out,Int.add_zero];exact Hmv.out,by(repeat (first|exact Below.refl _ _|assumption|(refine Below.drew ?_)|(refine below_drewN ?_ _)|(refine Below.alloc ?_ (by first|(simp;done)|(simp;omega)|omega) _)|(refine Below.setCell ?_ (by first|(simp;done)|(simp;omega)|omega) _)|(refine Below.trans ?_ (Below.mono (by assumption) (by first|(simp;done)|(simp;omega)|omega)))))⟩
      case measure=>simp[intOf];omega
    ·rw[if_neg (fun h=>h1 h.1)]at hmv;have d1:(O==X)=false:=by simpa using h1
     have Hmv:=Lib.hid hmv;clear hmv h1;go_wp2_with (go_at_call 93;refine(HSz.out _).mono ?_;rintro e w3 ⟨rfl,hb3⟩;obtain⟨hc3,hf3⟩:=bcell hb3);go_roundw
     case rel=>exact⟨k+1,X,by omega,by go_num,rfl,by rw[HF.out];go_num,by rw[HT.out],by rw[HF.out];omega,hX4,by rw[HF.out,HT.out,Int.add_zero];exact Hmv.out,by(repeat (first|exact Below.refl _ _|assumption|(refine Below.drew ?_)|(refine below_drewN ?_ _)|(refine Below.alloc ?_ (by first|(simp;done)|(simp;omega)|omega) _)|(refine Below.setCell ?_ (by first|(simp;done)|(simp;omega)|omega) _)|(refine Below.trans ?_ (Below.mono (by assumption) (by first|(simp;done)|(simp;omega)|omega)))))⟩
     case measure=>simp[intOf];omega
   ·have e1:lenF ⟨3,pn,pt⟩=pn:=by simp[lenF]
    have e2:lenT ⟨3,pn,pt⟩=0:=by simp[lenT]
    rw[e1]at HF hbk1;rw[e2]at HT hbk1;simp only[mv,i12,i32,i31,if_false,if_true]at hmv;clear e1 e2 hSz hn64 ht;by_cases h1:X<O+pn
    ·rw[if_pos h1]at hmv;have d:decide (X<O+pn)=true:=by simpa using h1
     have Hmv:=Lib.hid hmv;clear hmv h1;go_wp2_with fail;go_roundw
     case rel=>exact⟨k+1,O+pn,by omega,by go_num,rfl,by rw[HF.out],by rw[HT.out];go_num,by rw[HF.out];omega,by omega,by rw[HF.out,HT.out,Int.add_zero];exact Hmv.out,by(repeat (first|exact Below.refl _ _|assumption|(refine Below.drew ?_)|(refine below_drewN ?_ _)|(refine Below.alloc ?_ (by first|(simp;done)|(simp;omega)|omega) _)|(refine Below.setCell ?_ (by first|(simp;done)|(simp;omega)|omega) _)|(refine Below.trans ?_ (Below.mono (by assumption) (by first|(simp;done)|(simp;omega)|omega)))))⟩
     case measure=>simp[intOf];omega
    ·rw[if_neg h1]at hmv;have d:decide (X<O+pn)=false:=by simpa using h1
     have Hmv:=Lib.hid hmv;have h2:O+pn≤X:=by omega
     clear hmv h1;go_wp2_with fail;go_roundw
     case rel=>exact⟨k+1,X,by omega,by go_num,rfl,by rw[HF.out],by rw[HT.out];go_num,by rw[HF.out];exact h2,hX4,by rw[HF.out,HT.out,Int.add_zero];exact Hmv.out,by(repeat (first|exact Below.refl _ _|assumption|(refine Below.drew ?_)|(refine below_drewN ?_ _)|(refine Below.alloc ?_ (by first|(simp;done)|(simp;omega)|omega) _)|(refine Below.setCell ?_ (by first|(simp;done)|(simp;omega)|omega) _)|(refine Below.trans ?_ (Below.mono (by assumption) (by first|(simp;done)|(simp;omega)|omega)))))⟩
     case measure=>simp[intOf];omega
  ·have hkn:k=l.length:=by have:=Hl.out;omega
   subst hkn;rw[List.drop_length]at hmv;simp only[mv]at hmv;subst hmv;clear Hp;go_wp2_with fail
   go_ret2
   exact⟨rfl,hb⟩
end Go.Proofs.YtkbfhgcjimfgkaaDoor
