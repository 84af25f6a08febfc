/- The walks of edge.own and edge.Send. -/
import Derived.Test.YtkbfhgcjimfgkaaDoorPartB6
import Derived.Test.YtkbfhgcjimfgkaaDoorPartA7
import Derived.Handy
set_option linter.unusedVariables false
set_option linter.unusedSimpArgs false
set_option linter.unusedSimpArgs false
namespace Go.Proofs.YtkbfhgcjimfgkaaDoor
open Go.RowKit
theorem infoO:(Tryd.prog.info? 42).map (fun i=>(i.zero,i.size,i.bytes))=some (some (.slice none 0 0),1,24):=by kernel_rfl
def OwnPost (s h:Int)(l:List Op)(w:World)(e:Ending)(w':World):Prop:=
 ∃v,e=.returned (.agg #[.int .i64 s,.int .i64 h,v])∧Own (· <w.heap.size) w.heap.size 42 v l w'∧Below w.heap.size w w'
set_option maxRecDepth 100000 in
set_option maxHeartbeats 3000000 in
theorem own_any (s h:Int)(l:List Op)(a:Option Addr)(n c:Nat)(w:World)(hr:RdS (· <w.heap.size) w l a n c)(hlen:∀o∈l,o.length≤1000000000)(hn:l.length≤1048576):
 Calls Tryd.prog 94 #[.agg #[.int .i64 s,.int .i64 h,.slice a n c]] w (OwnPost s h l w):=by
 have hnl:=hr.1;have hn2:n≤1048576:=by omega
 have Hl:=Lib.hid hnl;have Hr:=Lib.hid hr;have Hlen:=Lib.hid hlen;clear hnl hr hlen;obtain⟨i0,hi,hz0,hz1,hz2⟩:=info_parts infoO;have Hi:=Lib.hid hi;have Hz0:=Lib.hid hz0;have Hz1:=Lib.hid hz1;have Hz2:=Lib.hid hz2;clear hi hz0 hz1 hz2;go_enter Tryd.func94,Tryd.ntmps94;go_wp2_with fail;refine abs_w (fun W=>Below w.heap.size w W∧W.heap.size=w.heap.size+3∧Blk w.heap.size (.cells #[.int .i64 s,.int .i64 h,.slice a n c] 67 (0,0)) W∧Blk (w.heap.size+1) (.cells #[.int .i64 0,.int .i64 0,.slice none 0 0] 67 (0,0)) W∧Blk (w.heap.size+1+1) (.cells #[.int .i64 s,.int .i64 h,.slice none 0 0] 67 (0,0)) W)
  ⟨by(repeat (first|exact Below.refl _ _|assumption|(refine Below.drew ?_)|(refine below_drewN ?_ _)|(refine Below.alloc ?_ (by first|(simp;done)|(simp;omega)|omega) _)|(refine Below.setCell ?_ (by first|(simp;done)|(simp;omega)|omega) _)|(refine Below.trans ?_ (Below.mono (by assumption) (by first|(simp;done)|(simp;omega)|omega))))),by simp,((Blk.new _ _).alloc _).alloc _,(Blk.at _ _ _ (by simp)).alloc _,Blk.at _ _ _ (by simp)⟩ ?_
 rintro w1 ⟨b1,z1,x1,x2,x3⟩;have H1:=Lib.hid (And.intro b1 (And.intro x2 x3));have hz1:w.heap.size+3≤w1.heap.size:=by omega
 clear b1 x1 x2 x3 z1;go_loopw [14] (fun i wr=>∃(k:Nat)(sv:Value),k≤n∧i=.int .i64 k∧Below w.heap.size w wr∧Blk (w.heap.size+1) (.cells #[.int .i64 0,.int .i64 0,.slice none 0 0] 67 (0,0)) wr∧Blk (w.heap.size+1+1) (.cells #[.int .i64 s,.int .i64 h,sv] 67 (0,0)) wr∧
  Own (fun b=>b<w.heap.size+3) (w.heap.size+3) 42 sv (l.take k) wr∧w.heap.size+3≤wr.heap.size) (fun i _=>n-(intOf i).toNat)
 case atStart=>exact⟨0,.slice none 0 0,by omega,rfl,H1.out.1,H1.out.2.1,H1.out.2.2,Own.nil,hz1⟩
 case round=>
  obtain⟨k,sv,hk,rfl,b1,x2,x3,hown,hzr⟩:=hrel;clear H1;have c3:wr.cell? ⟨w.heap.size+1+1,2,none⟩=some sv:=by exact x3.cell 2
  by_cases hlt:k<n
  ·obtain⟨b,off,rfl,hAb,hbs,hcs⟩:=Hr.out.row (by omega);have hkl:k<l.length:=by have:=Hl.out;omega
   obtain⟨ak,nk,ck,hrk,dk0⟩:=hcs k hkl;have dk:wr.cell? ⟨b,off+k,none⟩=some (.slice ak nk ck):=(b1.cell (p:=⟨b,off+k,none⟩) hbs).trans dk0;have Hk:=Lib.hid (take_next l k hkl);have hnk:=hrk.1;have hlk:=Hlen.out l[k] (List.getElem_mem hkl);have hlk2:nk≤1000000000:=by omega
   have Hcl:=Lib.hid (fun W (hW:Below w.heap.size w W)=>clone_any l[k] ak nk ck W (hrk.go hW) hlk2);have htl:(l.take k).length=k:=by rw[List.length_take];omega
   generalize hol:l[k]=o at*;generalize l.take k=lk at*;clear hcs hrk hlk hol hnk dk0;have hvr:∀k,sv.ownBlock=some k→w.heap.size+3≤k∧k<wr.heap.size∧k≠w.heap.size+1+1:=fun k hk=>by have:=hown.rowlt k hk;omega
   have Hvr:=Lib.hid hvr;have HB:=Lib.hid b1;have X2:=Lib.hid x2;have X3:=Lib.hid x3;have HO:=Lib.hid hown;have Htl:=Lib.hid htl;clear b1 x2 x3 hown hvr htl;have hkb:k≤1048576:=by omega
   go_wp2_with fail;have hbx:w.heap.size+1+1<wr.heap.size:=X3.out.lt;obtain⟨Vp,HV⟩:∃Vp:Nat→Value→World→Prop,Hid (Vp=fun i v W=>match i with
    |0=>v=.pointer (some ⟨w.heap.size+1+1,2,none⟩)
    |1=>v=sv
    |2=>v=.slice ak nk ck
    |3=>∃a c,v=.slice a o.length c∧RdS (fun b=>wr.heap.size≤b∧b<W.heap.size) W o a o.length c
    |4=>∃g a c,v=.slice (some ⟨g,0,none⟩) 1 1∧Blk g (.cells #[.slice a o.length c] 42 (0,0)) W∧wr.heap.size≤g∧RdS (fun b=>wr.heap.size≤b∧b<W.heap.size) W o a o.length c
    |5=>∃g c,v=.slice (some ⟨g,0,none⟩) (lk.length+1) c∧Own (fun b=>b<w.heap.size+3) (w.heap.size+3) 42 (.slice (some ⟨g,0,none⟩) (lk.length+1) c) (lk++[o]) W∧g≠w.heap.size+1+1
    |6=>v=.pointer (some ⟨w.heap.size+1+1,2,none⟩)
    |_=>v=undef):=⟨_,rfl⟩
   obtain⟨Ip,HIp⟩:∃Ip:(Nat→Bool)→(Nat→Value)→World→Prop,Hid (Ip=fun L x W=>(Below w.heap.size w W∧Touch (fun b=>b=w.heap.size+1+1∨sv.ownBlock=some b) wr W∧(L 7=false→Blk (w.heap.size+1+1) (.cells #[.int .i64 s,.int .i64 h,sv] 67 (0,0)) W)∧(L 5=false→Own (fun b=>b<w.heap.size+3) (w.heap.size+3) 42 sv lk W)∧(L 7=true→∃v',Blk (w.heap.size+1+1) (.cells #[.int .i64 s,.int .i64 h,v'] 67 (0,0)) W∧Own (fun b=>b<w.heap.size+3) (w.heap.size+3) 42 v' (lk++[o]) W))):=⟨_,rfl⟩;refine region_lit3 (by kernel_rfl) (by kernel_rfl) (by kernel_rfl) [[],[0],[],[2],[2,3],[0,1,2,3,4],[],[0,1,2,3,4,5,6]] (by kernel_rfl) [some 18,some 19,some 20,some 21,some 22,some 23,some 24,none] (by kernel_rfl) [[0,1,5,7],[1,5,7],[2,3,4,5,7],[3,4,5,7],[4,5,7],[5,7],[6,7],[7]] (by kernel_rfl) [[],[],[],[],[],[],[],[]] [[],[0],[],[2],[3],[1,4],[],[5,6]] (by kernel_rfl)
    Ip
    Vp
    (fun j W W'=>match j with
     |5=>W.grownBy W' sv.ownBlock
     |7=>Touch (fun b=>b=w.heap.size+1+1) W W'
     |_=>Below W.heap.size W W')
    [fun x=>⟨(fZm 3 (.pointer (some ⟨w.heap.size+1+1,0,none⟩)) (fEm 15)).toArray,[]⟩,fun x=>⟨(fZm 18 (x 0) (fEm 1)).toArray,[]⟩,fun x=>⟨(fZm 5 (.slice ak nk ck) (fEm 15)).toArray,[]⟩,fun x=>⟨(fZm 20 (x 2) (fEm 1)).toArray,[]⟩,fun x=>⟨(fZm 21 (x 3) (fEm 1)).toArray,[]⟩,fun x=>⟨(fZm 19 (x 1) (fZm 2 (x 4) (fEm 1))).toArray,[]⟩,fun x=>⟨(fZm 3 (.pointer (some ⟨w.heap.size+1+1,0,none⟩)) (fEm 21)).toArray,[]⟩,fun x=>⟨(fZm 23 (x 5) (fZm 0 (x 6) [])).toArray,[]⟩]
    ?hF ?mono ?h0 ?step [0,1,2,3,4,5,6,7] (by kernel_rfl) ?fin
   case hF=>
    iterate 8 refine⟨fun x=>⟨by kernel_rfl,by kernel_rfl⟩,?_⟩
    trivial
   case mono=>
    intro i j hi hj hne hna hnk v W W' hE hv;rw[HV.out]at hv⊢;simp only[List.length_cons,List.length_nil]at hi hj
    match i,hi with
    |0,_|1,_|2,_|6,_|7,_=>exact hv
    |3,_=>
     match j,hj with
     |3,_=>exact absurd rfl hne
     |2,_=>exact absurd (by simp) hna
     |0,_|1,_|4,_|6,_=>exact(by obtain⟨a,c,h1,h2⟩:=hv;exact⟨a,c,h1,h2.freshB hE⟩)
     |5,_=>exact(by obtain⟨a,c,h1,h2⟩:=hv;exact⟨a,c,h1,h2.freshG hE (fun k hk=>(Hvr.out k hk).2.1)⟩)
     |7,_=>exact(by obtain⟨a,c,h1,h2⟩:=hv;exact⟨a,c,h1,h2.freshT hE (fun k hk=>by omega)⟩)
     |m+8,h=>exact absurd h (by omega)
    |4,_=>
     match j,hj with
     |4,_=>exact absurd rfl hne
     |2,_|3,_=>exact absurd (by simp) hna
     |0,_|1,_|6,_=>exact(by obtain⟨g,a,c,h1,h2,h3,h4⟩:=hv;exact⟨g,a,c,h1,h2.go hE,h3,h4.freshB hE⟩)
     |5,_=>exact(by obtain⟨g,a,c,h1,h2,h3,h4⟩:=hv;exact⟨g,a,c,h1,h2.grown hE (fun e=>by have:=Hvr.out g e.symm;omega),h3,h4.freshG hE (fun k hk=>(Hvr.out k hk).2.1)⟩)
     |7,_=>exact(by obtain⟨g,a,c,h1,h2,h3,h4⟩:=hv;exact⟨g,a,c,h1,h2.touch hE (by omega),h3,h4.freshT hE (fun k hk=>by omega)⟩)
     |m+8,h=>exact absurd h (by omega)
    |5,_=>
     match j,hj with
     |5,_=>exact absurd rfl hne
     |0,_|1,_|2,_|3,_|4,_=>exact absurd (by simp) hna
     |6,_=>exact(by obtain⟨g,c,h1,h2,h3⟩:=hv;exact⟨g,c,h1,h2.go hE,h3⟩)
     |7,_=>exact(by obtain⟨g,c,h1,h2,h3⟩:=hv;exact⟨g,c,h1,h2.touch hE (fun k hk hs=>⟨by(first|omega|exact .inr hs),fun e=>h3 ((Option.some.inj (show some g=some k from e)).trans hs)⟩),h3⟩)
     |m+8,h=>exact absurd h (by omega)
    |m+8,h=>exact absurd h (by omega)
   case h0=>intro x;exact toI HIp ⟨HB.out.drew,(Touch.refl _ _).drew,fun _=>X3.out,fun _=>HO.out.go (Below.refl _ _).drew,fun h=>by cases h⟩
   case step=>
    refine⟨?_,?_,?_,?_,?_,?_,?_,?_,trivial⟩
    all_goals
     intro x W L hI hL hV;replace hI:(Below w.heap.size w W∧Touch (fun b=>b=w.heap.size+1+1∨sv.ownBlock=some b) wr W∧(L 7=false→Blk (w.heap.size+1+1) (.cells #[.int .i64 s,.int .i64 h,sv] 67 (0,0)) W)∧(L 5=false→Own (fun b=>b<w.heap.size+3) (w.heap.size+3) 42 sv lk W)∧(L 7=true→∃v',Blk (w.heap.size+1+1) (.cells #[.int .i64 s,.int .i64 h,v'] 67 (0,0)) W∧Own (fun b=>b<w.heap.size+3) (w.heap.size+3) 42 v' (lk++[o]) W)):=ofI HIp hI;rw[HV.out]at hV;simp only[AllV,and_true]at hV;dsimp only[fZm,fEm,List.reduceReplicate,List.cons_append,List.nil_append]
    ·clear hV;have HI:=Lib.hid hI;clear hI;go_wp2_with fail;refine step3_done rfl ?_ ?_ ?_
     ·exact(toI HIp HI.out)
     ·exact(Below.refl _ _)
     ·exact(toV HV rfl)
    ·have u0:=hV;clear hV;simp only[u0];clear u0;have cW:W.cell? ⟨w.heap.size+1+1,2,none⟩=some sv:=(hI.2.2.1 (hL.2 7 (by simp))).cell 2;have HI:=Lib.hid hI;clear hI;go_wp2_with fail;refine step3_done rfl ?_ ?_ ?_
     ·exact(toI HIp HI.out)
     ·exact(Below.refl _ _)
     ·exact(toV HV rfl)
    ·clear hV;have HI:=Lib.hid hI;clear hI;go_wp2_with fail;refine step3_done rfl ?_ ?_ ?_
     ·exact(toI HIp HI.out)
     ·exact(Below.refl _ _)
     ·exact(toV HV rfl)
    ·have u2:=hV;clear hV;simp only[u2];clear u2;have HI:=Lib.hid hI;have HL:=Lib.hid hL;clear hI hL;go_wp2_with fail;obtain⟨i1,i2,i3,i4,i5⟩:=HI.out;refine(Hcl.out W i1).mono ?_;rintro e W' ⟨a',c',rfl,hrd,uW⟩;have hsz:=i2.size;have HP:=Lib.hid (And.intro (upper i1 uW i1.size) (And.intro (i2.below uW hsz) (And.intro (fun h:L 7=false=>(i3 h).go uW) (fun h:L 5=false=>(i4 h).go uW))));have HR3:Hid (RdS (fun b=>wr.heap.size≤b∧b<W'.heap.size) W' o a' o.length c'):=hrd.mono fun b hb=>⟨⟨by omega,hb.2⟩,rfl⟩;have HU:=Lib.hid uW;clear i1 i2 i3 i4 i5 hrd uW HI;go_wp2_with fail;refine step3_done rfl ?_ ?_ ?_
     ·exact(toI HIp ⟨HP.out.1,HP.out.2.1,HP.out.2.2.1,HP.out.2.2.2,fun h:L 7=true=>absurd ((HL.out.2 7 (by simp)).symm.trans h) (by simp)⟩)
     ·exact HU.out
     ·exact(toV HV ⟨_,_,rfl,HR3.out⟩)
    ·obtain⟨a3,c3,u3,r3⟩:=hV;simp only[u3];have U3:=Lib.hid u3;clear u3;have HI:=Lib.hid hI;have HL:=Lib.hid hL;have R3:=Lib.hid r3;clear hI hL r3;go_wp2_with fail;obtain⟨i1,i2,i3,i4,i5⟩:=HI.out;have uW:∀o,Below W.heap.size W (W.alloc o):=fun o=>(Below.refl _ _).alloc (Nat.le_refl _) o;have hsz:=i2.size;refine step3_done rfl ?_ ?_ ?_
     ·exact(toI HIp ⟨upper i1 (uW _) i1.size,i2.below (uW _) hsz,fun h=>(i3 h).go (uW _),fun h=>(i4 h).go (uW _),fun h:L 7=true=>absurd ((HL.out.2 7 (by simp)).symm.trans h) (by simp)⟩)
     ·exact(uW _)
     ·exact(toV HV ⟨_,_,_,rfl,Blk.new _ _,hsz,R3.out.freshB (uW _)⟩)
    ·obtain⟨u1,⟨g4,a4,c4,u4,b4,l4,r4⟩⟩:=hV;simp only[u1,u4];have U4:=Lib.hid u4;clear u1 u4;have HI:=Lib.hid hI;have HL:=Lib.hid hL;have R4:=Lib.hid r4;have B4:=Lib.hid b4;have hO5:=Lib.hid (hI.2.2.2.1 (hL.2 5 (by simp)));have hz5:=hI.1.size;have hz6:=hI.2.1.size;have hI0:w.heap.size+1+1<W.heap.size:=Nat.lt_of_lt_of_le hbx hz6;have Hy:Hid (Rep.rd (fun b=>b<W.heap.size∧¬(fun b=>b<w.heap.size+3) b∧sv.ownBlock≠some b) W o [.slice a4 o.length c4]):=⟨a4,o.length,c4,rfl,r4.mono fun b hb=>⟨⟨hb.2,by(first|omega|(rintro(h|h)<;>omega)),fun e=>by have:=Hvr.out b e;omega⟩,rfl⟩⟩;clear hI hL r4 b4;go_wp2_with (at_builtin;refine wpList_append_one rfl _ _ _ (by rfl) (w.heap.size+3) 42 i0 _ 24 Tryd.underlying28 Hi.out Hz0.out Hz1.out Hz2.out rfl sv lk (by rfl) hO5.out g4 1 _ [.slice a4 o.length c4] o (by rfl) B4.out Hy.out (by have:=Htl.out;unfold maxLen;omega) (by have:=Htl.out;omega) (by omega) ?_);intro g cap w5 hown5 hgrow hat hlt5;obtain⟨i1,i2,i3,i4,i5⟩:=HI.out;have hP1:Below w.heap.size w w5:=i1.grown hgrow hz5 (fun g hg=>by have:=(Hvr.out g hg).1;omega);have hP2:Touch (fun b=>b=w.heap.size+1+1∨sv.ownBlock=some b) wr w5:=i2.grown hgrow (fun k hk=>.inl (.inr hk));have HP:=Lib.hid (And.intro hP1 (And.intro hP2 (fun h:L 7=false=>(i3 h).grown hgrow (fun e=>by have:=Hvr.out _ e.symm;omega))));have HG:=Lib.hid hgrow;have H5:=Lib.hid hown5;have H6:Hid (g≠w.heap.size+1+1):=by
      unfold Hid;intro h;rcases hat with h'|h'
      ·have:=Hvr.out _ h';omega
      ·have:=hI0;omega
     clear i1 i2 i3 i4 i5 hP1 hP2 hgrow hown5 hat HI;go_wp2_with fail;refine step3_done rfl ?_ ?_ ?_
     ·exact(toI HIp ⟨HP.out.1,HP.out.2.1,HP.out.2.2,fun h=>absurd h (by simp[setB]),fun h:L 7=true=>absurd ((HL.out.2 7 (by simp)).symm.trans h) (by simp)⟩)
     ·exact HG.out
     ·exact(toV HV ⟨_,_,rfl,H5.out,H6.out⟩)
    ·clear hV;have HI:=Lib.hid hI;clear hI;go_wp2_with fail;refine step3_done rfl ?_ ?_ ?_
     ·exact(toI HIp HI.out)
     ·exact(Below.refl _ _)
     ·exact(toV HV rfl)
    ·obtain⟨⟨g5,c5,u5,o5,n5⟩,u6⟩:=hV;simp only[u5,u6];have U5:=Lib.hid u5;clear u5 u6;have b7:=hI.2.2.1 (hL.2 7 (by simp));have cW:W.cell? ⟨w.heap.size+1+1,2,none⟩=some sv:=b7.cell 2;have fW:=b7.frozen 2;have HI:=Lib.hid hI;have HL:=Lib.hid hL;have B7:=Lib.hid b7;have O5:=Lib.hid o5;clear hI hL b7 o5;go_wp2_with fail;obtain⟨i1,i2,i3,i4,i5⟩:=HI.out;have ht:∀u,Touch (fun b=>b=w.heap.size+1+1) W (W.setCell ⟨w.heap.size+1+1,2,none⟩ u):=fun u=>Touch.setCell (S:=fun b=>b=w.heap.size+1+1) (Touch.refl _ _) (.inl rfl) _;refine step3_done (v:=undef) rfl ?_ ?_ ?_
     ·exact(toI HIp ⟨i1.setCell (by simp only;omega) _,i2.setCell (.inl (.inl rfl)) _,(fun h=>absurd h (by simp[setB])),fun h:L 5=false=>absurd ((HL.out.1 5 (by simp)).symm.trans h) (by simp),fun _=>⟨_,B7.out.set 2 _,O5.out.touch (ht _) (fun k hk hs=>⟨by(first|omega|exact .inr hs),fun e=>n5 ((Option.some.inj (show some g5=some k from e)).trans hs)⟩)⟩⟩)
     ·exact(ht _)
     ·exact(toV HV rfl)
   case fin=>
    intro x W L hL hI hV;replace hI:(Below w.heap.size w W∧Touch (fun b=>b=w.heap.size+1+1∨sv.ownBlock=some b) wr W∧(L 7=false→Blk (w.heap.size+1+1) (.cells #[.int .i64 s,.int .i64 h,sv] 67 (0,0)) W)∧(L 5=false→Own (fun b=>b<w.heap.size+3) (w.heap.size+3) 42 sv lk W)∧(L 7=true→∃v',Blk (w.heap.size+1+1) (.cells #[.int .i64 s,.int .i64 h,v'] 67 (0,0)) W∧Own (fun b=>b<w.heap.size+3) (w.heap.size+3) 42 v' (lk++[o]) W)):=ofI HIp hI;rw[HV.out]at hV;simp only[AllV,and_true]at hV;obtain⟨u0,u1,u2,⟨a3,c3,u3,r3⟩,⟨g4,a4,c4,u4,b4,l4,r4⟩,⟨g5,c5,u5,o5,n5⟩,u6,u7⟩:=hV;simp only[getsD,List.getD_cons_succ,List.getD_cons_zero,List.length_cons,List.length_nil,List.range,List.range.loop,u0,u1,u2,u3,u4,u5,u6,u7,Act.put,List.setIfInBounds_toArray,List.set_cons_succ,List.set_cons_zero];clear u0 u1 u2 u3 u4 u5 u6 u7;clear r3 r4 b4 o5;obtain⟨i1,i2,i3,i4,i5⟩:=hI;obtain⟨v',x3',hown'⟩:=i5 (hL 7 (by simp));have HF:Hid (Below w.heap.size w W∧Blk (w.heap.size+1) (.cells #[.int .i64 0,.int .i64 0,.slice none 0 0] 67 (0,0)) W∧Blk (w.heap.size+1+1) (.cells #[.int .i64 s,.int .i64 h,v'] 67 (0,0)) W∧
     Own (fun b=>b<w.heap.size+3) (w.heap.size+3) 42 v' (l.take (k+1)) W∧w.heap.size+3≤W.heap.size):=by
     refine⟨i1,X2.out.touch i2 ?_,x3',by rw[Hk.out];exact hown',Nat.le_trans hzr i2.size⟩;rintro(h|h)
     ·omega
     ·have:=(Hvr.out _ h).1;omega
    clear i1 i2 i3 i4 i5 x3' hown' hL;go_wp2_with fail;go_roundw
    case rel=>exact⟨k+1,v',by omega,by go_num,HF.out⟩
    case measure=>simp[intOf];omega
  ·have hkn:k=l.length:=by have:=Hl.out;omega
   rw[hkn,List.take_length]at hown;obtain⟨sa,sc,hsv⟩:=hown.form;subst hsv;have y0:wr.cell? ⟨w.heap.size+1,0,none⟩=some (.int .i64 0):=x2.cell 0;have y1:wr.cell? ⟨w.heap.size+1,1,none⟩=some (.int .i64 0):=x2.cell 1;have y2:wr.cell? ⟨w.heap.size+1,2,none⟩=some (.slice none 0 0):=x2.cell 2;have f2:=x2.frozen;have z0:wr.cell? ⟨w.heap.size+1+1,0,none⟩=some (.int .i64 s):=x3.cell 0;have z1:wr.cell? ⟨w.heap.size+1+1,1,none⟩=some (.int .i64 h):=x3.cell 1;have z2:wr.cell? ⟨w.heap.size+1+1,2,none⟩=some (.slice sa l.length sc):=x3.cell 2;have Hfin:Hid (∀W,Touch (fun b=>b=w.heap.size+1) wr W→Own (· <w.heap.size) w.heap.size 42 (.slice sa l.length sc) l W∧Below w.heap.size w W):=by
    unfold Hid;intro W hW;refine⟨((hown.touch hW (fun k hk hs=>⟨by omega,fun e=>by have:=(hown.rowlt k e).1;omega⟩)).less (fun k hk=>show k<w.heap.size+3 from Nat.lt_of_lt_of_le hk (by omega))).low (by omega),?_⟩;exact b1.trans (hW.toBelow (by omega) (fun k hk=>by omega))
   have Y0:=Lib.hid x2;clear hkn hown x2 x3 b1 c3;have Y:=Lib.hid (show Blk (w.heap.size+1) (.cells #[.int .i64 s,.int .i64 h,.slice sa l.length sc] 67 (0,0)) (((wr.setCell ⟨w.heap.size+1,0,none⟩ (.int .i64 s)).setCell ⟨w.heap.size+1,1,none⟩ (.int .i64 h)).setCell ⟨w.heap.size+1,2,none⟩ (.slice sa l.length sc))from((Y0.out.set 0 _).set 1 _).set 2 _);go_wp2_with fail;refine abs_ret (fun W=>Blk (w.heap.size+1) (.cells #[.int .i64 s,.int .i64 h,.slice sa l.length sc] 67 (0,0)) W∧Touch (fun b=>b=w.heap.size+1) wr W) ⟨Y.out,((Touch.setCell (S:=fun b=>b=w.heap.size+1) (Touch.refl _ _) (.inl rfl) _).setCell (.inl rfl) _).setCell (.inl rfl) _⟩ ?_;rintro W ⟨hY,hT⟩;have q0:W.cell? ⟨w.heap.size+1,0,none⟩=some (.int .i64 s):=hY.cell 0;have q1:W.cell? ⟨w.heap.size+1,1,none⟩=some (.int .i64 h):=hY.cell 1;have q2:W.cell? ⟨w.heap.size+1,2,none⟩=some (.slice sa l.length sc):=hY.cell 2;have HF:=Lib.hid (Hfin.out W hT);clear hY hT Y Y0 y0 y1 y2 z0 z1 z2 f2 Hfin;refine bodyPost_ret (v:=.agg #[.int .i64 s,.int .i64 h,.slice sa l.length sc]) (by simp[results,Tryd.results94,go_sem,q0,q1,q2]) rfl ?_;exact⟨_,rfl,HF.out.1,HF.out.2⟩
def lastT (l:List Op):Option Int:=(l.getLast?).map sumT
def sendE (s h:Int)(l:List Op)(o:Op):Int:=
 if edgeCheck s h l≠0 then edgeCheck s h l else if check o≠0 then check o else if(match lastT l with|some t=>decide (sumF o=t)|none=>true)=false then 10 else if s=1048576 then 8 else 0
def SendPost (s h:Int)(l:List Op)(o:Op)(w:World)(e:Ending)(w':World):Prop:=
 ∃v,e=.returned (.tuple #[.agg #[.int .i64 (s+1),.int .i64 h,v],.int .i64 0])∧Own (· <w.heap.size) w.heap.size 42 v (l++[o]) w'∧Below w.heap.size w w'
theorem edgeCheck_all {s h:Int}{l:List Op}(hc:edgeCheck s h l=0):0≤s∧s≤1048576∧0≤h∧h≤1048576∧(l.length:Int)≤s∧∀o∈l,check o=0:=by
 unfold edgeCheck at hc;by_cases ho:edgeOdd s h l
 ·rw[if_pos ho]at hc;omega
 ·rw[if_neg ho]at hc;have hch:chainFrom none l=true:=by
   by_cases h1:chainFrom none l=true
   ·exact h1
   ·rw[if_neg h1]at hc;omega
  unfold edgeOdd at ho;refine⟨by omega,by omega,by omega,by omega,by omega,?_⟩;have key:∀(l:List Op)(q:Option Int),chainFrom q l=true→∀o∈l,check o=0:=by
   intro l
   induction l with
   |nil=>intro q _ o ho;cases ho
   |cons p r ih=>
    intro q hq o ho;simp only[chainFrom,Bool.and_eq_true,decide_eq_true_eq]at hq;rcases List.mem_cons.1 ho with rfl|ho
    ·exact hq.1.1
    ·exact ih _ hq.2 o ho
  exact key l none hch
set_option maxRecDepth 100000 in
set_option maxHeartbeats 6000000 in
theorem send_ok (s h:Int)(l:List Op)(o:Op)(a ao:Option Addr)(n c no co:Nat)(w:World)(hg:Good w)(hr:RdS (· <w.heap.size) w l a n c)(hro:RdS (· <w.heap.size) w o ao no co)(hs:I64 s)(hh:I64 h)(hE:sendE s h l o=0):
 Calls Tryd.prog 83 #[.agg #[.int .i64 s,.int .i64 h,.slice a n c],.slice ao no co] w (SendPost s h l o w):=by
 have e1:edgeCheck s h l=0:=by
  by_cases h1:edgeCheck s h l=0
  ·exact h1
  ·unfold sendE at hE;rw[if_pos h1]at hE;exact hE
 unfold sendE at hE;rw[if_neg (by simpa using e1)]at hE;have e2:check o=0:=by
  by_cases h1:check o=0
  ·exact h1
  ·rw[if_pos h1]at hE;exact hE
 rw[if_neg (by simpa using e2)]at hE;have e3:(match lastT l with|some t=>decide (sumF o=t)|none=>true)=true:=by
  cases h1:(match lastT l with|some t=>decide (sumF o=t)|none=>true)with
  |true=>rfl
  |false=>rw[if_pos h1]at hE;omega
 rw[e3]at hE;have e4:s≠1048576:=by
  intro h1;rw[if_neg (by simp),if_pos h1]at hE;omega
 clear hE;obtain⟨s0,s1,h0,h1,hls,hall⟩:=edgeCheck_all e1;have hnl:=hr.1;have HC:=Lib.hid (fun W hg hr=>edge_any s h l a n c W hg hr hs hh);rw[e1]at HC;have HK:=Lib.hid (fun W hg hr=>check_go o ao no co W hg hr);rw[e2]at HK;have HLo:=Lib.hid (fun W hr=>lengths_go o ao no co W hr e2);have HW:=Lib.hid (fun W hr=>own_any s h l a n c W hr (fun o ho=>by have:=(check_zero (hall o ho)).1;omega) (by omega));have hlo:no≤1000000000:=by have:=(check_zero e2).1;have:=hro.1;omega
 have Hcl0:=Lib.hid (fun W hr=>clone_any o ao no co W hr hlo);have Hr:=Lib.hid hr;have Hro:=Lib.hid hro;have E3:=Lib.hid e3;have Hl:=Lib.hid hnl;have Hall:=Lib.hid hall;have hs4:(s==1048576)=false:=by simpa using e4
 have hn2:n≤1048576:=by omega
 have hls2:s≤1048575:=by omega
 have Hlen:=Lib.hid (p:=l.length≤1048576) (by omega);clear e1 e2 e3 e4 hall hr hro hnl hs hh hls s1 hlo;obtain⟨i0,hi,hz0,hz1,hz2⟩:=info_parts infoO;have Hi:=Lib.hid hi;have Hz0:=Lib.hid hz0;have Hz1:=Lib.hid hz1;have Hz2:=Lib.hid hz2;clear hi hz0 hz1 hz2;go_enter Tryd.func83,Tryd.ntmps83;go_wp2_with fail;refine abs_run (fun W=>Below w.heap.size w W∧Blk w.heap.size (.cells #[.int .i64 s,.int .i64 h,.slice a n c] 67 (0,0)) W∧Blk (w.heap.size+1) (.cells #[.int .i64 0,.int .i64 0,.slice none 0 0] 67 (0,0)) W)
  ⟨by(repeat (first|exact Below.refl _ _|assumption|(refine Below.drew ?_)|(refine below_drewN ?_ _)|(refine Below.alloc ?_ (by first|(simp;done)|(simp;omega)|omega) _)|(refine Below.setCell ?_ (by first|(simp;done)|(simp;omega)|omega) _)|(refine Below.trans ?_ (Below.mono (by assumption) (by first|(simp;done)|(simp;omega)|omega))))),(Blk.new _ _).alloc _,Blk.at _ _ _ (by simp)⟩ ?_
 rintro w1 ⟨b1,x1,y1⟩;refine(HC.out _ (hg.go b1) (Hr.out.go b1)).mono ?_;rintro e w2 ⟨rfl,u2⟩;have b2:=up b1 u2;have x2:=x1.go u2;have y2:=y1.go u2;clear u2 x1 y1 b1 HC;go_wp2_with fail;refine(HK.out _ (hg.go b2) (Hro.out.go b2)).mono ?_;rintro e w3 ⟨rfl,u3⟩;have b3:=up b2 u3;have x3:=x2.go u3;have y3:=y2.go u3;clear u3 x2 y2 b2 HK;have c0:w3.cell? ⟨w.heap.size,0,none⟩=some (.int .i64 s):=x3.cell 0;have c1:w3.cell? ⟨w.heap.size,1,none⟩=some (.int .i64 h):=x3.cell 1;have c2:w3.cell? ⟨w.heap.size,2,none⟩=some (.slice a n c):=x3.cell 2;by_cases hn0:0<n
 ·obtain⟨b,off,rfl,hAb,hbs,hcs⟩:=Hr.out.row hn0;obtain⟨m,rfl⟩:∃m,n=m+1:=⟨n-1,by omega⟩;have hml:m<l.length:=by have:=Hl.out;omega
  obtain⟨ak,nk,ck,hrk,dk0⟩:=hcs m hml;have dk:w3.cell? ⟨b,off+m,none⟩=some (.slice ak nk ck):=(b3.cell (p:=⟨b,off+m,none⟩) hbs).trans dk0;have HLk:=Lib.hid (fun W (hr:RdS (· <W.heap.size) W l[m] ak nk ck)=>lengths_go l[m] ak nk ck W hr (Hall.out l[m] (List.getElem_mem hml)));have Hrk:=Lib.hid hrk;have hlast:sumF o=sumT l[m]:=by
   have h3:=E3.out;have h4:lastT l=some (sumT l[m]):=by
    unfold lastT;rw[List.getLast?_eq_getElem?,show l.length-1=m from by have:=Hl.out;omega,List.getElem?_eq_getElem hml];rfl
   rw[h4]at h3;simpa using h3
  have hne:(sumF o !=sumT l[m])=false:=by simp[hlast]
  clear hcs hrk dk0 E3 hlast;have hmm:((m+1:Nat):Int)-1=m:=by omega
  have B3:=Lib.hid b3;have X3:=Lib.hid x3;have Y3:=Lib.hid y3;clear b3 x3 y3;generalize sumF l[m]=t1 at*;generalize sumT l[m]=t2 at*;go_wp2_with fail;refine(HLk.out _ (Hrk.out.go B3.out)).mono ?_;rintro e w4 ⟨rfl,u4⟩;have b4:=up B3.out u4;have x4:=X3.out.go u4;have y4:=Y3.out.go u4;clear u4 B3 X3 Y3 dk;go_wp2_with fail;refine(HLo.out _ (Hro.out.go b4)).mono ?_;rintro e w5 ⟨rfl,u5⟩;have b5:=up b4 u5;have x5:=x4.go u5;have y5:=y4.go u5;clear u5 b4 x4 y4 HLo HLk;have hz5:=b5.size;have hy5:=y5.lt;have d0:w5.cell? ⟨w.heap.size,0,none⟩=some (.int .i64 s):=x5.cell 0;have d1:w5.cell? ⟨w.heap.size,1,none⟩=some (.int .i64 h):=x5.cell 1;have d2:w5.cell? ⟨w.heap.size,2,none⟩=some (.slice (some ⟨b,off,none⟩) (m+1) c):=x5.cell 2;have B5:=Lib.hid b5;have Y5:=Lib.hid y5;clear b5 x5 y5;go_wp2_with fail;have b5:=B5.out;have y5:=Y5.out;clear B5 Y5;refine(HW.out _ (Hr.out.go b5)).mono ?_;rintro e w6 ⟨sv,rfl,hown6,u6⟩;obtain⟨sa,sc,hsv⟩:=hown6.form;have b6:=up b5 u6;have y6:=y5.go u6;have hz6:=u6.size;have B6:=Lib.hid b6;have Y6:=Lib.hid y6;have O6:=Lib.hid hown6;have Hsv:=Lib.hid hsv;clear d0 d1 d2 b5 y5 u6 b6 y6 hown6 HW hsv;rw[Hsv.out];go_wp2_with fail;refine abs_w (fun W=>Below w6.heap.size w6 W∧Blk w6.heap.size (.cells #[.int .i64 (s+1),.int .i64 h,.slice sa l.length sc] 67 (0,0)) W)
   ⟨by(repeat (first|exact Below.refl _ _|assumption|(refine Below.drew ?_)|(refine below_drewN ?_ _)|(refine Below.alloc ?_ (by first|(simp;done)|(simp;omega)|omega) _)|(refine Below.setCell ?_ (by first|(simp;done)|(simp;omega)|omega) _)|(refine Below.trans ?_ (Below.mono (by assumption) (by first|(simp;done)|(simp;omega)|omega))))),Blk.new _ _⟩ ?_
  rintro wr ⟨ur,xr⟩;rw[←Hsv.out]at xr;have br:=up B6.out ur;have hzr:=ur.size;have hbx:=xr.lt;have hor:Own (fun b=>b<w5.heap.size∨b=w6.heap.size) w5.heap.size 42 sv l wr:=(O6.out.more (fun k hk h=>by rcases h with h|h<;>omega)).go ur;have Hvr:=Lib.hid (p:=∀k,sv.ownBlock=some k→w5.heap.size≤k∧k<wr.heap.size∧k≠w6.heap.size) (fun k hk=>by have:=O6.out.rowlt k hk;omega);have HB:=Lib.hid br;have X3:=Lib.hid xr;have HO:=Lib.hid hor;have Y6:=Lib.hid (Y6.out.go ur);have Htl:=Hlen;have Hcl:=Lib.hid (fun W (hW:Below w.heap.size w W)=>Hcl0.out W (Hro.out.go hW));clear br xr hor ur B6 O6;obtain⟨Vp,HV⟩:∃Vp:Nat→Value→World→Prop,Hid (Vp=fun i v W=>match i with
   |0=>v=.pointer (some ⟨w6.heap.size,2,none⟩)
   |1=>v=sv
   |2=>v=.slice ao no co
   |3=>∃a c,v=.slice a o.length c∧RdS (fun b=>wr.heap.size≤b∧b<W.heap.size) W o a o.length c
   |4=>∃g a c,v=.slice (some ⟨g,0,none⟩) 1 1∧Blk g (.cells #[.slice a o.length c] 42 (0,0)) W∧wr.heap.size≤g∧RdS (fun b=>wr.heap.size≤b∧b<W.heap.size) W o a o.length c
   |5=>∃g c,v=.slice (some ⟨g,0,none⟩) (l.length+1) c∧Own (fun b=>b<w5.heap.size∨b=w6.heap.size) (w5.heap.size) 42 (.slice (some ⟨g,0,none⟩) (l.length+1) c) (l++[o]) W∧g≠w6.heap.size
   |6=>v=.pointer (some ⟨w6.heap.size,2,none⟩)
   |_=>v=undef):=⟨_,rfl⟩
  obtain⟨Ip,HIp⟩:∃Ip:(Nat→Bool)→(Nat→Value)→World→Prop,Hid (Ip=fun L x W=>(Below w.heap.size w W∧Touch (fun b=>b=w6.heap.size∨sv.ownBlock=some b) wr W∧(L 7=false→Blk (w6.heap.size) (.cells #[.int .i64 (s+1),.int .i64 h,sv] 67 (0,0)) W)∧(L 5=false→Own (fun b=>b<w5.heap.size∨b=w6.heap.size) (w5.heap.size) 42 sv l W)∧(L 7=true→∃v',Blk (w6.heap.size) (.cells #[.int .i64 (s+1),.int .i64 h,v'] 67 (0,0)) W∧Own (fun b=>b<w5.heap.size∨b=w6.heap.size) (w5.heap.size) 42 v' (l++[o]) W))):=⟨_,rfl⟩;refine region_lit3 (by kernel_rfl) (by kernel_rfl) (by kernel_rfl) [[],[0],[],[2],[2,3],[0,1,2,3,4],[],[0,1,2,3,4,5,6]] (by kernel_rfl) [some 60,some 61,some 62,some 63,some 64,some 65,some 66,none] (by kernel_rfl) [[0,1,5,7],[1,5,7],[2,3,4,5,7],[3,4,5,7],[4,5,7],[5,7],[6,7],[7]] (by kernel_rfl) [[],[],[],[],[],[],[],[]] [[],[0],[],[2],[3],[1,4],[],[5,6]] (by kernel_rfl)
   Ip
   Vp
   (fun j W W'=>match j with
    |5=>W.grownBy W' sv.ownBlock
    |7=>Touch (fun b=>b=w6.heap.size) W W'
    |_=>Below W.heap.size W W')
   [fun x=>⟨(fZm 13 (.pointer (some ⟨w6.heap.size,0,none⟩)) (fEm 47)).toArray,[]⟩,fun x=>⟨(fZm 60 (x 0) (fEm 1)).toArray,[]⟩,fun x=>⟨(fZm 1 (.slice ao no co) (fEm 61)).toArray,[]⟩,fun x=>⟨(fZm 62 (x 2) (fEm 1)).toArray,[]⟩,fun x=>⟨(fZm 63 (x 3) (fEm 1)).toArray,[]⟩,fun x=>⟨(fZm 61 (x 1) (fZm 2 (x 4) (fEm 1))).toArray,[]⟩,fun x=>⟨(fZm 13 (.pointer (some ⟨w6.heap.size,0,none⟩)) (fEm 53)).toArray,[]⟩,fun x=>⟨(fZm 65 (x 5) (fZm 0 (x 6) [])).toArray,[]⟩]
   ?hF ?mono ?h0 ?step [0,1,2,3,4,5,6,7] (by kernel_rfl) ?fin
  case hF=>
   iterate 8 refine⟨fun x=>⟨by kernel_rfl,by kernel_rfl⟩,?_⟩
   trivial
  case mono=>
   intro i j hi hj hne hna hnk v W W' hE hv;rw[HV.out]at hv⊢;simp only[List.length_cons,List.length_nil]at hi hj
   match i,hi with
   |0,_|1,_|2,_|6,_|7,_=>exact hv
   |3,_=>
    match j,hj with
    |3,_=>exact absurd rfl hne
    |2,_=>exact absurd (by simp) hna
    |0,_|1,_|4,_|6,_=>exact(by obtain⟨a,c,h1,h2⟩:=hv;exact⟨a,c,h1,h2.freshB hE⟩)
    |5,_=>exact(by obtain⟨a,c,h1,h2⟩:=hv;exact⟨a,c,h1,h2.freshG hE (fun k hk=>(Hvr.out k hk).2.1)⟩)
    |7,_=>exact(by obtain⟨a,c,h1,h2⟩:=hv;exact⟨a,c,h1,h2.freshT hE (fun k hk=>by omega)⟩)
    |m+8,h=>exact absurd h (by omega)
   |4,_=>
    match j,hj with
    |4,_=>exact absurd rfl hne
    |2,_|3,_=>exact absurd (by simp) hna
    |0,_|1,_|6,_=>exact(by obtain⟨g,a,c,h1,h2,h3,h4⟩:=hv;exact⟨g,a,c,h1,h2.go hE,h3,h4.freshB hE⟩)
    |5,_=>exact(by obtain⟨g,a,c,h1,h2,h3,h4⟩:=hv;exact⟨g,a,c,h1,h2.grown hE (fun e=>by have:=Hvr.out g e.symm;omega),h3,h4.freshG hE (fun k hk=>(Hvr.out k hk).2.1)⟩)
    |7,_=>exact(by obtain⟨g,a,c,h1,h2,h3,h4⟩:=hv;exact⟨g,a,c,h1,h2.touch hE (by omega),h3,h4.freshT hE (fun k hk=>by omega)⟩)
    |m+8,h=>exact absurd h (by omega)
   |5,_=>
    match j,hj with
    |5,_=>exact absurd rfl hne
    |0,_|1,_|2,_|3,_|4,_=>exact absurd (by simp) hna
    |6,_=>exact(by obtain⟨g,c,h1,h2,h3⟩:=hv;exact⟨g,c,h1,h2.go hE,h3⟩)
    |7,_=>exact(by obtain⟨g,c,h1,h2,h3⟩:=hv;exact⟨g,c,h1,h2.touch hE (fun k hk hs=>⟨by(first|omega|exact .inr hs),fun e=>h3 ((Option.some.inj (show some g=some k from e)).trans hs)⟩),h3⟩)
    |m+8,h=>exact absurd h (by omega)
   |m+8,h=>exact absurd h (by omega)
  case h0=>intro x;exact toI HIp ⟨HB.out.drew,(Touch.refl _ _).drew,fun _=>X3.out,fun _=>HO.out.go (Below.refl _ _).drew,fun h=>by cases h⟩
  case step=>
   refine⟨?_,?_,?_,?_,?_,?_,?_,?_,trivial⟩
   all_goals
    intro x W L hI hL hV;replace hI:(Below w.heap.size w W∧Touch (fun b=>b=w6.heap.size∨sv.ownBlock=some b) wr W∧(L 7=false→Blk (w6.heap.size) (.cells #[.int .i64 (s+1),.int .i64 h,sv] 67 (0,0)) W)∧(L 5=false→Own (fun b=>b<w5.heap.size∨b=w6.heap.size) (w5.heap.size) 42 sv l W)∧(L 7=true→∃v',Blk (w6.heap.size) (.cells #[.int .i64 (s+1),.int .i64 h,v'] 67 (0,0)) W∧Own (fun b=>b<w5.heap.size∨b=w6.heap.size) (w5.heap.size) 42 v' (l++[o]) W)):=ofI HIp hI;rw[HV.out]at hV;simp only[AllV,and_true]at hV;dsimp only[fZm,fEm,List.reduceReplicate,List.cons_append,List.nil_append]
   ·clear hV;have HI:=Lib.hid hI;clear hI;go_wp2_with fail;refine step3_done rfl ?_ ?_ ?_
    ·exact(toI HIp HI.out)
    ·exact(Below.refl _ _)
    ·exact(toV HV rfl)
   ·have u0:=hV;clear hV;simp only[u0];clear u0;have cW:W.cell? ⟨w6.heap.size,2,none⟩=some sv:=(hI.2.2.1 (hL.2 7 (by simp))).cell 2;have HI:=Lib.hid hI;clear hI;go_wp2_with fail;refine step3_done rfl ?_ ?_ ?_
    ·exact(toI HIp HI.out)
    ·exact(Below.refl _ _)
    ·exact(toV HV rfl)
   ·clear hV;have HI:=Lib.hid hI;clear hI;go_wp2_with fail;refine step3_done rfl ?_ ?_ ?_
    ·exact(toI HIp HI.out)
    ·exact(Below.refl _ _)
    ·exact(toV HV rfl)
   ·have u2:=hV;clear hV;simp only[u2];clear u2;have HI:=Lib.hid hI;have HL:=Lib.hid hL;clear hI hL;go_wp2_with fail;obtain⟨i1,i2,i3,i4,i5⟩:=HI.out;refine(Hcl.out W i1).mono ?_;rintro e W' ⟨a',c',rfl,hrd,uW⟩;have hsz:=i2.size;have HP:=Lib.hid (And.intro (upper i1 uW i1.size) (And.intro (i2.below uW hsz) (And.intro (fun h:L 7=false=>(i3 h).go uW) (fun h:L 5=false=>(i4 h).go uW))));have HR3:Hid (RdS (fun b=>wr.heap.size≤b∧b<W'.heap.size) W' o a' o.length c'):=hrd.mono fun b hb=>⟨⟨by omega,hb.2⟩,rfl⟩;have HU:=Lib.hid uW;clear i1 i2 i3 i4 i5 hrd uW HI;go_wp2_with fail;refine step3_done rfl ?_ ?_ ?_
    ·exact(toI HIp ⟨HP.out.1,HP.out.2.1,HP.out.2.2.1,HP.out.2.2.2,fun h:L 7=true=>absurd ((HL.out.2 7 (by simp)).symm.trans h) (by simp)⟩)
    ·exact HU.out
    ·exact(toV HV ⟨_,_,rfl,HR3.out⟩)
   ·obtain⟨a3,c3,u3,r3⟩:=hV;simp only[u3];have U3:=Lib.hid u3;clear u3;have HI:=Lib.hid hI;have HL:=Lib.hid hL;have R3:=Lib.hid r3;clear hI hL r3;go_wp2_with fail;obtain⟨i1,i2,i3,i4,i5⟩:=HI.out;have uW:∀o,Below W.heap.size W (W.alloc o):=fun o=>(Below.refl _ _).alloc (Nat.le_refl _) o;have hsz:=i2.size;refine step3_done rfl ?_ ?_ ?_
    ·exact(toI HIp ⟨upper i1 (uW _) i1.size,i2.below (uW _) hsz,fun h=>(i3 h).go (uW _),fun h=>(i4 h).go (uW _),fun h:L 7=true=>absurd ((HL.out.2 7 (by simp)).symm.trans h) (by simp)⟩)
    ·exact(uW _)
    ·exact(toV HV ⟨_,_,_,rfl,Blk.new _ _,hsz,R3.out.freshB (uW _)⟩)
   ·obtain⟨u1,⟨g4,a4,c4,u4,b4,l4,r4⟩⟩:=hV;simp only[u1,u4];have U4:=Lib.hid u4;clear u1 u4;have HI:=Lib.hid hI;have HL:=Lib.hid hL;have R4:=Lib.hid r4;have B4:=Lib.hid b4;have hO5:=Lib.hid (hI.2.2.2.1 (hL.2 5 (by simp)));have hz5:=hI.1.size;have hz6:=hI.2.1.size;have hI0:w6.heap.size<W.heap.size:=Nat.lt_of_lt_of_le hbx hz6;have Hy:Hid (Rep.rd (fun b=>b<W.heap.size∧¬(fun b=>b<w5.heap.size∨b=w6.heap.size) b∧sv.ownBlock≠some b) W o [.slice a4 o.length c4]):=⟨a4,o.length,c4,rfl,r4.mono fun b hb=>⟨⟨hb.2,by(first|omega|(rintro(h|h)<;>omega)),fun e=>by have:=Hvr.out b e;omega⟩,rfl⟩⟩;clear hI hL r4 b4;go_wp2_with (at_builtin;refine wpList_append_one rfl _ _ _ (by rfl) (w5.heap.size) 42 i0 _ 24 Tryd.underlying28 Hi.out Hz0.out Hz1.out Hz2.out rfl sv l (by rfl) hO5.out g4 1 _ [.slice a4 o.length c4] o (by rfl) B4.out Hy.out (by have:=Htl.out;unfold maxLen;omega) (by have:=Htl.out;omega) (by omega) ?_);intro g cap w5 hown5 hgrow hat hlt5;obtain⟨i1,i2,i3,i4,i5⟩:=HI.out;have hP1:Below w.heap.size w w5:=i1.grown hgrow hz5 (fun g hg=>by have:=(Hvr.out g hg).1;omega);have hP2:Touch (fun b=>b=w6.heap.size∨sv.ownBlock=some b) wr w5:=i2.grown hgrow (fun k hk=>.inl (.inr hk));have HP:=Lib.hid (And.intro hP1 (And.intro hP2 (fun h:L 7=false=>(i3 h).grown hgrow (fun e=>by have:=Hvr.out _ e.symm;omega))));have HG:=Lib.hid hgrow;have H5:=Lib.hid hown5;have H6:Hid (g≠w6.heap.size):=by
     unfold Hid;intro h;rcases hat with h'|h'
     ·have:=Hvr.out _ h';omega
     ·have:=hI0;omega
    clear i1 i2 i3 i4 i5 hP1 hP2 hgrow hown5 hat HI;go_wp2_with fail;refine step3_done rfl ?_ ?_ ?_
    ·exact(toI HIp ⟨HP.out.1,HP.out.2.1,HP.out.2.2,fun h=>absurd h (by simp[setB]),fun h:L 7=true=>absurd ((HL.out.2 7 (by simp)).symm.trans h) (by simp)⟩)
    ·exact HG.out
    ·exact(toV HV ⟨_,_,rfl,H5.out,H6.out⟩)
   ·clear hV;have HI:=Lib.hid hI;clear hI;go_wp2_with fail;refine step3_done rfl ?_ ?_ ?_
    ·exact(toI HIp HI.out)
    ·exact(Below.refl _ _)
    ·exact(toV HV rfl)
   ·obtain⟨⟨g5,c5,u5,o5,n5⟩,u6⟩:=hV;simp only[u5,u6];have U5:=Lib.hid u5;clear u5 u6;have b7:=hI.2.2.1 (hL.2 7 (by simp));have cW:W.cell? ⟨w6.heap.size,2,none⟩=some sv:=b7.cell 2;have fW:=b7.frozen 2;have HI:=Lib.hid hI;have HL:=Lib.hid hL;have B7:=Lib.hid b7;have O5:=Lib.hid o5;clear hI hL b7 o5;go_wp2_with fail;obtain⟨i1,i2,i3,i4,i5⟩:=HI.out;have ht:∀u,Touch (fun b=>b=w6.heap.size) W (W.setCell ⟨w6.heap.size,2,none⟩ u):=fun u=>Touch.setCell (S:=fun b=>b=w6.heap.size) (Touch.refl _ _) (.inl rfl) _;refine step3_done (v:=undef) rfl ?_ ?_ ?_
    ·exact(toI HIp ⟨i1.setCell (by simp only;omega) _,i2.setCell (.inl (.inl rfl)) _,(fun h=>absurd h (by simp[setB])),fun h:L 5=false=>absurd ((HL.out.1 5 (by simp)).symm.trans h) (by simp),fun _=>⟨_,B7.out.set 2 _,O5.out.touch (ht _) (fun k hk hs=>⟨by(first|omega|exact .inr hs),fun e=>n5 ((Option.some.inj (show some g5=some k from e)).trans hs)⟩)⟩⟩)
    ·exact(ht _)
    ·exact(toV HV rfl)
  case fin=>
   intro x W L hL hI hV;replace hI:(Below w.heap.size w W∧Touch (fun b=>b=w6.heap.size∨sv.ownBlock=some b) wr W∧(L 7=false→Blk (w6.heap.size) (.cells #[.int .i64 (s+1),.int .i64 h,sv] 67 (0,0)) W)∧(L 5=false→Own (fun b=>b<w5.heap.size∨b=w6.heap.size) (w5.heap.size) 42 sv l W)∧(L 7=true→∃v',Blk (w6.heap.size) (.cells #[.int .i64 (s+1),.int .i64 h,v'] 67 (0,0)) W∧Own (fun b=>b<w5.heap.size∨b=w6.heap.size) (w5.heap.size) 42 v' (l++[o]) W)):=ofI HIp hI;rw[HV.out]at hV;simp only[AllV,and_true]at hV;obtain⟨u0,u1,u2,⟨a3,c3,u3,r3⟩,⟨g4,a4,c4,u4,b4,l4,r4⟩,⟨g5,c5,u5,o5,n5⟩,u6,u7⟩:=hV;simp only[getsD,List.getD_cons_succ,List.getD_cons_zero,List.length_cons,List.length_nil,List.range,List.range.loop,u0,u1,u2,u3,u4,u5,u6,u7,Act.put,List.setIfInBounds_toArray,List.set_cons_succ,List.set_cons_zero];clear u0 u1 u2 u3 u4 u5 u6 u7;clear r3 r4 b4 o5;obtain⟨i1,i2,i3,i4,i5⟩:=hI;obtain⟨v',x3',hown'⟩:=i5 (hL 7 (by simp));obtain⟨ra,rc,hv'⟩:=hown'.form;simp only[List.length_append,List.length_cons,List.length_nil,Nat.zero_add]at hv';subst hv';have q0:W.cell? ⟨w6.heap.size,0,none⟩=some (.int .i64 (s+1)):=x3'.cell 0;have q1:W.cell? ⟨w6.heap.size,1,none⟩=some (.int .i64 h):=x3'.cell 1;have q2:W.cell? ⟨w6.heap.size,2,none⟩=some (.slice ra (l.length+1) rc):=x3'.cell 2;have yW:Blk (w.heap.size+1) (.cells #[.int .i64 0,.int .i64 0,.slice none 0 0] 67 (0,0)) W:=Y6.out.touch i2 (by
    rintro(h|h)
    ·omega
    ·have:=Hvr.out _ h;omega)
   have z0:W.cell? ⟨w.heap.size+1,0,none⟩=some (.int .i64 0):=yW.cell 0;have z1:W.cell? ⟨w.heap.size+1,1,none⟩=some (.int .i64 0):=yW.cell 1;have z2:W.cell? ⟨w.heap.size+1,2,none⟩=some (.slice none 0 0):=yW.cell 2;have zf:=yW.frozen;have YW:=Lib.hid (yW.set3 (.int .i64 (s+1)) (.int .i64 h) (.slice ra (l.length+1) rc));have Hfin:Hid (∀W',Touch (fun b=>b=w.heap.size+1) W W'→Own (· <w.heap.size) w.heap.size 42 (.slice ra (l.length+1) rc) (l++[o]) W'∧Below w.heap.size w W'):=by
    unfold Hid;intro W' hW;refine⟨((hown'.touch hW (fun k hk hs=>⟨.inl (by omega),fun e=>by have:=(hown'.rowlt k e).1;omega⟩)).less (fun k hk=>.inl (Nat.lt_of_lt_of_le hk hz5))).low hz5,?_⟩;exact i1.trans (hW.toBelow i1.size (fun k hk=>by omega))
   clear i1 i2 i3 i4 i5 x3' hown' yW hL;go_wp2_with fail;refine abs_ret (fun W'=>Blk (w.heap.size+1) (.cells #[.int .i64 (s+1),.int .i64 h,.slice ra (l.length+1) rc] 67 (0,0)) W'∧Touch (fun b=>b=w.heap.size+1) W W') ⟨YW.out,touch3 _ _ _⟩ ?_;rintro W' ⟨hY,hT⟩;have p0:W'.cell? ⟨w.heap.size+1,0,none⟩=some (.int .i64 (s+1)):=hY.cell 0;have p1:W'.cell? ⟨w.heap.size+1,1,none⟩=some (.int .i64 h):=hY.cell 1;have p2:W'.cell? ⟨w.heap.size+1,2,none⟩=some (.slice ra (l.length+1) rc):=hY.cell 2;have HF:=Lib.hid (Hfin.out W' hT);clear hY hT YW z0 z1 z2 zf q0 q1 q2 Hfin;refine bodyPost_ret (v:=.tuple #[.agg #[.int .i64 (s+1),.int .i64 h,.slice ra (l.length+1) rc],.int .i64 0]) (by simp[results,Tryd.results83,go_sem,p0,p1,p2]) rfl ?_;exact⟨_,rfl,HF.out.1,HF.out.2⟩
 ·obtain rfl:n=0:=by omega
  have b5:=b3;have x5:=x3;have y5:=y3;clear b3 x3 y3 HLo E3;have hz5:=b5.size;have hy5:=y5.lt;have d0:w3.cell? ⟨w.heap.size,0,none⟩=some (.int .i64 s):=x5.cell 0;have d1:w3.cell? ⟨w.heap.size,1,none⟩=some (.int .i64 h):=x5.cell 1;have d2:w3.cell? ⟨w.heap.size,2,none⟩=some (.slice a 0 c):=x5.cell 2;have B5:=Lib.hid b5;have Y5:=Lib.hid y5;clear b5 x5 y5;go_wp2_with fail;have b5:=B5.out;have y5:=Y5.out;clear B5 Y5;refine(HW.out _ (Hr.out.go b5)).mono ?_;rintro e w6 ⟨sv,rfl,hown6,u6⟩;obtain⟨sa,sc,hsv⟩:=hown6.form;have b6:=up b5 u6;have y6:=y5.go u6;have hz6:=u6.size;have B6:=Lib.hid b6;have Y6:=Lib.hid y6;have O6:=Lib.hid hown6;have Hsv:=Lib.hid hsv;clear d0 d1 d2 b5 y5 u6 b6 y6 hown6 HW hsv;rw[Hsv.out];go_wp2_with fail;refine abs_w (fun W=>Below w6.heap.size w6 W∧Blk w6.heap.size (.cells #[.int .i64 (s+1),.int .i64 h,.slice sa l.length sc] 67 (0,0)) W)
   ⟨by(repeat (first|exact Below.refl _ _|assumption|(refine Below.drew ?_)|(refine below_drewN ?_ _)|(refine Below.alloc ?_ (by first|(simp;done)|(simp;omega)|omega) _)|(refine Below.setCell ?_ (by first|(simp;done)|(simp;omega)|omega) _)|(refine Below.trans ?_ (Below.mono (by assumption) (by first|(simp;done)|(simp;omega)|omega))))),Blk.new _ _⟩ ?_
  rintro wr ⟨ur,xr⟩;rw[←Hsv.out]at xr;have br:=up B6.out ur;have hzr:=ur.size;have hbx:=xr.lt;have hor:Own (fun b=>b<w3.heap.size∨b=w6.heap.size) w3.heap.size 42 sv l wr:=(O6.out.more (fun k hk h=>by rcases h with h|h<;>omega)).go ur;have Hvr:=Lib.hid (p:=∀k,sv.ownBlock=some k→w3.heap.size≤k∧k<wr.heap.size∧k≠w6.heap.size) (fun k hk=>by have:=O6.out.rowlt k hk;omega);have HB:=Lib.hid br;have X3:=Lib.hid xr;have HO:=Lib.hid hor;have Y6:=Lib.hid (Y6.out.go ur);have Htl:=Hlen;have Hcl:=Lib.hid (fun W (hW:Below w.heap.size w W)=>Hcl0.out W (Hro.out.go hW));clear br xr hor ur B6 O6;obtain⟨Vp,HV⟩:∃Vp:Nat→Value→World→Prop,Hid (Vp=fun i v W=>match i with
   |0=>v=.pointer (some ⟨w6.heap.size,2,none⟩)
   |1=>v=sv
   |2=>v=.slice ao no co
   |3=>∃a c,v=.slice a o.length c∧RdS (fun b=>wr.heap.size≤b∧b<W.heap.size) W o a o.length c
   |4=>∃g a c,v=.slice (some ⟨g,0,none⟩) 1 1∧Blk g (.cells #[.slice a o.length c] 42 (0,0)) W∧wr.heap.size≤g∧RdS (fun b=>wr.heap.size≤b∧b<W.heap.size) W o a o.length c
   |5=>∃g c,v=.slice (some ⟨g,0,none⟩) (l.length+1) c∧Own (fun b=>b<w3.heap.size∨b=w6.heap.size) (w3.heap.size) 42 (.slice (some ⟨g,0,none⟩) (l.length+1) c) (l++[o]) W∧g≠w6.heap.size
   |6=>v=.pointer (some ⟨w6.heap.size,2,none⟩)
   |_=>v=undef):=⟨_,rfl⟩
  obtain⟨Ip,HIp⟩:∃Ip:(Nat→Bool)→(Nat→Value)→World→Prop,Hid (Ip=fun L x W=>(Below w.heap.size w W∧Touch (fun b=>b=w6.heap.size∨sv.ownBlock=some b) wr W∧(L 7=false→Blk (w6.heap.size) (.cells #[.int .i64 (s+1),.int .i64 h,sv] 67 (0,0)) W)∧(L 5=false→Own (fun b=>b<w3.heap.size∨b=w6.heap.size) (w3.heap.size) 42 sv l W)∧(L 7=true→∃v',Blk (w6.heap.size) (.cells #[.int .i64 (s+1),.int .i64 h,v'] 67 (0,0)) W∧Own (fun b=>b<w3.heap.size∨b=w6.heap.size) (w3.heap.size) 42 v' (l++[o]) W))):=⟨_,rfl⟩;refine region_lit3 (by kernel_rfl) (by kernel_rfl) (by kernel_rfl) [[],[0],[],[2],[2,3],[0,1,2,3,4],[],[0,1,2,3,4,5,6]] (by kernel_rfl) [some 60,some 61,some 62,some 63,some 64,some 65,some 66,none] (by kernel_rfl) [[0,1,5,7],[1,5,7],[2,3,4,5,7],[3,4,5,7],[4,5,7],[5,7],[6,7],[7]] (by kernel_rfl) [[],[],[],[],[],[],[],[]] [[],[0],[],[2],[3],[1,4],[],[5,6]] (by kernel_rfl)
   Ip
   Vp
   (fun j W W'=>match j with
    |5=>W.grownBy W' sv.ownBlock
    |7=>Touch (fun b=>b=w6.heap.size) W W'
    |_=>Below W.heap.size W W')
   [fun x=>⟨(fZm 13 (.pointer (some ⟨w6.heap.size,0,none⟩)) (fEm 47)).toArray,[]⟩,fun x=>⟨(fZm 60 (x 0) (fEm 1)).toArray,[]⟩,fun x=>⟨(fZm 1 (.slice ao no co) (fEm 61)).toArray,[]⟩,fun x=>⟨(fZm 62 (x 2) (fEm 1)).toArray,[]⟩,fun x=>⟨(fZm 63 (x 3) (fEm 1)).toArray,[]⟩,fun x=>⟨(fZm 61 (x 1) (fZm 2 (x 4) (fEm 1))).toArray,[]⟩,fun x=>⟨(fZm 13 (.pointer (some ⟨w6.heap.size,0,none⟩)) (fEm 53)).toArray,[]⟩,fun x=>⟨(fZm 65 (x 5) (fZm 0 (x 6) [])).toArray,[]⟩]
   ?hF ?mono ?h0 ?step [0,1,2,3,4,5,6,7] (by kernel_rfl) ?fin
  case hF=>
   iterate 8 refine⟨fun x=>⟨by kernel_rfl,by kernel_rfl⟩,?_⟩
   trivial
  case mono=>
   intro i j hi hj hne hna hnk v W W' hE hv;rw[HV.out]at hv⊢;simp only[List.length_cons,List.length_nil]at hi hj
   match i,hi with
   |0,_|1,_|2,_|6,_|7,_=>exact hv
   |3,_=>
    match j,hj with
    |3,_=>exact absurd rfl hne
    |2,_=>exact absurd (by simp) hna
    |0,_|1,_|4,_|6,_=>exact(by obtain⟨a,c,h1,h2⟩:=hv;exact⟨a,c,h1,h2.freshB hE⟩)
    |5,_=>exact(by obtain⟨a,c,h1,h2⟩:=hv;exact⟨a,c,h1,h2.freshG hE (fun k hk=>(Hvr.out k hk).2.1)⟩)
    |7,_=>exact(by obtain⟨a,c,h1,h2⟩:=hv;exact⟨a,c,h1,h2.freshT hE (fun k hk=>by omega)⟩)
    |m+8,h=>exact absurd h (by omega)
   |4,_=>
    match j,hj with
    |4,_=>exact absurd rfl hne
    |2,_|3,_=>exact absurd (by simp) hna
    |0,_|1,_|6,_=>exact(by obtain⟨g,a,c,h1,h2,h3,h4⟩:=hv;exact⟨g,a,c,h1,h2.go hE,h3,h4.freshB hE⟩)
    |5,_=>exact(by obtain⟨g,a,c,h1,h2,h3,h4⟩:=hv;exact⟨g,a,c,h1,h2.grown hE (fun e=>by have:=Hvr.out g e.symm;omega),h3,h4.freshG hE (fun k hk=>(Hvr.out k hk).2.1)⟩)
    |7,_=>exact(by obtain⟨g,a,c,h1,h2,h3,h4⟩:=hv;exact⟨g,a,c,h1,h2.touch hE (by omega),h3,h4.freshT hE (fun k hk=>by omega)⟩)
    |m+8,h=>exact absurd h (by omega)
   |5,_=>
    match j,hj with
    |5,_=>exact absurd rfl hne
    |0,_|1,_|2,_|3,_|4,_=>exact absurd (by simp) hna
    |6,_=>exact(by obtain⟨g,c,h1,h2,h3⟩:=hv;exact⟨g,c,h1,h2.go hE,h3⟩)
    |7,_=>exact(by obtain⟨g,c,h1,h2,h3⟩:=hv;exact⟨g,c,h1,h2.touch hE (fun k hk hs=>⟨by(first|omega|exact .inr hs),fun e=>h3 ((Option.some.inj (show some g=some k from e)).trans hs)⟩),h3⟩)
    |m+8,h=>exact absurd h (by omega)
   |m+8,h=>exact absurd h (by omega)
  case h0=>intro x;exact toI HIp ⟨HB.out.drew,(Touch.refl _ _).drew,fun _=>X3.out,fun _=>HO.out.go (Below.refl _ _).drew,fun h=>by cases h⟩
  case step=>
   refine⟨?_,?_,?_,?_,?_,?_,?_,?_,trivial⟩
   all_goals
    intro x W L hI hL hV;replace hI:(Below w.heap.size w W∧Touch (fun b=>b=w6.heap.size∨sv.ownBlock=some b) wr W∧(L 7=false→Blk (w6.heap.size) (.cells #[.int .i64 (s+1),.int .i64 h,sv] 67 (0,0)) W)∧(L 5=false→Own (fun b=>b<w3.heap.size∨b=w6.heap.size) (w3.heap.size) 42 sv l W)∧(L 7=true→∃v',Blk (w6.heap.size) (.cells #[.int .i64 (s+1),.int .i64 h,v'] 67 (0,0)) W∧Own (fun b=>b<w3.heap.size∨b=w6.heap.size) (w3.heap.size) 42 v' (l++[o]) W)):=ofI HIp hI;rw[HV.out]at hV;simp only[AllV,and_true]at hV;dsimp only[fZm,fEm,List.reduceReplicate,List.cons_append,List.nil_append]
   ·clear hV;have HI:=Lib.hid hI;clear hI;go_wp2_with fail;refine step3_done rfl ?_ ?_ ?_
    ·exact(toI HIp HI.out)
    ·exact(Below.refl _ _)
    ·exact(toV HV rfl)
   ·have u0:=hV;clear hV;simp only[u0];clear u0;have cW:W.cell? ⟨w6.heap.size,2,none⟩=some sv:=(hI.2.2.1 (hL.2 7 (by simp))).cell 2;have HI:=Lib.hid hI;clear hI;go_wp2_with fail;refine step3_done rfl ?_ ?_ ?_
    ·exact(toI HIp HI.out)
    ·exact(Below.refl _ _)
    ·exact(toV HV rfl)
   ·clear hV;have HI:=Lib.hid hI;clear hI;go_wp2_with fail;refine step3_done rfl ?_ ?_ ?_
    ·exact(toI HIp HI.out)
    ·exact(Below.refl _ _)
    ·exact(toV HV rfl)
   ·have u2:=hV;clear hV;simp only[u2];clear u2;have HI:=Lib.hid hI;have HL:=Lib.hid hL;clear hI hL;go_wp2_with fail;obtain⟨i1,i2,i3,i4,i5⟩:=HI.out;refine(Hcl.out W i1).mono ?_;rintro e W' ⟨a',c',rfl,hrd,uW⟩;have hsz:=i2.size;have HP:=Lib.hid (And.intro (upper i1 uW i1.size) (And.intro (i2.below uW hsz) (And.intro (fun h:L 7=false=>(i3 h).go uW) (fun h:L 5=false=>(i4 h).go uW))));have HR3:Hid (RdS (fun b=>wr.heap.size≤b∧b<W'.heap.size) W' o a' o.length c'):=hrd.mono fun b hb=>⟨⟨by omega,hb.2⟩,rfl⟩;have HU:=Lib.hid uW;clear i1 i2 i3 i4 i5 hrd uW HI;go_wp2_with fail;refine step3_done rfl ?_ ?_ ?_
    ·exact(toI HIp ⟨HP.out.1,HP.out.2.1,HP.out.2.2.1,HP.out.2.2.2,fun h:L 7=true=>absurd ((HL.out.2 7 (by simp)).symm.trans h) (by simp)⟩)
    ·exact HU.out
    ·exact(toV HV ⟨_,_,rfl,HR3.out⟩)
   ·obtain⟨a3,c3,u3,r3⟩:=hV;simp only[u3];have U3:=Lib.hid u3;clear u3;have HI:=Lib.hid hI;have HL:=Lib.hid hL;have R3:=Lib.hid r3;clear hI hL r3;go_wp2_with fail;obtain⟨i1,i2,i3,i4,i5⟩:=HI.out;have uW:∀o,Below W.heap.size W (W.alloc o):=fun o=>(Below.refl _ _).alloc (Nat.le_refl _) o;have hsz:=i2.size;refine step3_done rfl ?_ ?_ ?_
    ·exact(toI HIp ⟨upper i1 (uW _) i1.size,i2.below (uW _) hsz,fun h=>(i3 h).go (uW _),fun h=>(i4 h).go (uW _),fun h:L 7=true=>absurd ((HL.out.2 7 (by simp)).symm.trans h) (by simp)⟩)
    ·exact(uW _)
    ·exact(toV HV ⟨_,_,_,rfl,Blk.new _ _,hsz,R3.out.freshB (uW _)⟩)
   ·obtain⟨u1,⟨g4,a4,c4,u4,b4,l4,r4⟩⟩:=hV;simp only[u1,u4];have U4:=Lib.hid u4;clear u1 u4;have HI:=Lib.hid hI;have HL:=Lib.hid hL;have R4:=Lib.hid r4;have B4:=Lib.hid b4;have hO5:=Lib.hid (hI.2.2.2.1 (hL.2 5 (by simp)));have hz5:=hI.1.size;have hz6:=hI.2.1.size;have hI0:w6.heap.size<W.heap.size:=Nat.lt_of_lt_of_le hbx hz6;have Hy:Hid (Rep.rd (fun b=>b<W.heap.size∧¬(fun b=>b<w3.heap.size∨b=w6.heap.size) b∧sv.ownBlock≠some b) W o [.slice a4 o.length c4]):=⟨a4,o.length,c4,rfl,r4.mono fun b hb=>⟨⟨hb.2,by(first|omega|(rintro(h|h)<;>omega)),fun e=>by have:=Hvr.out b e;omega⟩,rfl⟩⟩;clear hI hL r4 b4;go_wp2_with (at_builtin;refine wpList_append_one rfl _ _ _ (by rfl) (w3.heap.size) 42 i0 _ 24 Tryd.underlying28 Hi.out Hz0.out Hz1.out Hz2.out rfl sv l (by rfl) hO5.out g4 1 _ [.slice a4 o.length c4] o (by rfl) B4.out Hy.out (by have:=Htl.out;unfold maxLen;omega) (by have:=Htl.out;omega) (by omega) ?_);intro g cap w5 hown5 hgrow hat hlt5;obtain⟨i1,i2,i3,i4,i5⟩:=HI.out;have hP1:Below w.heap.size w w5:=i1.grown hgrow hz5 (fun g hg=>by have:=(Hvr.out g hg).1;omega);have hP2:Touch (fun b=>b=w6.heap.size∨sv.ownBlock=some b) wr w5:=i2.grown hgrow (fun k hk=>.inl (.inr hk));have HP:=Lib.hid (And.intro hP1 (And.intro hP2 (fun h:L 7=false=>(i3 h).grown hgrow (fun e=>by have:=Hvr.out _ e.symm;omega))));have HG:=Lib.hid hgrow;have H5:=Lib.hid hown5;have H6:Hid (g≠w6.heap.size):=by
     unfold Hid;intro h;rcases hat with h'|h'
     ·have:=Hvr.out _ h';omega
     ·have:=hI0;omega
    clear i1 i2 i3 i4 i5 hP1 hP2 hgrow hown5 hat HI;go_wp2_with fail;refine step3_done rfl ?_ ?_ ?_
    ·exact(toI HIp ⟨HP.out.1,HP.out.2.1,HP.out.2.2,fun h=>absurd h (by simp[setB]),fun h:L 7=true=>absurd ((HL.out.2 7 (by simp)).symm.trans h) (by simp)⟩)
    ·exact HG.out
    ·exact(toV HV ⟨_,_,rfl,H5.out,H6.out⟩)
   ·clear hV;have HI:=Lib.hid hI;clear hI;go_wp2_with fail;refine step3_done rfl ?_ ?_ ?_
    ·exact(toI HIp HI.out)
    ·exact(Below.refl _ _)
    ·exact(toV HV rfl)
   ·obtain⟨⟨g5,c5,u5,o5,n5⟩,u6⟩:=hV;simp only[u5,u6];have U5:=Lib.hid u5;clear u5 u6;have b7:=hI.2.2.1 (hL.2 7 (by simp));have cW:W.cell? ⟨w6.heap.size,2,none⟩=some sv:=b7.cell 2;have fW:=b7.frozen 2;have HI:=Lib.hid hI;have HL:=Lib.hid hL;have B7:=Lib.hid b7;have O5:=Lib.hid o5;clear hI hL b7 o5;go_wp2_with fail;obtain⟨i1,i2,i3,i4,i5⟩:=HI.out;have ht:∀u,Touch (fun b=>b=w6.heap.size) W (W.setCell ⟨w6.heap.size,2,none⟩ u):=fun u=>Touch.setCell (S:=fun b=>b=w6.heap.size) (Touch.refl _ _) (.inl rfl) _;refine step3_done (v:=undef) rfl ?_ ?_ ?_
    ·exact(toI HIp ⟨i1.setCell (by simp only;omega) _,i2.setCell (.inl (.inl rfl)) _,(fun h=>absurd h (by simp[setB])),fun h:L 5=false=>absurd ((HL.out.1 5 (by simp)).symm.trans h) (by simp),fun _=>⟨_,B7.out.set 2 _,O5.out.touch (ht _) (fun k hk hs=>⟨by(first|omega|exact .inr hs),fun e=>n5 ((Option.some.inj (show some g5=some k from e)).trans hs)⟩)⟩⟩)
    ·exact(ht _)
    ·exact(toV HV rfl)
  case fin=>
   intro x W L hL hI hV;replace hI:(Below w.heap.size w W∧Touch (fun b=>b=w6.heap.size∨sv.ownBlock=some b) wr W∧(L 7=false→Blk (w6.heap.size) (.cells #[.int .i64 (s+1),.int .i64 h,sv] 67 (0,0)) W)∧(L 5=false→Own (fun b=>b<w3.heap.size∨b=w6.heap.size) (w3.heap.size) 42 sv l W)∧(L 7=true→∃v',Blk (w6.heap.size) (.cells #[.int .i64 (s+1),.int .i64 h,v'] 67 (0,0)) W∧Own (fun b=>b<w3.heap.size∨b=w6.heap.size) (w3.heap.size) 42 v' (l++[o]) W)):=ofI HIp hI;rw[HV.out]at hV;simp only[AllV,and_true]at hV;obtain⟨u0,u1,u2,⟨a3,c3,u3,r3⟩,⟨g4,a4,c4,u4,b4,l4,r4⟩,⟨g5,c5,u5,o5,n5⟩,u6,u7⟩:=hV;simp only[getsD,List.getD_cons_succ,List.getD_cons_zero,List.length_cons,List.length_nil,List.range,List.range.loop,u0,u1,u2,u3,u4,u5,u6,u7,Act.put,List.setIfInBounds_toArray,List.set_cons_succ,List.set_cons_zero];clear u0 u1 u2 u3 u4 u5 u6 u7;clear r3 r4 b4 o5;obtain⟨i1,i2,i3,i4,i5⟩:=hI;obtain⟨v',x3',hown'⟩:=i5 (hL 7 (by simp));obtain⟨ra,rc,hv'⟩:=hown'.form;simp only[List.length_append,List.length_cons,List.length_nil,Nat.zero_add]at hv';subst hv';have q0:W.cell? ⟨w6.heap.size,0,none⟩=some (.int .i64 (s+1)):=x3'.cell 0;have q1:W.cell? ⟨w6.heap.size,1,none⟩=some (.int .i64 h):=x3'.cell 1;have q2:W.cell? ⟨w6.heap.size,2,none⟩=some (.slice ra (l.length+1) rc):=x3'.cell 2;have yW:Blk (w.heap.size+1) (.cells #[.int .i64 0,.int .i64 0,.slice none 0 0] 67 (0,0)) W:=Y6.out.touch i2 (by
    rintro(h|h)
    ·omega
    ·have:=Hvr.out _ h;omega)
   have z0:W.cell? ⟨w.heap.size+1,0,none⟩=some (.int .i64 0):=yW.cell 0;have z1:W.cell? ⟨w.heap.size+1,1,none⟩=some (.int .i64 0):=yW.cell 1;have z2:W.cell? ⟨w.heap.size+1,2,none⟩=some (.slice none 0 0):=yW.cell 2;have zf:=yW.frozen;have YW:=Lib.hid (yW.set3 (.int .i64 (s+1)) (.int .i64 h) (.slice ra (l.length+1) rc));have Hfin:Hid (∀W',Touch (fun b=>b=w.heap.size+1) W W'→Own (· <w.heap.size) w.heap.size 42 (.slice ra (l.length+1) rc) (l++[o]) W'∧Below w.heap.size w W'):=by
    unfold Hid;intro W' hW;refine⟨((hown'.touch hW (fun k hk hs=>⟨.inl (by omega),fun e=>by have:=(hown'.rowlt k e).1;omega⟩)).less (fun k hk=>.inl (Nat.lt_of_lt_of_le hk hz5))).low hz5,?_⟩;exact i1.trans (hW.toBelow i1.size (fun k hk=>by omega))
   clear i1 i2 i3 i4 i5 x3' hown' yW hL;go_wp2_with fail;refine abs_ret (fun W'=>Blk (w.heap.size+1) (.cells #[.int .i64 (s+1),.int .i64 h,.slice ra (l.length+1) rc] 67 (0,0)) W'∧Touch (fun b=>b=w.heap.size+1) W W') ⟨YW.out,touch3 _ _ _⟩ ?_;rintro W' ⟨hY,hT⟩;have p0:W'.cell? ⟨w.heap.size+1,0,none⟩=some (.int .i64 (s+1)):=hY.cell 0;have p1:W'.cell? ⟨w.heap.size+1,1,none⟩=some (.int .i64 h):=hY.cell 1;have p2:W'.cell? ⟨w.heap.size+1,2,none⟩=some (.slice ra (l.length+1) rc):=hY.cell 2;have HF:=Lib.hid (Hfin.out W' hT);clear hY hT YW z0 z1 z2 zf q0 q1 q2 Hfin;refine bodyPost_ret (v:=.tuple #[.agg #[.int .i64 (s+1),.int .i64 h,.slice ra (l.length+1) rc],.int .i64 0]) (by simp[results,Tryd.results83,go_sem,p0,p1,p2]) rfl ?_;exact⟨_,rfl,HF.out.1,HF.out.2⟩
end Go.Proofs.YtkbfhgcjimfgkaaDoor
