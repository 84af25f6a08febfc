/- The walks of link.copyFrame and link.own. -/
import Derived.Test.YtkbfhgcjimfgkaaDoorPartA6
import Derived.Test.YtkbfhgcjimfgkaaDoorPartA7
import Derived.Handy
set_option linter.unusedVariables false
set_option linter.unusedSimpArgs false
set_option linter.unusedSimpArgs false
namespace Go.Proofs.YtkbfhgcjimfgkaaDoor
open Go.RowKit
theorem infoF:(Tryd.prog.info? 44).map (fun i=>(i.zero,i.size,i.bytes))=some (some (.agg #[.int .i64 0,.int .i64 0,.int .i64 0,.slice none 0 0,.string ⟨#[]⟩]),5,64):=by kernel_rfl
def CFrP (w:World)(f:Fr)(e:Ending)(w':World):Prop:=
 ∃a c,e=.returned (.agg #[.int .i64 f.kind,.int .i64 f.heard,.int .i64 f.epoch,.slice a f.op.length c,.string f.text])∧RdS (fun b=>w.heap.size≤b∧b<w'.heap.size) w' f.op a f.op.length c∧Below w.heap.size w w'
theorem blk_set5 {w:World}{g T:Nat}{c0 c1 c2 c3 c4:Value}(h:Blk g (.cells #[c0,c1,c2,c3,c4] T (0,0)) w)(v0 v1 v2 v3 v4:Value):
 Blk g (.cells #[v0,v1,v2,v3,v4] T (0,0)) (((((w.setCell ⟨g,0,none⟩ v0).setCell ⟨g,1,none⟩ v1).setCell ⟨g,2,none⟩ v2).setCell ⟨g,3,none⟩ v3).setCell ⟨g,4,none⟩ v4):=by
 have h5:=((((h.set 0 v0).set 1 v1).set 2 v2).set 3 v3).set 4 v4;simp only[List.setIfInBounds_toArray,List.set_cons_succ,List.set_cons_zero]at h5;exact h5
theorem touch5 (w:World)(g:Nat)(v0 v1 v2 v3 v4:Value):Touch (fun z=>z=g) w (((((w.setCell ⟨g,0,none⟩ v0).setCell ⟨g,1,none⟩ v1).setCell ⟨g,2,none⟩ v2).setCell ⟨g,3,none⟩ v3).setCell ⟨g,4,none⟩ v4):=
 (((((Touch.refl (fun z=>z=g) w).setCell (p:=⟨g,0,none⟩) (.inl rfl) _).setCell (p:=⟨g,1,none⟩) (.inl rfl) _).setCell (p:=⟨g,2,none⟩) (.inl rfl) _).setCell (p:=⟨g,3,none⟩) (.inl rfl) _).setCell (p:=⟨g,4,none⟩) (.inl rfl) _
theorem blk_cells5 {w:World}{g T:Nat}{c0 c1 c2 c3 c4:Value}(h:Blk g (.cells #[c0,c1,c2,c3,c4] T (0,0)) w):w.cell? ⟨g,0,none⟩=some c0∧w.cell? ⟨g,1,none⟩=some c1∧w.cell? ⟨g,2,none⟩=some c2∧w.cell? ⟨g,3,none⟩=some c3∧w.cell? ⟨g,4,none⟩=some c4:=
 ⟨h.cell 0,h.cell 1,h.cell 2,h.cell 3,h.cell 4⟩
set_option maxRecDepth 100000 in
set_option maxHeartbeats 2000000 in
theorem copyFrame_any (f:Fr)(a:Option Addr)(n c:Nat)(w:World)(hr:RdS (· <w.heap.size) w f.op a n c)(hn:n≤1000000000):
 Calls Tryd.prog 85 #[.agg #[.int .i64 f.kind,.int .i64 f.heard,.int .i64 f.epoch,.slice a n c,.string f.text]] w (CFrP w f):=by
 have HC:=Lib.hid (fun W (hW:Below w.heap.size w W)=>clone_any f.op a n c W (hr.go hW) hn);obtain⟨k,h,e,o,t⟩:=f;simp only at*;have Hend:Hid (∀a c W,RdS (fun b=>w.heap.size≤b∧b<W.heap.size) W o a o.length c→Below w.heap.size w W→CFrP w ⟨k,h,e,o,t⟩ (.returned (.agg #[.int .i64 k,.int .i64 h,.int .i64 e,.slice a o.length c,.string t])) W):=fun a c W h1 h2=>⟨a,c,rfl,h1,h2⟩;generalize CFrP w ⟨k,h,e,o,t⟩=CP at*;clear hr;go_enter Tryd.func85,Tryd.ntmps85;go_wp2_with fail;refine abs_run (fun W=>Below w.heap.size w W∧Blk w.heap.size (.cells #[.int .i64 k,.int .i64 h,.int .i64 e,.slice a n c,.string t] 44 (0,0)) W∧Blk (w.heap.size+1) (.cells #[.int .i64 0,.int .i64 0,.int .i64 0,.slice none 0 0,.string noText] 44 (0,0)) W) ⟨by(repeat (first|exact Below.refl _ _|assumption|(refine Below.drew ?_)|(refine below_drewN ?_ _)|(refine Below.alloc ?_ (by first|(simp;done)|(simp;omega)|omega) _)|(refine Below.setCell ?_ (by first|(simp;done)|(simp;omega)|omega) _)|(refine Below.trans ?_ (Below.mono (by assumption) (by first|(simp;done)|(simp;omega)|omega))))),(Blk.new w _).alloc _,Blk.at (w.alloc _) _ _ (by simp)⟩ ?_;rintro w1 ⟨b1,x1,y1⟩;refine(HC.out w1 b1).mono ?_;rintro e' w2 ⟨a2,c2,rfl,r2,u2⟩;have x2:=x1.go u2;have y2:=y1.go u2;have hy1:=y1.lt;have hy2:=y2.lt;obtain⟨q0,q1,q2,q3,q4⟩:=blk_cells5 x2;have qf:=x2.frozen;obtain⟨p0,p1,p2,p3,p4⟩:=blk_cells5 y2;have pf:=y2.frozen;have G:Hid (Blk (w.heap.size+1) (.cells #[.int .i64 k,.int .i64 h,.int .i64 e,.slice a2 o.length c2,.string t] 44 (0,0)) ((((((w2.setCell ⟨w.heap.size,3,none⟩ (.slice a2 o.length c2)).setCell ⟨w.heap.size+1,0,none⟩ (.int .i64 k)).setCell ⟨w.heap.size+1,1,none⟩ (.int .i64 h)).setCell ⟨w.heap.size+1,2,none⟩ (.int .i64 e)).setCell ⟨w.heap.size+1,3,none⟩ (.slice a2 o.length c2)).setCell ⟨w.heap.size+1,4,none⟩ (.string t))∧
  CP (.returned (.agg #[.int .i64 k,.int .i64 h,.int .i64 e,.slice a2 o.length c2,.string t])) ((((((w2.setCell ⟨w.heap.size,3,none⟩ (.slice a2 o.length c2)).setCell ⟨w.heap.size+1,0,none⟩ (.int .i64 k)).setCell ⟨w.heap.size+1,1,none⟩ (.int .i64 h)).setCell ⟨w.heap.size+1,2,none⟩ (.int .i64 e)).setCell ⟨w.heap.size+1,3,none⟩ (.slice a2 o.length c2)).setCell ⟨w.heap.size+1,4,none⟩ (.string t))):=by
  refine⟨blk_set5 (y2.other (by show w.heap.size≠w.heap.size+1;omega) _) _ _ _ _ _,Hend.out _ _ _ ?_ ?_⟩
  ·refine r2.mono fun z hzz=>⟨⟨by omega,by simp;omega⟩,?_⟩;rw[(touch5 _ (w.heap.size+1) _ _ _ _ _).block z (by simp;omega) (by omega),Below.heap_setCell _ _ _ _ (by show z≠w.heap.size;omega)]
  ·exact((up b1 u2).setCell (p:=⟨w.heap.size,3,none⟩) (Nat.le_refl _) _).trans ((touch5 _ (w.heap.size+1) _ _ _ _ _).toBelow (by simp;omega) (fun k hk=>by omega))
 clear r2 u2 x1 y1 x2 y2 b1 HC Hend hy1;generalize o.length=lo at*;go_wp2_with fail;refine abs_ret (fun W=>Blk (w.heap.size+1) (.cells #[.int .i64 k,.int .i64 h,.int .i64 e,.slice a2 lo c2,.string t] 44 (0,0)) W∧CP (.returned (.agg #[.int .i64 k,.int .i64 h,.int .i64 e,.slice a2 lo c2,.string t])) W) G.out ?_;rintro W ⟨y1,y2⟩;obtain⟨k0,k1,k2,k3,k4⟩:=blk_cells5 y1;refine bodyPost_ret (v:=.agg #[.int .i64 k,.int .i64 h,.int .i64 e,.slice a2 lo c2,.string t]) (by simp[results,Tryd.results85,go_sem,k0,k1,k2,k3,k4]) rfl y2
theorem take_nextF {α:Type}(l:List α)(k:Nat)(h:k<l.length):l.take (k+1)=l.take k++[l[k]]:=List.take_succ_eq_append_getElem h
def OwnLP (l:Lk)(w:World)(e:Ending)(w':World):Prop:=
 ∃sv qv,e=.returned (.agg #[.int .i64 l.epoch,.int .i64 l.next,sv,qv,.int .i64 l.heard])∧Own (fun b=>b<w.heap.size∨qv.ownBlock=some b) w.heap.size 44 sv l.sent w'∧Own (fun b=>b<w.heap.size∨sv.ownBlock=some b) w.heap.size 44 qv l.queue w'∧
  (∀k,sv.ownBlock=some k→qv.ownBlock≠some k)∧Below w.heap.size w w'
set_option maxRecDepth 100000 in
set_option maxHeartbeats 8000000 in
theorem lkOwn_any (l:Lk)(a b:Option Addr)(n c m d:Nat)(w:World)(hr:RdS (· <w.heap.size) w l.sent a n c)(hq:RdS (· <w.heap.size) w l.queue b m d)(hls:∀f∈l.sent,f.op.length≤1000000000)(hlq:∀f∈l.queue,f.op.length≤1000000000)(hn:n≤1048576)(hm:m≤1048576):
 Calls Tryd.prog 84 #[lkV l (.slice a n c) (.slice b m d)] w (OwnLP l w):=by
 unfold lkV;have Hn:=Lib.hid hr.1;have Hm:=Lib.hid hq.1;have Hr:=Lib.hid hr;have Hq:=Lib.hid hq;have Hls:=Lib.hid hls;have Hlq:=Lib.hid hlq;obtain⟨ep,nx,ls,lq,he⟩:=l;simp only at*;clear hr hq hls hlq;obtain⟨i0,hi,hz0,hz1,hz2⟩:=info_parts infoF;have Hi:=Lib.hid hi;have Hz0:=Lib.hid hz0;have Hz1:=Lib.hid hz1;have Hz2:=Lib.hid hz2;clear hi hz0 hz1 hz2;have Hpost:Hid (∀sv qv W,Own (fun b=>b<w.heap.size∨qv.ownBlock=some b) w.heap.size 44 sv ls W→Own (fun b=>b<w.heap.size∨sv.ownBlock=some b) w.heap.size 44 qv lq W→(∀k,sv.ownBlock=some k→qv.ownBlock≠some k)→Below w.heap.size w W→OwnLP ⟨ep,nx,ls,lq,he⟩ w (.returned (.agg #[.int .i64 ep,.int .i64 nx,sv,qv,.int .i64 he])) W):=
  fun sv qv W h1 h2 h3 h4=>⟨sv,qv,rfl,h1,h2,h3,h4⟩
 generalize OwnLP ⟨ep,nx,ls,lq,he⟩ w=OP at*;go_enter Tryd.func84,Tryd.ntmps84;go_wp2_with fail;refine abs_w (fun W=>Below w.heap.size w W∧W.heap.size=w.heap.size+3∧Blk w.heap.size (.cells #[.int .i64 ep,.int .i64 nx,.slice a n c,.slice b m d,.int .i64 he] 70 (0,0)) W∧Blk (w.heap.size+1) (.cells #[.int .i64 0,.int .i64 0,.slice none 0 0,.slice none 0 0,.int .i64 0] 70 (0,0)) W∧Blk (w.heap.size+1+1) (.cells #[.int .i64 ep,.int .i64 nx,.slice none 0 0,.slice none 0 0,.int .i64 he] 70 (0,0)) W)
  ⟨by(repeat (first|exact Below.refl _ _|assumption|(refine Below.drew ?_)|(refine below_drewN ?_ _)|(refine Below.alloc ?_ (by first|(simp;done)|(simp;omega)|omega) _)|(refine Below.setCell ?_ (by first|(simp;done)|(simp;omega)|omega) _)|(refine Below.trans ?_ (Below.mono (by assumption) (by first|(simp;done)|(simp;omega)|omega))))),by simp,((Blk.new _ _).alloc _).alloc _,(Blk.at _ _ _ (by simp)).alloc _,Blk.at _ _ _ (by simp)⟩ ?_
 rintro w1 ⟨b1,z1,x1,x2,x3⟩;have H1:=Lib.hid (And.intro b1 (And.intro x1 (And.intro x2 x3)));have hz1:w.heap.size+3≤w1.heap.size:=by omega
 clear b1 x1 x2 x3 z1;go_loopw [18] (fun i wr=>∃(k:Nat)(sv:Value),k≤n∧i=.int .i64 k∧Below w.heap.size w wr∧Blk w.heap.size (.cells #[.int .i64 ep,.int .i64 nx,.slice a n c,.slice b m d,.int .i64 he] 70 (0,0)) wr∧Blk (w.heap.size+1) (.cells #[.int .i64 0,.int .i64 0,.slice none 0 0,.slice none 0 0,.int .i64 0] 70 (0,0)) wr∧Blk (w.heap.size+1+1) (.cells #[.int .i64 ep,.int .i64 nx,sv,.slice none 0 0,.int .i64 he] 70 (0,0)) wr∧
  Own (fun b=>b<w.heap.size+3) (w.heap.size+3) 44 sv (ls.take k) wr∧w.heap.size+3≤wr.heap.size) (fun i _=>n-(intOf i).toNat)
 case atStart=>exact⟨0,.slice none 0 0,by omega,rfl,H1.out.1,H1.out.2.1,H1.out.2.2.1,H1.out.2.2.2,Own.nil,hz1⟩
 case round=>
  obtain⟨k,sv,hk,rfl,b1,x1,x2,x3,hown,hzr⟩:=hrel;clear H1;by_cases hlt:k<n
  ·obtain⟨g,off,rfl,hAb,hbs,hcs⟩:=Hr.out.frame (by omega);have hkl:k<ls.length:=by have:=Hn.out;omega
   obtain⟨ak,nk,ck,hrk,hfk,d0,d1,d2,d3,d4⟩:=hcs k hkl;have e0:=(b1.cell (p:=⟨g,off+k*5,none⟩) hbs).trans d0;have e1:=(b1.cell (p:=⟨g,off+k*5+1,none⟩) hbs).trans d1;have e2:=(b1.cell (p:=⟨g,off+k*5+1+1,none⟩) hbs).trans d2;have e3:=(b1.cell (p:=⟨g,off+k*5+1+1+1,none⟩) hbs).trans d3;have e4:=(b1.cell (p:=⟨g,off+k*5+1+1+1+1,none⟩) hbs).trans d4;have Hk:=Lib.hid (take_nextF ls k hkl);have hlk:=Hls.out ls[k] (List.getElem_mem hkl);have hnk:=hrk.1;have htl:(ls.take k).length=k:=by rw[List.length_take];omega
   generalize hfr:ls[k]=f at*;generalize ls.take k=lk at*;clear hcs hfr d0 d1 d2 d3 d4;obtain⟨fk,fh,fe,o,ft⟩:=f;simp only at*;have Hcl:Hid (∀W,Below w.heap.size w W→Calls Tryd.prog 85 #[.agg #[.int .i64 fk,.int .i64 fh,.int .i64 fe,.slice ak nk ck,.string ft]] W (CFrP W ⟨fk,fh,fe,o,ft⟩)):=fun W hW=>copyFrame_any ⟨fk,fh,fe,o,ft⟩ ak nk ck W (hrk.go hW) (by omega);have Hfk:=Lib.hid hfk;have hvr:∀k,sv.ownBlock=some k→w.heap.size+3≤k∧k<wr.heap.size:=fun k hk=>hown.rowlt k hk;have HB:=Lib.hid b1;have X1:=Lib.hid x1;have X2:=Lib.hid x2;have HX3:=Lib.hid x3;have HO0:=Lib.hid hown;have Hvr0:=Lib.hid hvr;have Htl:=Lib.hid htl;clear b1 x1 x2 x3 hown hvr htl hrk hfk hnk hlk;have hkb:k≤1048576:=by omega
   go_wp2_with fail;refine abs_w (fun W=>Below wr.heap.size wr W∧Blk wr.heap.size (.cells #[.int .i64 fk,.int .i64 fh,.int .i64 fe,.slice ak nk ck,.string ft] 44 (0,0)) W) ⟨by(repeat (first|exact Below.refl _ _|assumption|(refine Below.drew ?_)|(refine below_drewN ?_ _)|(refine Below.alloc ?_ (by first|(simp;done)|(simp;omega)|omega) _)|(refine Below.setCell ?_ (by first|(simp;done)|(simp;omega)|omega) _)|(refine Below.trans ?_ (Below.mono (by assumption) (by first|(simp;done)|(simp;omega)|omega))))),Blk.new _ _⟩ ?_;rintro w3 ⟨u3,y3⟩;have hw3:=y3.lt;have HFB:=Lib.hid y3;have HFN:Hid (¬(wr.heap.size=w.heap.size+1+1∨sv.ownBlock=some wr.heap.size)):=by
    rintro(h|h)
    ·omega
    ·have:=Hvr0.out _ h;omega
   have HB3:=Lib.hid (upper HB.out u3 HB.out.size);have X1':=Lib.hid (X1.out.go u3);have X2':=Lib.hid (X2.out.go u3);have X3:=Lib.hid (HX3.out.go u3);have HO:=Lib.hid (HO0.out.go u3);have Hvr:Hid (∀k,sv.ownBlock=some k→w.heap.size+3≤k∧k<w3.heap.size∧k≠w.heap.size+1+1):=fun k hk=>by have:=Hvr0.out k hk;omega
   have hz3:w.heap.size+3≤w3.heap.size:=by omega
   have hbx:w.heap.size+1+1<w3.heap.size:=by omega
   clear u3 y3 X1 X2 HX3 HO0 Hvr0 HB e0 e1 e2 e3 e4
   rename Hid (Below w.heap.size w w3)=>HB
   obtain⟨Vp,HV⟩:∃Vp:Nat→Value→World→Prop,Hid (Vp=fun i v W=>match i with
    |0=>v=.pointer (some ⟨w.heap.size+1+1,2,none⟩)
    |1=>v=sv
    |2=>v=.agg #[.int .i64 fk,.int .i64 fh,.int .i64 fe,.slice ak nk ck,.string ft]
    |3=>∃a c,v=.agg #[.int .i64 fk,.int .i64 fh,.int .i64 fe,.slice a o.length c,.string ft]∧RdS (fun b=>w3.heap.size≤b∧b<W.heap.size) W o a o.length c
    |4=>∃g a c,v=.slice (some ⟨g,0,none⟩) 1 1∧Blk g (.cells #[.int .i64 fk,.int .i64 fh,.int .i64 fe,.slice a o.length c,.string ft] 44 (0,0)) W∧w3.heap.size≤g∧RdS (fun b=>w3.heap.size≤b∧b<W.heap.size) W o a o.length c
    |5=>∃g c,v=.slice (some ⟨g,0,none⟩) (lk.length+1) c∧Own (fun b=>b<w.heap.size+3) (w.heap.size+3) 44 (.slice (some ⟨g,0,none⟩) (lk.length+1) c) (lk++[(⟨fk,fh,fe,o,ft⟩:Fr)]) W∧g≠w.heap.size+1+1∧(sv.ownBlock=some g∨w3.heap.size≤g)
    |6=>v=.pointer (some ⟨w.heap.size+1+1,2,none⟩)
    |_=>v=undef):=⟨_,rfl⟩
   obtain⟨Ip,HIp⟩:∃Ip:(Nat→Bool)→(Nat→Value)→World→Prop,Hid (Ip=fun L x W=>(Below w.heap.size w W∧Touch (fun b=>b=w.heap.size+1+1∨sv.ownBlock=some b) w3 W∧(L 7=false→Blk (w.heap.size+1+1) (.cells #[.int .i64 ep,.int .i64 nx,sv,.slice none 0 0,.int .i64 he] 70 (0,0)) W)∧(L 5=false→Own (fun b=>b<w.heap.size+3) (w.heap.size+3) 44 sv lk W)∧(L 7=true→∃v',Blk (w.heap.size+1+1) (.cells #[.int .i64 ep,.int .i64 nx,v',.slice none 0 0,.int .i64 he] 70 (0,0)) W∧Own (fun b=>b<w.heap.size+3) (w.heap.size+3) 44 v' (lk++[(⟨fk,fh,fe,o,ft⟩:Fr)]) W∧(∀k,v'.ownBlock=some k→sv.ownBlock=some k∨w3.heap.size≤k)))):=⟨_,rfl⟩;refine region_lit3 (by kernel_rfl) (by kernel_rfl) (by kernel_rfl) [[],[0],[],[2],[2,3],[0,1,2,3,4],[],[0,1,2,3,4,5,6]] (by kernel_rfl) [some 22,some 23,some 24,some 25,some 26,some 27,some 28,none] (by kernel_rfl) [[0,1,5,7],[1,5,7],[2,3,4,5,7],[3,4,5,7],[4,5,7],[5,7],[6,7],[7]] (by kernel_rfl) [[],[],[],[],[],[],[],[]] [[],[0],[],[2],[3],[1,4],[],[5,6]] (by kernel_rfl)
    Ip
    Vp
    (fun j W W'=>match j with
     |5=>W.grownBy W' sv.ownBlock
     |7=>Touch (fun b=>b=w.heap.size+1+1) W W'
     |_=>Below W.heap.size W W')
    [fun x=>⟨(fZm 3 (.pointer (some ⟨w.heap.size+1+1,0,none⟩)) (fEm 19)).toArray,[]⟩,fun x=>⟨(fZm 22 (x 0) (fEm 1)).toArray,[]⟩,fun x=>⟨(fZm 5 (.pointer (some ⟨wr.heap.size,0,none⟩)) (fEm 19)).toArray,[]⟩,fun x=>⟨(fZm 24 (x 2) (fEm 1)).toArray,[]⟩,fun x=>⟨(fZm 25 (x 3) (fEm 1)).toArray,[]⟩,fun x=>⟨(fZm 23 (x 1) (fZm 2 (x 4) (fEm 1))).toArray,[]⟩,fun x=>⟨(fZm 3 (.pointer (some ⟨w.heap.size+1+1,0,none⟩)) (fEm 25)).toArray,[]⟩,fun x=>⟨(fZm 27 (x 5) (fZm 0 (x 6) [])).toArray,[]⟩]
    ?hF ?mono ?h0 ?step [0,1,2,3,4,5,6,7] (by kernel_rfl) ?fin
   case hF=>
    iterate 8 refine⟨fun x=>⟨by kernel_rfl,by kernel_rfl⟩,?_⟩
    trivial
   case mono=>
    intro i j hi hj hne hna hnk v W W' hE hv;rw[HV.out]at hv⊢;simp only[List.length_cons,List.length_nil]at hi hj
    match i,hi with
    |0,_|1,_|2,_|6,_|7,_=>exact hv
    |3,_=>
     match j,hj with
     |3,_=>exact absurd rfl hne
     |2,_=>exact absurd (by simp) hna
     |0,_|1,_|4,_|6,_=>exact(by obtain⟨a,c,h1,h2⟩:=hv;exact⟨a,c,h1,h2.freshB hE⟩)
     |5,_=>exact(by obtain⟨a,c,h1,h2⟩:=hv;exact⟨a,c,h1,h2.freshG hE (fun k hk=>(Hvr.out k hk).2.1)⟩)
     |7,_=>exact(by obtain⟨a,c,h1,h2⟩:=hv;exact⟨a,c,h1,h2.freshT hE (fun k hk=>by omega)⟩)
     |m+8,h=>exact absurd h (by omega)
    |4,_=>
     match j,hj with
     |4,_=>exact absurd rfl hne
     |2,_|3,_=>exact absurd (by simp) hna
     |0,_|1,_|6,_=>exact(by obtain⟨g,a,c,h1,h2,h3,h4⟩:=hv;exact⟨g,a,c,h1,h2.go hE,h3,h4.freshB hE⟩)
     |5,_=>exact(by obtain⟨g,a,c,h1,h2,h3,h4⟩:=hv;exact⟨g,a,c,h1,h2.grown hE (fun e=>by have:=Hvr.out g e.symm;omega),h3,h4.freshG hE (fun k hk=>(Hvr.out k hk).2.1)⟩)
     |7,_=>exact(by obtain⟨g,a,c,h1,h2,h3,h4⟩:=hv;exact⟨g,a,c,h1,h2.touch hE (by omega),h3,h4.freshT hE (fun k hk=>by omega)⟩)
     |m+8,h=>exact absurd h (by omega)
    |5,_=>
     match j,hj with
     |5,_=>exact absurd rfl hne
     |0,_|1,_|2,_|3,_|4,_=>exact absurd (by simp) hna
     |6,_=>exact(by obtain⟨g,c,h1,h2,h3,h4⟩:=hv;exact⟨g,c,h1,h2.go hE,h3,h4⟩)
     |7,_=>exact(by obtain⟨g,c,h1,h2,h3,h4⟩:=hv;exact⟨g,c,h1,h2.touch hE (fun k hk hs=>⟨by(first|omega|exact .inr hs),fun e=>h3 ((Option.some.inj (show some g=some k from e)).trans hs)⟩),h3,h4⟩)
     |m+8,h=>exact absurd h (by omega)
    |m+8,h=>exact absurd h (by omega)
   case h0=>intro x;exact toI HIp ⟨HB.out.drew,(Touch.refl _ _).drew,fun _=>X3.out,fun _=>HO.out.go (Below.refl _ _).drew,fun h=>by cases h⟩
   case step=>
    refine⟨?_,?_,?_,?_,?_,?_,?_,?_,trivial⟩
    all_goals
     intro x W L hI hL hV;replace hI:(Below w.heap.size w W∧Touch (fun b=>b=w.heap.size+1+1∨sv.ownBlock=some b) w3 W∧(L 7=false→Blk (w.heap.size+1+1) (.cells #[.int .i64 ep,.int .i64 nx,sv,.slice none 0 0,.int .i64 he] 70 (0,0)) W)∧(L 5=false→Own (fun b=>b<w.heap.size+3) (w.heap.size+3) 44 sv lk W)∧(L 7=true→∃v',Blk (w.heap.size+1+1) (.cells #[.int .i64 ep,.int .i64 nx,v',.slice none 0 0,.int .i64 he] 70 (0,0)) W∧Own (fun b=>b<w.heap.size+3) (w.heap.size+3) 44 v' (lk++[(⟨fk,fh,fe,o,ft⟩:Fr)]) W∧(∀k,v'.ownBlock=some k→sv.ownBlock=some k∨w3.heap.size≤k))):=ofI HIp hI;rw[HV.out]at hV;simp only[AllV,and_true]at hV;dsimp only[fZm,fEm,List.reduceReplicate,List.cons_append,List.nil_append]
    ·clear hV;have HI:=Lib.hid hI;clear hI;go_wp2_with fail;refine step3_done rfl ?_ ?_ ?_
     ·exact(toI HIp HI.out)
     ·exact(Below.refl _ _)
     ·exact(toV HV rfl)
    ·have u0:=hV;clear hV;simp only[u0];clear u0;have cW:W.cell? ⟨w.heap.size+1+1,2,none⟩=some sv:=(hI.2.2.1 (hL.2 7 (by simp))).cell 2;have HI:=Lib.hid hI;clear hI;go_wp2_with fail;refine step3_done rfl ?_ ?_ ?_
     ·exact(toI HIp HI.out)
     ·exact(Below.refl _ _)
     ·exact(toV HV rfl)
    ·clear hV;have bF:=(HFB.out).touch hI.2.1 HFN.out;have q0:W.cell? ⟨wr.heap.size,0,none⟩=some (.int .i64 fk):=bF.cell 0;have q1:W.cell? ⟨wr.heap.size,1,none⟩=some (.int .i64 fh):=bF.cell 1;have q2:W.cell? ⟨wr.heap.size,2,none⟩=some (.int .i64 fe):=bF.cell 2;have q3:W.cell? ⟨wr.heap.size,3,none⟩=some (.slice ak nk ck):=bF.cell 3;have q4:W.cell? ⟨wr.heap.size,4,none⟩=some (.string ft):=bF.cell 4;have HI:=Lib.hid hI;clear hI bF;go_wp2_with fail;refine step3_done rfl ?_ ?_ ?_
     ·exact(toI HIp HI.out)
     ·exact(Below.refl _ _)
     ·exact(toV HV rfl)
    ·have u2:=hV;clear hV;simp only[u2];clear u2;have HI:=Lib.hid hI;have HL:=Lib.hid hL;clear hI hL;go_wp2_with fail;obtain⟨i1,i2,i3,i4,i5⟩:=HI.out;refine(Hcl.out W i1).mono ?_;rintro e W' ⟨a',c',rfl,hrd,uW⟩;have hsz:=i2.size;have HP:=Lib.hid (And.intro (upper i1 uW i1.size) (And.intro (i2.below uW hsz) (And.intro (fun h:L 7=false=>(i3 h).go uW) (fun h:L 5=false=>(i4 h).go uW))));have HR3:Hid (RdS (fun b=>w3.heap.size≤b∧b<W'.heap.size) W' o a' o.length c'):=hrd.mono fun b hb=>⟨⟨by omega,hb.2⟩,rfl⟩;have HU:=Lib.hid uW;clear i1 i2 i3 i4 i5 hrd uW HI;go_wp2_with fail;refine step3_done rfl ?_ ?_ ?_
     ·exact(toI HIp ⟨HP.out.1,HP.out.2.1,HP.out.2.2.1,HP.out.2.2.2,fun h:L 7=true=>absurd ((HL.out.2 7 (by simp)).symm.trans h) (by simp)⟩)
     ·exact HU.out
     ·exact(toV HV ⟨_,_,rfl,HR3.out⟩)
    ·obtain⟨a3,c3,u3,r3⟩:=hV;simp only[u3];have U3:=Lib.hid u3;clear u3;have HI:=Lib.hid hI;have HL:=Lib.hid hL;have R3:=Lib.hid r3;clear hI hL r3;go_wp2_with fail;obtain⟨i1,i2,i3,i4,i5⟩:=HI.out;have uW:∀o,Below W.heap.size W (W.alloc o):=fun o=>(Below.refl _ _).alloc (Nat.le_refl _) o;have hsz:=i2.size;refine step3_done rfl ?_ ?_ ?_
     ·exact(toI HIp ⟨upper i1 (uW _) i1.size,i2.below (uW _) hsz,fun h=>(i3 h).go (uW _),fun h=>(i4 h).go (uW _),fun h:L 7=true=>absurd ((HL.out.2 7 (by simp)).symm.trans h) (by simp)⟩)
     ·exact(uW _)
     ·exact(toV HV ⟨_,_,_,rfl,Blk.new _ _,hsz,R3.out.freshB (uW _)⟩)
    ·obtain⟨u1,⟨g4,a4,c4,u4,b4,l4,r4⟩⟩:=hV;simp only[u1,u4];have U4:=Lib.hid u4;clear u1 u4;have HI:=Lib.hid hI;have HL:=Lib.hid hL;have R4:=Lib.hid r4;have B4:=Lib.hid b4;have hO5:=Lib.hid (hI.2.2.2.1 (hL.2 5 (by simp)));have hz5:=hI.1.size;have hz6:=hI.2.1.size;have hI0:w.heap.size+1+1<W.heap.size:=Nat.lt_of_lt_of_le hbx hz6;have Hy:Hid (Rep.rd (fun b=>b<W.heap.size∧¬(fun b=>b<w.heap.size+3) b∧sv.ownBlock≠some b) W (⟨fk,fh,fe,o,ft⟩:Fr) [.int .i64 fk,.int .i64 fh,.int .i64 fe,.slice a4 o.length c4,.string ft]):=⟨a4,o.length,c4,rfl,r4.mono fun b hb=>⟨⟨hb.2,by(first|omega|(rintro(h|h)<;>omega)),fun e=>by have:=Hvr.out b e;omega⟩,rfl⟩,Hfk.out⟩;clear hI hL r4 b4;go_wp2_with (at_builtin;refine wpList_append_one rfl _ _ _ (by rfl) (w.heap.size+3) 44 i0 _ 64 Tryd.underlying68 Hi.out Hz0.out Hz1.out Hz2.out rfl sv lk (by rfl) hO5.out g4 1 _ [.int .i64 fk,.int .i64 fh,.int .i64 fe,.slice a4 o.length c4,.string ft] (⟨fk,fh,fe,o,ft⟩:Fr) (by rfl) B4.out Hy.out (by have:=Htl.out;unfold maxLen;omega) (by have:=Htl.out;omega) (by omega) ?_);intro g cap w5 hown5 hgrow hat hlt5;obtain⟨i1,i2,i3,i4,i5⟩:=HI.out;have hP1:Below w.heap.size w w5:=i1.grown hgrow hz5 (fun g hg=>by have:=(Hvr.out g hg).1;omega);have hP2:Touch (fun b=>b=w.heap.size+1+1∨sv.ownBlock=some b) w3 w5:=i2.grown hgrow (fun k hk=>.inl (.inr hk));have HP:=Lib.hid (And.intro hP1 (And.intro hP2 (fun h:L 7=false=>(i3 h).grown hgrow (fun e=>by have:=Hvr.out _ e.symm;omega))));have HG:=Lib.hid hgrow;have H5:=Lib.hid hown5;have H6:Hid (g≠w.heap.size+1+1):=by
      unfold Hid;intro h;rcases hat with h'|h'
      ·have:=Hvr.out _ h';omega
      ·have:=hI0;omega
     have H7:Hid (sv.ownBlock=some g∨w3.heap.size≤g):=by
      rcases hat with h'|h'
      ·exact .inl h'
      ·exact .inr (by omega)
     clear i1 i2 i3 i4 i5 hP1 hP2 hgrow hown5 hat HI;go_wp2_with fail;refine step3_done rfl ?_ ?_ ?_
     ·exact(toI HIp ⟨HP.out.1,HP.out.2.1,HP.out.2.2,fun h=>absurd h (by simp[setB]),fun h:L 7=true=>absurd ((HL.out.2 7 (by simp)).symm.trans h) (by simp)⟩)
     ·exact HG.out
     ·exact(toV HV ⟨_,_,rfl,H5.out,H6.out,H7.out⟩)
    ·clear hV;have HI:=Lib.hid hI;clear hI;go_wp2_with fail;refine step3_done rfl ?_ ?_ ?_
     ·exact(toI HIp HI.out)
     ·exact(Below.refl _ _)
     ·exact(toV HV rfl)
    ·obtain⟨⟨g5,c5,u5,o5,n5,t5⟩,u6⟩:=hV;simp only[u5,u6];have U5:=Lib.hid u5;clear u5 u6;have b7:=hI.2.2.1 (hL.2 7 (by simp));have cW:W.cell? ⟨w.heap.size+1+1,2,none⟩=some sv:=b7.cell 2;have fW:=b7.frozen 2;have HI:=Lib.hid hI;have HL:=Lib.hid hL;have B7:=Lib.hid b7;have O5:=Lib.hid o5;have T5:=Lib.hid t5;clear hI hL b7 o5 t5;go_wp2_with fail;obtain⟨i1,i2,i3,i4,i5⟩:=HI.out;have ht:∀u,Touch (fun b=>b=w.heap.size+1+1) W (W.setCell ⟨w.heap.size+1+1,2,none⟩ u):=fun u=>Touch.setCell (S:=fun b=>b=w.heap.size+1+1) (Touch.refl _ _) (.inl rfl) _;have hk5:∀k,(Value.slice (some ⟨g5,0,none⟩) (lk.length+1) c5).ownBlock=some k→sv.ownBlock=some k∨w3.heap.size≤k:=fun k hk=>by
      obtain rfl:g5=k:=by simpa[Value.ownBlock]using hk
      exact T5.out
     refine step3_done (v:=undef) rfl ?_ ?_ ?_
     ·exact(toI HIp ⟨i1.setCell (by simp only;omega) _,i2.setCell (.inl (.inl rfl)) _,(fun h=>absurd h (by simp[setB])),fun h:L 5=false=>absurd ((HL.out.1 5 (by simp)).symm.trans h) (by simp),fun _=>⟨_,B7.out.set 2 _,O5.out.touch (ht _) (fun k hk hs=>⟨by(first|omega|exact .inr hs),fun e=>n5 ((Option.some.inj (show some g5=some k from e)).trans hs)⟩),hk5⟩⟩)
     ·exact(ht _)
     ·exact(toV HV rfl)
   case fin=>
    intro x W L hL hI hV;replace hI:(Below w.heap.size w W∧Touch (fun b=>b=w.heap.size+1+1∨sv.ownBlock=some b) w3 W∧(L 7=false→Blk (w.heap.size+1+1) (.cells #[.int .i64 ep,.int .i64 nx,sv,.slice none 0 0,.int .i64 he] 70 (0,0)) W)∧(L 5=false→Own (fun b=>b<w.heap.size+3) (w.heap.size+3) 44 sv lk W)∧(L 7=true→∃v',Blk (w.heap.size+1+1) (.cells #[.int .i64 ep,.int .i64 nx,v',.slice none 0 0,.int .i64 he] 70 (0,0)) W∧Own (fun b=>b<w.heap.size+3) (w.heap.size+3) 44 v' (lk++[(⟨fk,fh,fe,o,ft⟩:Fr)]) W∧(∀k,v'.ownBlock=some k→sv.ownBlock=some k∨w3.heap.size≤k))):=ofI HIp hI;rw[HV.out]at hV;simp only[AllV,and_true]at hV;obtain⟨u0,u1,u2,⟨a3,c3,u3,r3⟩,⟨g4,a4,c4,u4,b4,l4,r4⟩,⟨g5,c5,u5,o5,n5,t5⟩,u6,u7⟩:=hV;simp only[getsD,List.getD_cons_succ,List.getD_cons_zero,List.length_cons,List.length_nil,List.range,List.range.loop,u0,u1,u2,u3,u4,u5,u6,u7,Act.put,List.setIfInBounds_toArray,List.set_cons_succ,List.set_cons_zero];clear u0 u1 u2 u3 u4 u5 u6 u7;clear r3 r4 b4 o5 t5;obtain⟨i1,i2,i3,i4,i5⟩:=hI;obtain⟨v',x3',hown',-⟩:=i5 (hL 7 (by simp));have HF:Hid (Below w.heap.size w W∧Blk w.heap.size (.cells #[.int .i64 ep,.int .i64 nx,.slice (some ⟨g,off,none⟩) n c,.slice b m d,.int .i64 he] 70 (0,0)) W∧Blk (w.heap.size+1) (.cells #[.int .i64 0,.int .i64 0,.slice none 0 0,.slice none 0 0,.int .i64 0] 70 (0,0)) W∧Blk (w.heap.size+1+1) (.cells #[.int .i64 ep,.int .i64 nx,v',.slice none 0 0,.int .i64 he] 70 (0,0)) W∧
     Own (fun b=>b<w.heap.size+3) (w.heap.size+3) 44 v' (ls.take (k+1)) W∧w.heap.size+3≤W.heap.size):=by
     refine⟨i1,X1'.out.touch i2 ?_,X2'.out.touch i2 ?_,x3',by rw[Hk.out];exact hown',Nat.le_trans hz3 i2.size⟩
     ·rintro(h|h)
      ·omega
      ·have:=(Hvr.out _ h).1;omega
     ·rintro(h|h)
      ·omega
      ·have:=(Hvr.out _ h).1;omega
    clear i1 i2 i3 i4 i5 x3' hown' hL;go_wp2_with fail;go_roundw
    case rel=>exact⟨k+1,v',by omega,by go_num,HF.out⟩
    case measure=>simp[intOf];omega
  ·have hkn:k=ls.length:=by have:=Hn.out;omega
   rw[hkn,List.take_length]at hown;obtain⟨sa,sc,hsv⟩:=hown.form;subst hsv;obtain⟨w5,rfl⟩:∃x:World,x=wr:=⟨_,rfl⟩;have hb3:w5.cell? ⟨w.heap.size,3,none⟩=some (.slice b m d):=x1.cell 3;have hsr:∀k,(Value.slice sa ls.length sc).ownBlock=some k→w.heap.size+3≤k∧k<w5.heap.size:=hown.rowlt;have Hsr:=Lib.hid hsr;have HI0:=Lib.hid (And.intro b1 (And.intro x2 (And.intro x3 (hown.more (X':=fun b=>b<w.heap.size+3∨w5.heap.size≤b) (fun k hk hx=>by omega)))));clear b1 x1 x2 x3 hown hkn hk hsr;generalize hns:ls.length=ns at*;clear hns;go_wp2_with fail;go_loopw [33] (fun i wr=>∃(k:Nat)(qv:Value),k≤m∧i=.int .i64 k∧Below w.heap.size w wr∧Blk (w.heap.size+1) (.cells #[.int .i64 0,.int .i64 0,.slice none 0 0,.slice none 0 0,.int .i64 0] 70 (0,0)) wr∧Blk (w.heap.size+1+1) (.cells #[.int .i64 ep,.int .i64 nx,.slice sa ns sc,qv,.int .i64 he] 70 (0,0)) wr∧
    Own (fun b=>b<w.heap.size+3∨w5.heap.size≤b) (w.heap.size+3) 44 (.slice sa ns sc) ls wr∧Own (fun b=>b<w5.heap.size) w5.heap.size 44 qv (lq.take k) wr∧w5.heap.size≤wr.heap.size) (fun i _=>m-(intOf i).toNat)
   case atStart=>exact⟨0,.slice none 0 0,by omega,rfl,HI0.out.1,HI0.out.2.1,HI0.out.2.2.1,HI0.out.2.2.2,Own.nil,Nat.le_refl _⟩
   case round=>
    obtain⟨k,qv,hk,rfl,b1,x2,x3,hsown,hown,hzr2⟩:=hrel;clear HI0 hb3;by_cases hlt:k<m
    ·obtain⟨g,off,rfl,hAb,hbs,hcs⟩:=Hq.out.frame (by omega);have hkl:k<lq.length:=by have:=Hm.out;omega
     obtain⟨ak,nk,ck,hrk,hfk,d0,d1,d2,d3,d4⟩:=hcs k hkl;have e0:=(b1.cell (p:=⟨g,off+k*5,none⟩) hbs).trans d0;have e1:=(b1.cell (p:=⟨g,off+k*5+1,none⟩) hbs).trans d1;have e2:=(b1.cell (p:=⟨g,off+k*5+1+1,none⟩) hbs).trans d2;have e3:=(b1.cell (p:=⟨g,off+k*5+1+1+1,none⟩) hbs).trans d3;have e4:=(b1.cell (p:=⟨g,off+k*5+1+1+1+1,none⟩) hbs).trans d4;have Hk:=Lib.hid (take_nextF lq k hkl);have hlk:=Hlq.out lq[k] (List.getElem_mem hkl);have hnk:=hrk.1;have htl:(lq.take k).length=k:=by rw[List.length_take];omega
     generalize hfr:lq[k]=f at*;generalize lq.take k=lk at*;clear hcs hfr d0 d1 d2 d3 d4;obtain⟨fk,fh,fe,o,ft⟩:=f;simp only at*;have Hcl:Hid (∀W,Below w.heap.size w W→Calls Tryd.prog 85 #[.agg #[.int .i64 fk,.int .i64 fh,.int .i64 fe,.slice ak nk ck,.string ft]] W (CFrP W ⟨fk,fh,fe,o,ft⟩)):=fun W hW=>copyFrame_any ⟨fk,fh,fe,o,ft⟩ ak nk ck W (hrk.go hW) (by omega);have Hfk:=Lib.hid hfk;have hvr:∀k,qv.ownBlock=some k→w5.heap.size≤k∧k<wr.heap.size:=fun k hk=>hown.rowlt k hk;have HB:=Lib.hid b1;have X2:=Lib.hid x2;have HX3:=Lib.hid x3;have HO0:=Lib.hid hown;have HSO:=Lib.hid hsown;have Hvr0:=Lib.hid hvr;have Htl:=Lib.hid htl;clear b1 x2 x3 hown hsown hvr htl hrk hfk hnk hlk;have hkb:k≤1048576:=by omega
     go_wp2_with fail;refine abs_w (fun W=>Below wr.heap.size wr W∧Blk wr.heap.size (.cells #[.int .i64 fk,.int .i64 fh,.int .i64 fe,.slice ak nk ck,.string ft] 44 (0,0)) W) ⟨by(repeat (first|exact Below.refl _ _|assumption|(refine Below.drew ?_)|(refine below_drewN ?_ _)|(refine Below.alloc ?_ (by first|(simp;done)|(simp;omega)|omega) _)|(refine Below.setCell ?_ (by first|(simp;done)|(simp;omega)|omega) _)|(refine Below.trans ?_ (Below.mono (by assumption) (by first|(simp;done)|(simp;omega)|omega))))),Blk.new _ _⟩ ?_;rintro w3 ⟨u3,y3⟩;have hw3:=y3.lt;have HFB:=Lib.hid y3;have HFN:Hid (¬(wr.heap.size=w.heap.size+1+1∨qv.ownBlock=some wr.heap.size)):=by
      rintro(h|h)
      ·omega
      ·have:=Hvr0.out _ h;omega
     have HB3:=Lib.hid (upper HB.out u3 HB.out.size);have X2':=Lib.hid (X2.out.go u3);have X3:=Lib.hid (HX3.out.go u3);have HO:=Lib.hid (HO0.out.go u3);have HSO':=Lib.hid (HSO.out.go u3);have Hvr:Hid (∀k,qv.ownBlock=some k→w5.heap.size≤k∧k<w3.heap.size∧k≠w.heap.size+1+1):=fun k hk=>by have:=Hvr0.out k hk;omega
     have hz3:w5.heap.size≤w3.heap.size:=by omega
     have hbx:w.heap.size+1+1<w3.heap.size:=by omega
     clear u3 y3 X2 HX3 HO0 HSO Hvr0 HB e0 e1 e2 e3 e4
     rename Hid (Below w.heap.size w w3)=>HB
     obtain⟨Vp,HV⟩:∃Vp:Nat→Value→World→Prop,Hid (Vp=fun i v W=>match i with
      |0=>v=.pointer (some ⟨w.heap.size+1+1,3,none⟩)
      |1=>v=qv
      |2=>v=.agg #[.int .i64 fk,.int .i64 fh,.int .i64 fe,.slice ak nk ck,.string ft]
      |3=>∃a c,v=.agg #[.int .i64 fk,.int .i64 fh,.int .i64 fe,.slice a o.length c,.string ft]∧RdS (fun b=>w3.heap.size≤b∧b<W.heap.size) W o a o.length c
      |4=>∃g a c,v=.slice (some ⟨g,0,none⟩) 1 1∧Blk g (.cells #[.int .i64 fk,.int .i64 fh,.int .i64 fe,.slice a o.length c,.string ft] 44 (0,0)) W∧w3.heap.size≤g∧RdS (fun b=>w3.heap.size≤b∧b<W.heap.size) W o a o.length c
      |5=>∃g c,v=.slice (some ⟨g,0,none⟩) (lk.length+1) c∧Own (fun b=>b<w5.heap.size) (w5.heap.size) 44 (.slice (some ⟨g,0,none⟩) (lk.length+1) c) (lk++[(⟨fk,fh,fe,o,ft⟩:Fr)]) W∧g≠w.heap.size+1+1∧(qv.ownBlock=some g∨w3.heap.size≤g)
      |6=>v=.pointer (some ⟨w.heap.size+1+1,3,none⟩)
      |_=>v=undef):=⟨_,rfl⟩
     obtain⟨Ip,HIp⟩:∃Ip:(Nat→Bool)→(Nat→Value)→World→Prop,Hid (Ip=fun L x W=>(Below w.heap.size w W∧Touch (fun b=>b=w.heap.size+1+1∨qv.ownBlock=some b) w3 W∧(L 7=false→Blk (w.heap.size+1+1) (.cells #[.int .i64 ep,.int .i64 nx,.slice sa ns sc,qv,.int .i64 he] 70 (0,0)) W)∧(L 5=false→Own (fun b=>b<w5.heap.size) (w5.heap.size) 44 qv lk W)∧(L 7=true→∃v',Blk (w.heap.size+1+1) (.cells #[.int .i64 ep,.int .i64 nx,.slice sa ns sc,v',.int .i64 he] 70 (0,0)) W∧Own (fun b=>b<w5.heap.size) (w5.heap.size) 44 v' (lk++[(⟨fk,fh,fe,o,ft⟩:Fr)]) W∧(∀k,v'.ownBlock=some k→qv.ownBlock=some k∨w3.heap.size≤k)))):=⟨_,rfl⟩;refine region_lit3 (by kernel_rfl) (by kernel_rfl) (by kernel_rfl) [[],[0],[],[2],[2,3],[0,1,2,3,4],[],[0,1,2,3,4,5,6]] (by kernel_rfl) [some 37,some 38,some 39,some 40,some 41,some 42,some 43,none] (by kernel_rfl) [[0,1,5,7],[1,5,7],[2,3,4,5,7],[3,4,5,7],[4,5,7],[5,7],[6,7],[7]] (by kernel_rfl) [[],[],[],[],[],[],[],[]] [[],[0],[],[2],[3],[1,4],[],[5,6]] (by kernel_rfl)
      Ip
      Vp
      (fun j W W'=>match j with
       |5=>W.grownBy W' qv.ownBlock
       |7=>Touch (fun b=>b=w.heap.size+1+1) W W'
       |_=>Below W.heap.size W W')
      [fun x=>⟨(fZm 3 (.pointer (some ⟨w.heap.size+1+1,0,none⟩)) (fEm 34)).toArray,[]⟩,fun x=>⟨(fZm 37 (x 0) (fEm 1)).toArray,[]⟩,fun x=>⟨(fZm 7 (.pointer (some ⟨wr.heap.size,0,none⟩)) (fEm 32)).toArray,[]⟩,fun x=>⟨(fZm 39 (x 2) (fEm 1)).toArray,[]⟩,fun x=>⟨(fZm 40 (x 3) (fEm 1)).toArray,[]⟩,fun x=>⟨(fZm 38 (x 1) (fZm 2 (x 4) (fEm 1))).toArray,[]⟩,fun x=>⟨(fZm 3 (.pointer (some ⟨w.heap.size+1+1,0,none⟩)) (fEm 40)).toArray,[]⟩,fun x=>⟨(fZm 42 (x 5) (fZm 0 (x 6) [])).toArray,[]⟩]
      ?hF ?mono ?h0 ?step [0,1,2,3,4,5,6,7] (by kernel_rfl) ?fin
     case hF=>
      iterate 8 refine⟨fun x=>⟨by kernel_rfl,by kernel_rfl⟩,?_⟩
      trivial
     case mono=>
      intro i j hi hj hne hna hnk v W W' hE hv;rw[HV.out]at hv⊢;simp only[List.length_cons,List.length_nil]at hi hj
      match i,hi with
      |0,_|1,_|2,_|6,_|7,_=>exact hv
      |3,_=>
       match j,hj with
       |3,_=>exact absurd rfl hne
       |2,_=>exact absurd (by simp) hna
       |0,_|1,_|4,_|6,_=>exact(by obtain⟨a,c,h1,h2⟩:=hv;exact⟨a,c,h1,h2.freshB hE⟩)
       |5,_=>exact(by obtain⟨a,c,h1,h2⟩:=hv;exact⟨a,c,h1,h2.freshG hE (fun k hk=>(Hvr.out k hk).2.1)⟩)
       |7,_=>exact(by obtain⟨a,c,h1,h2⟩:=hv;exact⟨a,c,h1,h2.freshT hE (fun k hk=>by omega)⟩)
       |m+8,h=>exact absurd h (by omega)
      |4,_=>
       match j,hj with
       |4,_=>exact absurd rfl hne
       |2,_|3,_=>exact absurd (by simp) hna
       |0,_|1,_|6,_=>exact(by obtain⟨g,a,c,h1,h2,h3,h4⟩:=hv;exact⟨g,a,c,h1,h2.go hE,h3,h4.freshB hE⟩)
       |5,_=>exact(by obtain⟨g,a,c,h1,h2,h3,h4⟩:=hv;exact⟨g,a,c,h1,h2.grown hE (fun e=>by have:=Hvr.out g e.symm;omega),h3,h4.freshG hE (fun k hk=>(Hvr.out k hk).2.1)⟩)
       |7,_=>exact(by obtain⟨g,a,c,h1,h2,h3,h4⟩:=hv;exact⟨g,a,c,h1,h2.touch hE (by omega),h3,h4.freshT hE (fun k hk=>by omega)⟩)
       |m+8,h=>exact absurd h (by omega)
      |5,_=>
       match j,hj with
       |5,_=>exact absurd rfl hne
       |0,_|1,_|2,_|3,_|4,_=>exact absurd (by simp) hna
       |6,_=>exact(by obtain⟨g,c,h1,h2,h3,h4⟩:=hv;exact⟨g,c,h1,h2.go hE,h3,h4⟩)
       |7,_=>exact(by obtain⟨g,c,h1,h2,h3,h4⟩:=hv;exact⟨g,c,h1,h2.touch hE (fun k hk hs=>⟨by(first|omega|exact .inr hs),fun e=>h3 ((Option.some.inj (show some g=some k from e)).trans hs)⟩),h3,h4⟩)
       |m+8,h=>exact absurd h (by omega)
      |m+8,h=>exact absurd h (by omega)
     case h0=>intro x;exact toI HIp ⟨HB.out.drew,(Touch.refl _ _).drew,fun _=>X3.out,fun _=>HO.out.go (Below.refl _ _).drew,fun h=>by cases h⟩
     case step=>
      refine⟨?_,?_,?_,?_,?_,?_,?_,?_,trivial⟩
      all_goals
       intro x W L hI hL hV;replace hI:(Below w.heap.size w W∧Touch (fun b=>b=w.heap.size+1+1∨qv.ownBlock=some b) w3 W∧(L 7=false→Blk (w.heap.size+1+1) (.cells #[.int .i64 ep,.int .i64 nx,.slice sa ns sc,qv,.int .i64 he] 70 (0,0)) W)∧(L 5=false→Own (fun b=>b<w5.heap.size) (w5.heap.size) 44 qv lk W)∧(L 7=true→∃v',Blk (w.heap.size+1+1) (.cells #[.int .i64 ep,.int .i64 nx,.slice sa ns sc,v',.int .i64 he] 70 (0,0)) W∧Own (fun b=>b<w5.heap.size) (w5.heap.size) 44 v' (lk++[(⟨fk,fh,fe,o,ft⟩:Fr)]) W∧(∀k,v'.ownBlock=some k→qv.ownBlock=some k∨w3.heap.size≤k))):=ofI HIp hI;rw[HV.out]at hV;simp only[AllV,and_true]at hV;dsimp only[fZm,fEm,List.reduceReplicate,List.cons_append,List.nil_append]
      ·clear hV;have HI:=Lib.hid hI;clear hI;go_wp2_with fail;refine step3_done rfl ?_ ?_ ?_
       ·exact(toI HIp HI.out)
       ·exact(Below.refl _ _)
       ·exact(toV HV rfl)
      ·have u0:=hV;clear hV;simp only[u0];clear u0;have cW:W.cell? ⟨w.heap.size+1+1,3,none⟩=some qv:=(hI.2.2.1 (hL.2 7 (by simp))).cell 3;have HI:=Lib.hid hI;clear hI;go_wp2_with fail;refine step3_done rfl ?_ ?_ ?_
       ·exact(toI HIp HI.out)
       ·exact(Below.refl _ _)
       ·exact(toV HV rfl)
      ·clear hV;have bF:=(HFB.out).touch hI.2.1 HFN.out;have q0:W.cell? ⟨wr.heap.size,0,none⟩=some (.int .i64 fk):=bF.cell 0;have q1:W.cell? ⟨wr.heap.size,1,none⟩=some (.int .i64 fh):=bF.cell 1;have q2:W.cell? ⟨wr.heap.size,2,none⟩=some (.int .i64 fe):=bF.cell 2;have q3:W.cell? ⟨wr.heap.size,3,none⟩=some (.slice ak nk ck):=bF.cell 3;have q4:W.cell? ⟨wr.heap.size,4,none⟩=some (.string ft):=bF.cell 4;have HI:=Lib.hid hI;clear hI bF;go_wp2_with fail;refine step3_done rfl ?_ ?_ ?_
       ·exact(toI HIp HI.out)
       ·exact(Below.refl _ _)
       ·exact(toV HV rfl)
      ·have u2:=hV;clear hV;simp only[u2];clear u2;have HI:=Lib.hid hI;have HL:=Lib.hid hL;clear hI hL;go_wp2_with fail;obtain⟨i1,i2,i3,i4,i5⟩:=HI.out;refine(Hcl.out W i1).mono ?_;rintro e W' ⟨a',c',rfl,hrd,uW⟩;have hsz:=i2.size;have HP:=Lib.hid (And.intro (upper i1 uW i1.size) (And.intro (i2.below uW hsz) (And.intro (fun h:L 7=false=>(i3 h).go uW) (fun h:L 5=false=>(i4 h).go uW))));have HR3:Hid (RdS (fun b=>w3.heap.size≤b∧b<W'.heap.size) W' o a' o.length c'):=hrd.mono fun b hb=>⟨⟨by omega,hb.2⟩,rfl⟩;have HU:=Lib.hid uW;clear i1 i2 i3 i4 i5 hrd uW HI;go_wp2_with fail;refine step3_done rfl ?_ ?_ ?_
       ·exact(toI HIp ⟨HP.out.1,HP.out.2.1,HP.out.2.2.1,HP.out.2.2.2,fun h:L 7=true=>absurd ((HL.out.2 7 (by simp)).symm.trans h) (by simp)⟩)
       ·exact HU.out
       ·exact(toV HV ⟨_,_,rfl,HR3.out⟩)
      ·obtain⟨a3,c3,u3,r3⟩:=hV;simp only[u3];have U3:=Lib.hid u3;clear u3;have HI:=Lib.hid hI;have HL:=Lib.hid hL;have R3:=Lib.hid r3;clear hI hL r3;go_wp2_with fail;obtain⟨i1,i2,i3,i4,i5⟩:=HI.out;have uW:∀o,Below W.heap.size W (W.alloc o):=fun o=>(Below.refl _ _).alloc (Nat.le_refl _) o;have hsz:=i2.size;refine step3_done rfl ?_ ?_ ?_
       ·exact(toI HIp ⟨upper i1 (uW _) i1.size,i2.below (uW _) hsz,fun h=>(i3 h).go (uW _),fun h=>(i4 h).go (uW _),fun h:L 7=true=>absurd ((HL.out.2 7 (by simp)).symm.trans h) (by simp)⟩)
       ·exact(uW _)
       ·exact(toV HV ⟨_,_,_,rfl,Blk.new _ _,hsz,R3.out.freshB (uW _)⟩)
      ·obtain⟨u1,⟨g4,a4,c4,u4,b4,l4,r4⟩⟩:=hV;simp only[u1,u4];have U4:=Lib.hid u4;clear u1 u4;have HI:=Lib.hid hI;have HL:=Lib.hid hL;have R4:=Lib.hid r4;have B4:=Lib.hid b4;have hO5:=Lib.hid (hI.2.2.2.1 (hL.2 5 (by simp)));have hz5:=hI.1.size;have hz6:=hI.2.1.size;have hI0:w.heap.size+1+1<W.heap.size:=Nat.lt_of_lt_of_le hbx hz6;have Hy:Hid (Rep.rd (fun b=>b<W.heap.size∧¬(fun b=>b<w5.heap.size) b∧qv.ownBlock≠some b) W (⟨fk,fh,fe,o,ft⟩:Fr) [.int .i64 fk,.int .i64 fh,.int .i64 fe,.slice a4 o.length c4,.string ft]):=⟨a4,o.length,c4,rfl,r4.mono fun b hb=>⟨⟨hb.2,by(first|omega|(rintro(h|h)<;>omega)),fun e=>by have:=Hvr.out b e;omega⟩,rfl⟩,Hfk.out⟩;clear hI hL r4 b4;go_wp2_with (at_builtin;refine wpList_append_one rfl _ _ _ (by rfl) (w5.heap.size) 44 i0 _ 64 Tryd.underlying68 Hi.out Hz0.out Hz1.out Hz2.out rfl qv lk (by rfl) hO5.out g4 1 _ [.int .i64 fk,.int .i64 fh,.int .i64 fe,.slice a4 o.length c4,.string ft] (⟨fk,fh,fe,o,ft⟩:Fr) (by rfl) B4.out Hy.out (by have:=Htl.out;unfold maxLen;omega) (by have:=Htl.out;omega) (by omega) ?_);intro g cap w5 hown5 hgrow hat hlt5;obtain⟨i1,i2,i3,i4,i5⟩:=HI.out;have hP1:Below w.heap.size w w5:=i1.grown hgrow hz5 (fun g hg=>by have:=(Hvr.out g hg).1;omega);have hP2:Touch (fun b=>b=w.heap.size+1+1∨qv.ownBlock=some b) w3 w5:=i2.grown hgrow (fun k hk=>.inl (.inr hk));have HP:=Lib.hid (And.intro hP1 (And.intro hP2 (fun h:L 7=false=>(i3 h).grown hgrow (fun e=>by have:=Hvr.out _ e.symm;omega))));have HG:=Lib.hid hgrow;have H5:=Lib.hid hown5;have H6:Hid (g≠w.heap.size+1+1):=by
        unfold Hid;intro h;rcases hat with h'|h'
        ·have:=Hvr.out _ h';omega
        ·have:=hI0;omega
       have H7:Hid (qv.ownBlock=some g∨w3.heap.size≤g):=by
        rcases hat with h'|h'
        ·exact .inl h'
        ·exact .inr (by omega)
       clear i1 i2 i3 i4 i5 hP1 hP2 hgrow hown5 hat HI;go_wp2_with fail;refine step3_done rfl ?_ ?_ ?_
       ·exact(toI HIp ⟨HP.out.1,HP.out.2.1,HP.out.2.2,fun h=>absurd h (by simp[setB]),fun h:L 7=true=>absurd ((HL.out.2 7 (by simp)).symm.trans h) (by simp)⟩)
       ·exact HG.out
       ·exact(toV HV ⟨_,_,rfl,H5.out,H6.out,H7.out⟩)
      ·clear hV;have HI:=Lib.hid hI;clear hI;go_wp2_with fail;refine step3_done rfl ?_ ?_ ?_
       ·exact(toI HIp HI.out)
       ·exact(Below.refl _ _)
       ·exact(toV HV rfl)
      ·obtain⟨⟨g5,c5,u5,o5,n5,t5⟩,u6⟩:=hV;simp only[u5,u6];have U5:=Lib.hid u5;clear u5 u6;have b7:=hI.2.2.1 (hL.2 7 (by simp));have cW:W.cell? ⟨w.heap.size+1+1,3,none⟩=some qv:=b7.cell 3;have fW:=b7.frozen 3;have HI:=Lib.hid hI;have HL:=Lib.hid hL;have B7:=Lib.hid b7;have O5:=Lib.hid o5;have T5:=Lib.hid t5;clear hI hL b7 o5 t5;go_wp2_with fail;obtain⟨i1,i2,i3,i4,i5⟩:=HI.out;have ht:∀u,Touch (fun b=>b=w.heap.size+1+1) W (W.setCell ⟨w.heap.size+1+1,3,none⟩ u):=fun u=>Touch.setCell (S:=fun b=>b=w.heap.size+1+1) (Touch.refl _ _) (.inl rfl) _;have hk5:∀k,(Value.slice (some ⟨g5,0,none⟩) (lk.length+1) c5).ownBlock=some k→qv.ownBlock=some k∨w3.heap.size≤k:=fun k hk=>by
        obtain rfl:g5=k:=by simpa[Value.ownBlock]using hk
        exact T5.out
       refine step3_done (v:=undef) rfl ?_ ?_ ?_
       ·exact(toI HIp ⟨i1.setCell (by simp only;omega) _,i2.setCell (.inl (.inl rfl)) _,(fun h=>absurd h (by simp[setB])),fun h:L 5=false=>absurd ((HL.out.1 5 (by simp)).symm.trans h) (by simp),fun _=>⟨_,B7.out.set 3 _,O5.out.touch (ht _) (fun k hk hs=>⟨by(first|omega|exact .inr hs),fun e=>n5 ((Option.some.inj (show some g5=some k from e)).trans hs)⟩),hk5⟩⟩)
       ·exact(ht _)
       ·exact(toV HV rfl)
     case fin=>
      intro x W L hL hI hV;replace hI:(Below w.heap.size w W∧Touch (fun b=>b=w.heap.size+1+1∨qv.ownBlock=some b) w3 W∧(L 7=false→Blk (w.heap.size+1+1) (.cells #[.int .i64 ep,.int .i64 nx,.slice sa ns sc,qv,.int .i64 he] 70 (0,0)) W)∧(L 5=false→Own (fun b=>b<w5.heap.size) (w5.heap.size) 44 qv lk W)∧(L 7=true→∃v',Blk (w.heap.size+1+1) (.cells #[.int .i64 ep,.int .i64 nx,.slice sa ns sc,v',.int .i64 he] 70 (0,0)) W∧Own (fun b=>b<w5.heap.size) (w5.heap.size) 44 v' (lk++[(⟨fk,fh,fe,o,ft⟩:Fr)]) W∧(∀k,v'.ownBlock=some k→qv.ownBlock=some k∨w3.heap.size≤k))):=ofI HIp hI;rw[HV.out]at hV;simp only[AllV,and_true]at hV;obtain⟨u0,u1,u2,⟨a3,c3,u3,r3⟩,⟨g4,a4,c4,u4,b4,l4,r4⟩,⟨g5,c5,u5,o5,n5,t5⟩,u6,u7⟩:=hV;simp only[getsD,List.getD_cons_succ,List.getD_cons_zero,List.length_cons,List.length_nil,List.range,List.range.loop,u0,u1,u2,u3,u4,u5,u6,u7,Act.put,List.setIfInBounds_toArray,List.set_cons_succ,List.set_cons_zero];clear u0 u1 u2 u3 u4 u5 u6 u7;clear r3 r4 b4 o5 t5;obtain⟨i1,i2,i3,i4,i5⟩:=hI;obtain⟨v',x3',hown',-⟩:=i5 (hL 7 (by simp));have HF:Hid (Below w.heap.size w W∧Blk (w.heap.size+1) (.cells #[.int .i64 0,.int .i64 0,.slice none 0 0,.slice none 0 0,.int .i64 0] 70 (0,0)) W∧Blk (w.heap.size+1+1) (.cells #[.int .i64 ep,.int .i64 nx,.slice sa ns sc,v',.int .i64 he] 70 (0,0)) W∧
       Own (fun b=>b<w.heap.size+3∨w5.heap.size≤b) (w.heap.size+3) 44 (.slice sa ns sc) ls W∧Own (fun b=>b<w5.heap.size) w5.heap.size 44 v' (lq.take (k+1)) W∧w5.heap.size≤W.heap.size):=by
       refine⟨i1,X2'.out.touch i2 ?_,x3',HSO'.out.touch i2 ?_,by rw[Hk.out];exact hown',Nat.le_trans hz3 i2.size⟩
       ·rintro(h|h)
        ·omega
        ·have:=(Hvr.out _ h).1;omega
       ·rintro j _ (h|h)
        ·exact⟨.inl (by omega),fun e=>by have:=Hsr.out _ e;omega⟩
        ·have:=(Hvr.out _ h).1;exact⟨.inr this,fun e=>by have:=Hsr.out _ e;omega⟩
      clear i1 i2 i3 i4 i5 x3' hown' hL;go_wp2_with fail;go_roundw
      case rel=>exact⟨k+1,v',by omega,by go_num,HF.out⟩
      case measure=>simp[intOf];omega
    ·have hkn:k=lq.length:=by have:=Hm.out;omega
     rw[hkn,List.take_length]at hown;obtain⟨qa,qc,hqv⟩:=hown.form;subst hqv;obtain⟨y0,y1,y2,y3,y4⟩:=blk_cells5 x2;have f2:=x2.frozen;obtain⟨z0,z1,z2,z3,z4⟩:=blk_cells5 x3;have hx2:=x2.lt;have HY:=Lib.hid (blk_set5 x2 (.int .i64 ep) (.int .i64 nx) (.slice sa ns sc) (.slice qa lq.length qc) (.int .i64 he));have Hfin:Hid (∀W,Touch (fun b=>b=w.heap.size+1) wr W→OP (.returned (.agg #[.int .i64 ep,.int .i64 nx,.slice sa ns sc,.slice qa lq.length qc,.int .i64 he])) W):=by
      intro W hW;have hqr:=hown.rowlt;refine Hpost.out _ _ _ (((hsown.touch hW (fun k hk hs=>⟨.inl (by omega),fun e=>by have:=Hsr.out _ e;omega⟩)).less (fun k hk=>?_)).low (by omega)) (((hown.touch hW (fun k hk hs=>⟨by omega,fun e=>by have:=hqr _ e;omega⟩)).less (fun k hk=>?_)).low (by omega)) (fun k h1 h2=>by have:=Hsr.out _ h1;have:=hqr _ h2;omega) (b1.trans (hW.toBelow (by omega) (fun k hk=>by omega)))
      ·show k<w.heap.size+3∨w5.heap.size≤k
       rcases hk with hk|hk
       ·left;omega
       ·right;exact(hqr _ hk).1
      ·show k<w5.heap.size
       rcases hk with hk|hk
       ·omega
       ·exact(Hsr.out _ hk).2
     clear hkn hown hsown x2 x3 b1 Hpost;generalize lq.length=nq at*;go_wp2_with fail;refine abs_ret (fun W=>Blk (w.heap.size+1) (.cells #[.int .i64 ep,.int .i64 nx,.slice sa ns sc,.slice qa nq qc,.int .i64 he] 70 (0,0)) W∧OP (.returned (.agg #[.int .i64 ep,.int .i64 nx,.slice sa ns sc,.slice qa nq qc,.int .i64 he])) W) ⟨HY.out,Hfin.out _ (touch5 _ _ _ _ _ _ _)⟩ ?_;rintro W ⟨g1,g2⟩;obtain⟨k0,k1,k2,k3,k4⟩:=blk_cells5 g1;refine bodyPost_ret (v:=.agg #[.int .i64 ep,.int .i64 nx,.slice sa ns sc,.slice qa nq qc,.int .i64 he]) (by simp[results,Tryd.results84,go_sem,k0,k1,k2,k3,k4]) rfl g2
end Go.Proofs.YtkbfhgcjimfgkaaDoor
