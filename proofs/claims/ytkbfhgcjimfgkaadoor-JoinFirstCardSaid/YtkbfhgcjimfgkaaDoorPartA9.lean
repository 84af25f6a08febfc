/- The walks of link.packet, link.bare and link.Open. -/
import Derived.Test.YtkbfhgcjimfgkaaDoorPartA8
import Derived.Test.YtkbfhgcjimfgkaaDoorPartA7
set_option linter.unusedVariables false
set_option linter.unusedSimpArgs false
set_option linter.unusedSimpArgs false
namespace Go.Proofs.YtkbfhgcjimfgkaaDoor
open Go.RowKit
def MkPkP (p:Pkt)(w:World)(e:Ending)(w':World):Prop:=
 ∃a c,e=.returned (.agg #[.int .i64 p.epoch,.int .i64 p.number,.bool p.bare,.int .i64 p.ack,.int .i64 p.f.kind,.int .i64 p.f.heard,.int .i64 p.f.epoch,.slice a p.f.op.length c,.string p.f.text])∧RdS (fun b=>w.heap.size≤b∧b<w'.heap.size) w' p.f.op a p.f.op.length c∧Below w.heap.size w w'
theorem blk9_set {w:World}{g T:Nat}{c0 c1 c2 c3 c4 c5 c6 c7 c8:Value}(h:Blk g (.cells #[c0,c1,c2,c3,c4,c5,c6,c7,c8] T (0,0)) w)(v0 v1 v2 v3 v4 v5 v6 v7 v8:Value):Blk g (.cells #[v0,v1,v2,v3,v4,v5,v6,v7,v8] T (0,0)) (((((((((w.setCell ⟨g,0,none⟩ v0).setCell ⟨g,1,none⟩ v1).setCell ⟨g,2,none⟩ v2).setCell ⟨g,3,none⟩ v3).setCell ⟨g,4,none⟩ v4).setCell ⟨g,5,none⟩ v5).setCell ⟨g,6,none⟩ v6).setCell ⟨g,7,none⟩ v7).setCell ⟨g,8,none⟩ v8):=by
 have h9:=((((((((h.set 0 v0).set 1 v1).set 2 v2).set 3 v3).set 4 v4).set 5 v5).set 6 v6).set 7 v7).set 8 v8;simp only[List.setIfInBounds_toArray,List.set_cons_succ,List.set_cons_zero]at h9;exact h9
theorem touch9' (w:World)(g:Nat)(v0 v1 v2 v3 v4 v5 v6 v7 v8:Value):Touch (fun z=>z=g) w (((((((((w.setCell ⟨g,0,none⟩ v0).setCell ⟨g,1,none⟩ v1).setCell ⟨g,2,none⟩ v2).setCell ⟨g,3,none⟩ v3).setCell ⟨g,4,none⟩ v4).setCell ⟨g,5,none⟩ v5).setCell ⟨g,6,none⟩ v6).setCell ⟨g,7,none⟩ v7).setCell ⟨g,8,none⟩ v8):=
 (((((((((Touch.refl (fun z=>z=g) w).setCell (p:=⟨g,0,none⟩) (.inl rfl) _).setCell (p:=⟨g,1,none⟩) (.inl rfl) _).setCell (p:=⟨g,2,none⟩) (.inl rfl) _).setCell (p:=⟨g,3,none⟩) (.inl rfl) _).setCell (p:=⟨g,4,none⟩) (.inl rfl) _).setCell (p:=⟨g,5,none⟩) (.inl rfl) _).setCell (p:=⟨g,6,none⟩) (.inl rfl) _).setCell (p:=⟨g,7,none⟩) (.inl rfl) _).setCell (p:=⟨g,8,none⟩) (.inl rfl) _
theorem blk9_cells {w:World}{g T:Nat}{c0 c1 c2 c3 c4 c5 c6 c7 c8:Value}(h:Blk g (.cells #[c0,c1,c2,c3,c4,c5,c6,c7,c8] T (0,0)) w):w.cell? ⟨g,0,none⟩=some c0∧w.cell? ⟨g,1,none⟩=some c1∧w.cell? ⟨g,2,none⟩=some c2∧w.cell? ⟨g,3,none⟩=some c3∧w.cell? ⟨g,4,none⟩=some c4∧w.cell? ⟨g,5,none⟩=some c5∧w.cell? ⟨g,6,none⟩=some c6∧w.cell? ⟨g,7,none⟩=some c7∧w.cell? ⟨g,8,none⟩=some c8:=
 ⟨h.cell 0,h.cell 1,h.cell 2,h.cell 3,h.cell 4,h.cell 5,h.cell 6,h.cell 7,h.cell 8⟩
def Lk.barePk (l:Lk):Pkt:=⟨l.epoch,0,true,l.heard,bareFr⟩
set_option maxRecDepth 100000 in
set_option maxHeartbeats 2000000 in
theorem bare_any (l:Lk)(sv qv:Value)(w:World):
 Calls Tryd.prog 87 #[.agg #[.int .i64 l.epoch,.int .i64 l.next,sv,qv,.int .i64 l.heard]] w (MkPkP l.barePk w):=by
 obtain⟨ep,nx,ls,lq,he⟩:=l;have Hend:Hid (∀W,Below w.heap.size w W→MkPkP (Lk.mk ep nx ls lq he).barePk w (.returned (.agg #[.int .i64 ep,.int .i64 0,.bool true,.int .i64 he,.int .i64 0,.int .i64 0,.int .i64 0,.slice none 0 0,.string noText])) W):=fun W h=>⟨none,0,rfl,RdS.nil _ _,h⟩;generalize MkPkP (Lk.mk ep nx ls lq he).barePk w=MP at*;simp only;go_enter Tryd.func87,Tryd.ntmps87;go_wp2_with fail;refine bodyPost_ret (v:=.agg #[.int .i64 ep,.int .i64 0,.bool true,.int .i64 he,.int .i64 0,.int .i64 0,.int .i64 0,.slice none 0 0,.string noText]) (by simp[results,Tryd.results87,go_sem,noText]) rfl (Hend.out _ ?_)
 (repeat (first|exact Below.refl _ _|assumption|(refine Below.drew ?_)|(refine below_drewN ?_ _)|(refine Below.alloc ?_ (by first|(simp;done)|(simp;omega)|omega) _)|(refine Below.setCell ?_ (by first|(simp;done)|(simp;omega)|omega) _)|(refine Below.trans ?_ (Below.mono (by assumption) (by first|(simp;done)|(simp;omega)|omega)))))
def openE (ep:Int):Int:=if ep<1∨1048576<ep then 2 else 0
def openLk (ep:Int):Lk:=if ep<1∨1048576<ep then⟨0,0,[],[],0⟩else⟨ep,1,[],[],0⟩
theorem open_any (ep:Int)(w:World)(h:I64 ep):
 Calls Tryd.prog 50 #[.int .i64 ep] w fun e w'=>e=.returned (.tuple #[.agg #[.int .i64 (openLk ep).epoch,.int .i64 (openLk ep).next,.slice none 0 0,.slice none 0 0,.int .i64 0],.int .i64 (openE ep)])∧Below w.heap.size w w':=by
 unfold openLk openE;unfold I64 at h;by_cases h1:ep<1
 ·rw[if_pos (.inl h1),if_pos (.inl h1)];go_enter Tryd.func50,Tryd.ntmps50;go_wp2_with fail;refine bodyPost_ret (v:=.tuple #[.agg #[.int .i64 0,.int .i64 0,.slice none 0 0,.slice none 0 0,.int .i64 0],.int .i64 2]) (by simp[results,Tryd.results50,go_sem]) rfl ⟨rfl,by(repeat (first|exact Below.refl _ _|assumption|(refine Below.drew ?_)|(refine below_drewN ?_ _)|(refine Below.alloc ?_ (by first|(simp;done)|(simp;omega)|omega) _)|(refine Below.setCell ?_ (by first|(simp;done)|(simp;omega)|omega) _)|(refine Below.trans ?_ (Below.mono (by assumption) (by first|(simp;done)|(simp;omega)|omega)))))⟩
 by_cases h2:1048576<ep
 ·rw[if_pos (.inr h2),if_pos (.inr h2)];go_enter Tryd.func50,Tryd.ntmps50;go_wp2_with fail;refine bodyPost_ret (v:=.tuple #[.agg #[.int .i64 0,.int .i64 0,.slice none 0 0,.slice none 0 0,.int .i64 0],.int .i64 2]) (by simp[results,Tryd.results50,go_sem]) rfl ⟨rfl,by(repeat (first|exact Below.refl _ _|assumption|(refine Below.drew ?_)|(refine below_drewN ?_ _)|(refine Below.alloc ?_ (by first|(simp;done)|(simp;omega)|omega) _)|(refine Below.setCell ?_ (by first|(simp;done)|(simp;omega)|omega) _)|(refine Below.trans ?_ (Below.mono (by assumption) (by first|(simp;done)|(simp;omega)|omega)))))⟩
 ·rw[if_neg (by omega),if_neg (by omega)];go_enter Tryd.func50,Tryd.ntmps50;go_wp2_with fail;refine bodyPost_ret (v:=.tuple #[.agg #[.int .i64 ep,.int .i64 1,.slice none 0 0,.slice none 0 0,.int .i64 0],.int .i64 0]) (by simp[results,Tryd.results50,go_sem]) rfl ⟨rfl,by(repeat (first|exact Below.refl _ _|assumption|(refine Below.drew ?_)|(refine below_drewN ?_ _)|(refine Below.alloc ?_ (by first|(simp;done)|(simp;omega)|omega) _)|(refine Below.setCell ?_ (by first|(simp;done)|(simp;omega)|omega) _)|(refine Below.trans ?_ (Below.mono (by assumption) (by first|(simp;done)|(simp;omega)|omega)))))⟩
def Lk.pk (l:Lk)(i:Nat):Pkt:=⟨l.epoch,l.next-l.sent.length+i,false,l.heard,l.sent.getD i bareFr⟩
set_option maxRecDepth 100000 in
set_option maxHeartbeats 8000000 in
theorem packet_go' (l:Lk)(ix:Nat)(a b:Option Addr)(n c m d:Nat)(w:World)(hr:RdS (· <w.heap.size) w l.sent a n c)(hi:ix<n)(hn:n≤2097152)(h1:0≤l.next)(h2:l.next≤2097152)(hls:∀f∈l.sent,f.op.length≤1000000000):
 Calls Tryd.prog 95 #[.agg #[.int .i64 l.epoch,.int .i64 l.next,.slice a n c,.slice b m d,.int .i64 l.heard],.int .i64 (ix:Int)] w (MkPkP (l.pk ix) w):=by
 have hnl:=hr.1;obtain⟨g,off,rfl,hAb,hbs,hcs⟩:=hr.frame (by omega);have hkl:ix<l.sent.length:=by omega
 obtain⟨ak,nk,ck,hrk,hfk,d0,d1,d2,d3,d4⟩:=hcs ix hkl;have hlk:=hls l.sent[ix] (List.getElem_mem hkl);have hnk:=hrk.1;have hp:l.pk ix=⟨l.epoch,l.next-n+ix,false,l.heard,l.sent[ix]⟩:=by
  unfold Lk.pk;rw[hnl];congr 1;simp[List.getD,hkl]
 rw[hp];generalize l.sent[ix]=f at*;clear hp hcs hr hls hkl hnl;obtain⟨fk,fh,fe,o,ft⟩:=f;obtain⟨ep,nx,ls,lq,he⟩:=l;simp only at*;have Hcl:Hid (∀W,Below w.heap.size w W→Calls Tryd.prog 85 #[.agg #[.int .i64 fk,.int .i64 fh,.int .i64 fe,.slice ak nk ck,.string ft]] W (CFrP W ⟨fk,fh,fe,o,ft⟩)):=fun W hW=>copyFrame_any ⟨fk,fh,fe,o,ft⟩ ak nk ck W (hrk.go hW) (by omega);obtain⟨nu,hnu⟩:∃nu,nx-(n:Int)+(ix:Int)=nu:=⟨_,rfl⟩;have hnu2:nx-(n:Int)=nu-ix:=by omega
 have Hend:Hid (∀a c W,RdS (fun b=>w.heap.size≤b∧b<W.heap.size) W o a o.length c→Below w.heap.size w W→MkPkP ⟨ep,nx-n+ix,false,he,⟨fk,fh,fe,o,ft⟩⟩ w (.returned (.agg #[.int .i64 ep,.int .i64 nu,.bool false,.int .i64 he,.int .i64 fk,.int .i64 fh,.int .i64 fe,.slice a o.length c,.string ft])) W):=fun a c W h1 h2=>⟨a,c,by rw[hnu],h1,h2⟩;generalize MkPkP ⟨ep,nx-n+ix,false,he,⟨fk,fh,fe,o,ft⟩⟩ w=MP at*;have hsub:IntKind.i64.wrap (nx-(n:Int))=nx-(n:Int):=IntWalk.i64_in _ (by omega);have hadd:IntKind.i64.wrap (nx-(n:Int)+(ix:Int))=nu:=by rw[IntWalk.i64_in _ (by omega)];exact hnu
 have Hsub:=Lib.hid hsub;have Hadd:=Lib.hid hadd;clear hsub hadd hnu hnu2 hrk hfk hlk hnk h1 h2;have hiI:(ix:Int)<(n:Int):=by omega
 go_enter Tryd.func95,Tryd.ntmps95;go_wp2_with fail;refine abs_w (fun W=>Below w.heap.size w W∧Blk w.heap.size (.cells #[.int .i64 ep,.int .i64 nx,.slice (some ⟨g,off,none⟩) n c,.slice b m d,.int .i64 he] 70 (0,0)) W∧Blk (w.heap.size+1) (.cells #[.int .i64 0,.int .i64 0,.bool false,.int .i64 0,.int .i64 0,.int .i64 0,.int .i64 0,.slice none 0 0,.string noText] 46 (0,0)) W) ⟨by(repeat (first|exact Below.refl _ _|assumption|(refine Below.drew ?_)|(refine below_drewN ?_ _)|(refine Below.alloc ?_ (by first|(simp;done)|(simp;omega)|omega) _)|(refine Below.setCell ?_ (by first|(simp;done)|(simp;omega)|omega) _)|(refine Below.trans ?_ (Below.mono (by assumption) (by first|(simp;done)|(simp;omega)|omega))))),(Blk.new _ _).alloc _,Blk.at _ _ _ (by simp)⟩ ?_;rintro w1 ⟨b1,x1,y1⟩;have HB:=Lib.hid b1;have X1:=Lib.hid x1;have Y1:=Lib.hid y1;have hy1:=y1.lt;clear b1 x1 y1;obtain⟨Vp,HV⟩:∃Vp:Nat→Value→World→Prop,Hid (Vp=fun i v W=>match i with
  |0=>v=.pointer (some ⟨w.heap.size,0,none⟩)
  |1=>v=.int .i64 ep
  |2=>v=.pointer (some ⟨w.heap.size,1,none⟩)
  |3=>v=.int .i64 nx
  |4=>v=.pointer (some ⟨w.heap.size,2,none⟩)
  |5=>v=.slice (some ⟨g,off,none⟩) n c
  |6=>v=.int .i64 (n:Int)
  |7=>v=.int .i64 (nx-(n:Int))
  |8=>v=.int .i64 (ix:Int)
  |9=>v=.int .i64 nu
  |10=>v=.pointer (some ⟨w.heap.size,4,none⟩)
  |11=>v=.int .i64 he
  |12=>v=.pointer (some ⟨w.heap.size,2,none⟩)
  |13=>v=.slice (some ⟨g,off,none⟩) n c
  |14=>v=.int .i64 (ix:Int)
  |15=>v=.pointer (some ⟨g,off+ix*5,none⟩)
  |16=>v=.agg #[.int .i64 fk,.int .i64 fh,.int .i64 fe,.slice ak nk ck,.string ft]
  |17=>∃a c,v=.agg #[.int .i64 fk,.int .i64 fh,.int .i64 fe,.slice a o.length c,.string ft]∧RdS (fun b=>w1.heap.size≤b∧b<W.heap.size) W o a o.length c
  |18=>∃a c,v=.agg #[.int .i64 ep,.int .i64 nu,.bool false,.int .i64 he,.int .i64 fk,.int .i64 fh,.int .i64 fe,.slice a o.length c,.string ft]∧RdS (fun b=>w1.heap.size≤b∧b<W.heap.size) W o a o.length c
  |_=>v=undef):=⟨_,rfl⟩
 obtain⟨Ip,HIp⟩:∃Ip:(Nat→Bool)→(Nat→Value)→World→Prop,Hid (Ip=fun L x W=>(Below w.heap.size w W∧Touch (fun z=>z=w.heap.size+1) w1 W∧(L 19=false→Blk (w.heap.size+1) (.cells #[.int .i64 0,.int .i64 0,.bool false,.int .i64 0,.int .i64 0,.int .i64 0,.int .i64 0,.slice none 0 0,.string noText] 46 (0,0)) W)∧(L 19=true→∃a c,Blk (w.heap.size+1) (.cells #[.int .i64 ep,.int .i64 nu,.bool false,.int .i64 he,.int .i64 fk,.int .i64 fh,.int .i64 fe,.slice a o.length c,.string ft] 46 (0,0)) W∧RdS (fun b=>w1.heap.size≤b∧b<W.heap.size) W o a o.length c))):=⟨_,rfl⟩;refine region_lit3 (by kernel_rfl) (by kernel_rfl) (by kernel_rfl) [[],[0],[],[2],[],[4],[4,5],[2,3,4,5,6],[],[2,3,4,5,6,7,8],[],[10],[],[12],[],[12,13,14],[12,13,14,15],[12,13,14,15,16],[0,1,2,3,4,5,6,7,8,9,10,11,12,13,14,15,16,17],[0,1,2,3,4,5,6,7,8,9,10,11,12,13,14,15,16,17,18]] (by kernel_rfl) [some 5,some 6,some 7,some 8,some 9,some 10,some 11,some 12,some 13,some 14,some 15,some 16,some 17,some 18,some 19,some 20,some 21,some 22,some 23,none] (by kernel_rfl) [[0,1,18,19],[1,18,19],[2,3,7,9,18,19],[3,7,9,18,19],[4,5,6,7,9,18,19],[5,6,7,9,18,19],[6,7,9,18,19],[7,9,18,19],[8,9,18,19],[9,18,19],[10,11,18,19],[11,18,19],[12,13,15,16,17,18,19],[13,15,16,17,18,19],[14,15,16,17,18,19],[15,16,17,18,19],[16,17,18,19],[17,18,19],[18,19],[19]] (by kernel_rfl) [[],[],[],[],[],[],[],[],[],[],[],[],[],[],[],[],[],[],[],[]] [[],[0],[],[2],[],[4],[5],[3,6],[],[7,8],[],[10],[],[12],[],[13,14],[15],[16],[1,9,11,17],[18]] (by kernel_rfl)
  Ip
  Vp
  (fun j W W'=>match j with
   |19=>Touch (fun z=>z=w.heap.size+1) W W'
   |_=>Below W.heap.size W W')
  [fun x=>⟨(fZm 2 (.pointer (some ⟨w.heap.size,0,none⟩)) (fEm 3)).toArray,[]⟩,fun x=>⟨(fZm 5 (x 0) (fEm 1)).toArray,[]⟩,fun x=>⟨(fZm 2 (.pointer (some ⟨w.heap.size,0,none⟩)) (fEm 5)).toArray,[]⟩,fun x=>⟨(fZm 7 (x 2) (fEm 1)).toArray,[]⟩,fun x=>⟨(fZm 2 (.pointer (some ⟨w.heap.size,0,none⟩)) (fEm 7)).toArray,[]⟩,fun x=>⟨(fZm 9 (x 4) (fEm 1)).toArray,[]⟩,fun x=>⟨(fZm 10 (x 5) (fEm 1)).toArray,[]⟩,fun x=>⟨(fZm 8 (x 3) (fZm 2 (x 6) (fEm 1))).toArray,[]⟩,fun x=>⟨(fZm 1 (.int .i64 (ix:Int)) (fEm 12)).toArray,[]⟩,fun x=>⟨(fZm 12 (x 7) (fZm 0 (x 8) (fEm 1))).toArray,[]⟩,fun x=>⟨(fZm 2 (.pointer (some ⟨w.heap.size,0,none⟩)) (fEm 13)).toArray,[]⟩,fun x=>⟨(fZm 15 (x 10) (fEm 1)).toArray,[]⟩,fun x=>⟨(fZm 2 (.pointer (some ⟨w.heap.size,0,none⟩)) (fEm 15)).toArray,[]⟩,fun x=>⟨(fZm 17 (x 12) (fEm 1)).toArray,[]⟩,fun x=>⟨(fZm 1 (.int .i64 (ix:Int)) (fEm 18)).toArray,[]⟩,fun x=>⟨(fZm 18 (x 13) (fZm 0 (x 14) (fEm 1))).toArray,[]⟩,fun x=>⟨(fZm 20 (x 15) (fEm 1)).toArray,[]⟩,fun x=>⟨(fZm 21 (x 16) (fEm 1)).toArray,[]⟩,fun x=>⟨(fZm 6 (x 1) (fZm 7 (x 9) (fZm 1 (x 11) (fZm 5 (x 17) (fEm 1))))).toArray,[]⟩,fun x=>⟨(fZm 4 (.pointer (some ⟨w.heap.size+1,0,none⟩)) (fZm 18 (x 18) [])).toArray,[]⟩]
  ?hF ?mono ?h0 ?step [0,1,2,3,4,5,6,7,8,9,10,11,12,13,14,15,16,17,18,19] (by kernel_rfl) ?fin
 case hF=>
  iterate 20 refine⟨fun x=>⟨by kernel_rfl,by kernel_rfl⟩,?_⟩
  trivial
 case mono=>
  intro i j hi hj hne hna hnk v W W' hE hv;rw[HV.out]at hv⊢;simp only[List.length_cons,List.length_nil]at hi hj
  match i,hi with
  |0,_|1,_|2,_|3,_|4,_|5,_|6,_|7,_|8,_|9,_|10,_|11,_|12,_|13,_|14,_|15,_|16,_|19,_=>exact hv
  |17,_=>
   match j,hj with
   |17,_=>exact absurd rfl hne
   |12,_|13,_|14,_|15,_|16,_=>exact absurd (by simp) hna
   |0,_|1,_|2,_|3,_|4,_|5,_|6,_|7,_|8,_|9,_|10,_|11,_|18,_=>exact(by obtain⟨a,c,h1,h2⟩:=hv;exact⟨a,c,h1,h2.freshB hE⟩)
   |19,_=>exact(by obtain⟨a,c,h1,h2⟩:=hv;exact⟨a,c,h1,h2.freshT hE (fun k hk=>by omega)⟩)
   |m+20,h=>exact absurd h (by omega)
  |18,_=>
   match j,hj with
   |18,_=>exact absurd rfl hne
   |0,_|1,_|2,_|3,_|4,_|5,_|6,_|7,_|8,_|9,_|10,_|11,_|12,_|13,_|14,_|15,_|16,_|17,_=>exact absurd (by simp) hna
   |19,_=>exact(by obtain⟨a,c,h1,h2⟩:=hv;exact⟨a,c,h1,h2.freshT hE (fun k hk=>by omega)⟩)
   |m+20,h=>exact absurd h (by omega)
  |m+20,h=>exact absurd h (by omega)
 case h0=>intro x;exact toI HIp ⟨HB.out.drew,(Touch.refl _ _).drew,fun _=>Y1.out,fun h=>by cases h⟩
 case step=>
  refine⟨?_,?_,?_,?_,?_,?_,?_,?_,?_,?_,?_,?_,?_,?_,?_,?_,?_,?_,?_,?_,trivial⟩
  all_goals
   intro x W L hI hL hV;replace hI:(Below w.heap.size w W∧Touch (fun z=>z=w.heap.size+1) w1 W∧(L 19=false→Blk (w.heap.size+1) (.cells #[.int .i64 0,.int .i64 0,.bool false,.int .i64 0,.int .i64 0,.int .i64 0,.int .i64 0,.slice none 0 0,.string noText] 46 (0,0)) W)∧(L 19=true→∃a c,Blk (w.heap.size+1) (.cells #[.int .i64 ep,.int .i64 nu,.bool false,.int .i64 he,.int .i64 fk,.int .i64 fh,.int .i64 fe,.slice a o.length c,.string ft] 46 (0,0)) W∧RdS (fun b=>w1.heap.size≤b∧b<W.heap.size) W o a o.length c)):=ofI HIp hI;rw[HV.out]at hV;simp only[AllV,and_true]at hV;dsimp only[fZm,fEm,List.reduceReplicate,List.cons_append,List.nil_append]
  ·clear hV;have HI:=Lib.hid hI;clear hI;go_wp2_with fail;refine step3_done rfl ?_ ?_ ?_
   ·exact(toI HIp HI.out)
   ·exact(Below.refl _ _)
   ·exact(toV HV rfl)
  ·have u0:=hV;clear hV;simp only[u0];clear u0;have bF:=(X1.out).touch hI.2.1 (by omega);obtain⟨q0,q1,q2,q3,q4⟩:=blk_cells5 bF;have HI:=Lib.hid hI;clear hI bF;go_wp2_with fail;refine step3_done rfl ?_ ?_ ?_
   ·exact(toI HIp HI.out)
   ·exact(Below.refl _ _)
   ·exact(toV HV rfl)
  ·clear hV;have HI:=Lib.hid hI;clear hI;go_wp2_with fail;refine step3_done rfl ?_ ?_ ?_
   ·exact(toI HIp HI.out)
   ·exact(Below.refl _ _)
   ·exact(toV HV rfl)
  ·have u2:=hV;clear hV;simp only[u2];clear u2;have bF:=(X1.out).touch hI.2.1 (by omega);obtain⟨q0,q1,q2,q3,q4⟩:=blk_cells5 bF;have HI:=Lib.hid hI;clear hI bF;go_wp2_with fail;refine step3_done rfl ?_ ?_ ?_
   ·exact(toI HIp HI.out)
   ·exact(Below.refl _ _)
   ·exact(toV HV rfl)
  ·clear hV;have HI:=Lib.hid hI;clear hI;go_wp2_with fail;refine step3_done rfl ?_ ?_ ?_
   ·exact(toI HIp HI.out)
   ·exact(Below.refl _ _)
   ·exact(toV HV rfl)
  ·have u4:=hV;clear hV;simp only[u4];clear u4;have bF:=(X1.out).touch hI.2.1 (by omega);obtain⟨q0,q1,q2,q3,q4⟩:=blk_cells5 bF;have HI:=Lib.hid hI;clear hI bF;go_wp2_with fail;refine step3_done rfl ?_ ?_ ?_
   ·exact(toI HIp HI.out)
   ·exact(Below.refl _ _)
   ·exact(toV HV rfl)
  ·have u5:=hV;clear hV;simp only[u5];clear u5;have HI:=Lib.hid hI;clear hI;go_wp2_with fail;refine step3_done rfl ?_ ?_ ?_
   ·exact(toI HIp HI.out)
   ·exact(Below.refl _ _)
   ·exact(toV HV rfl)
  ·obtain⟨u3,u6⟩:=hV;simp only[u3,u6];clear u3 u6;have HI:=Lib.hid hI;have hsub:=Hsub.out;clear hI;go_wp2_with fail;refine step3_done rfl ?_ ?_ ?_
   ·exact(toI HIp HI.out)
   ·exact(Below.refl _ _)
   ·exact(toV HV rfl)
  ·clear hV;have HI:=Lib.hid hI;clear hI;go_wp2_with fail;refine step3_done rfl ?_ ?_ ?_
   ·exact(toI HIp HI.out)
   ·exact(Below.refl _ _)
   ·exact(toV HV rfl)
  ·obtain⟨u7,u8⟩:=hV;simp only[u7,u8];clear u7 u8;have HI:=Lib.hid hI;have hadd:=Hadd.out;clear hI;go_wp2_with fail;refine step3_done rfl ?_ ?_ ?_
   ·exact(toI HIp HI.out)
   ·exact(Below.refl _ _)
   ·exact(toV HV rfl)
  ·clear hV;have HI:=Lib.hid hI;clear hI;go_wp2_with fail;refine step3_done rfl ?_ ?_ ?_
   ·exact(toI HIp HI.out)
   ·exact(Below.refl _ _)
   ·exact(toV HV rfl)
  ·have u10:=hV;clear hV;simp only[u10];clear u10;have bF:=(X1.out).touch hI.2.1 (by omega);obtain⟨q0,q1,q2,q3,q4⟩:=blk_cells5 bF;have HI:=Lib.hid hI;clear hI bF;go_wp2_with fail;refine step3_done rfl ?_ ?_ ?_
   ·exact(toI HIp HI.out)
   ·exact(Below.refl _ _)
   ·exact(toV HV rfl)
  ·clear hV;have HI:=Lib.hid hI;clear hI;go_wp2_with fail;refine step3_done rfl ?_ ?_ ?_
   ·exact(toI HIp HI.out)
   ·exact(Below.refl _ _)
   ·exact(toV HV rfl)
  ·have u12:=hV;clear hV;simp only[u12];clear u12;have bF:=(X1.out).touch hI.2.1 (by omega);obtain⟨q0,q1,q2,q3,q4⟩:=blk_cells5 bF;have HI:=Lib.hid hI;clear hI bF;go_wp2_with fail;refine step3_done rfl ?_ ?_ ?_
   ·exact(toI HIp HI.out)
   ·exact(Below.refl _ _)
   ·exact(toV HV rfl)
  ·clear hV;have HI:=Lib.hid hI;clear hI;go_wp2_with fail;refine step3_done rfl ?_ ?_ ?_
   ·exact(toI HIp HI.out)
   ·exact(Below.refl _ _)
   ·exact(toV HV rfl)
  ·obtain⟨u13,u14⟩:=hV;simp only[u13,u14];clear u13 u14;have HI:=Lib.hid hI;clear hI;go_wp2_with fail;refine step3_done rfl ?_ ?_ ?_
   ·exact(toI HIp HI.out)
   ·exact(Below.refl _ _)
   ·exact(toV HV rfl)
  ·have u15:=hV;clear hV;simp only[u15];clear u15;have e0:=(hI.1.cell (p:=⟨g,off+ix*5,none⟩) hbs).trans d0;have e1:=(hI.1.cell (p:=⟨g,off+ix*5+1,none⟩) hbs).trans d1;have e2:=(hI.1.cell (p:=⟨g,off+ix*5+1+1,none⟩) hbs).trans d2;have e3:=(hI.1.cell (p:=⟨g,off+ix*5+1+1+1,none⟩) hbs).trans d3;have e4:=(hI.1.cell (p:=⟨g,off+ix*5+1+1+1+1,none⟩) hbs).trans d4;have HI:=Lib.hid hI;clear hI;go_wp2_with fail;refine step3_done rfl ?_ ?_ ?_
   ·exact(toI HIp HI.out)
   ·exact(Below.refl _ _)
   ·exact(toV HV rfl)
  ·have u16:=hV;clear hV;simp only[u16];clear u16;have HI:=Lib.hid hI;have HL:=Lib.hid hL;clear hI hL;go_wp2_with fail;obtain⟨i1,i2,i3,i4⟩:=HI.out;refine(Hcl.out W i1).mono ?_;rintro e W' ⟨a',c',rfl,hrd,uW⟩;have hsz:=i2.size;have HP:=Lib.hid (And.intro (upper i1 uW i1.size) (And.intro (i2.below uW hsz) (fun h:L 19=false=>(i3 h).go uW)));have HR3:Hid (RdS (fun b=>w1.heap.size≤b∧b<W'.heap.size) W' o a' o.length c'):=hrd.mono fun b hb=>⟨⟨by omega,hb.2⟩,rfl⟩;have HU:=Lib.hid uW;clear i1 i2 i3 i4 hrd uW HI;go_wp2_with fail;refine step3_done rfl ?_ ?_ ?_
   ·exact(toI HIp ⟨HP.out.1,HP.out.2.1,HP.out.2.2,fun h:L 19=true=>absurd ((HL.out.2 19 (by simp)).symm.trans h) (by simp)⟩)
   ·exact HU.out
   ·exact(toV HV ⟨_,_,rfl,HR3.out⟩)
  ·obtain⟨u1,u9,u11,⟨a17,c17,u17,r17⟩⟩:=hV;simp only[u1,u9,u11,u17];have U17:=Lib.hid u17;clear u1 u9 u11 u17;have HI:=Lib.hid hI;have R17:=Lib.hid r17;clear hI r17;go_wp2_with fail;refine step3_done rfl ?_ ?_ ?_
   ·exact(toI HIp HI.out)
   ·exact(Below.refl _ _)
   ·exact(toV HV ⟨_,_,rfl,R17.out⟩)
  ·obtain⟨a18,c18,u18,r18⟩:=hV;simp only[u18];have U18:=Lib.hid u18;clear u18;have b7:=hI.2.2.1 (hL.2 19 (by simp));obtain⟨q0,q1,q2,q3,q4,q5,q6,q7,q8⟩:=blk9_cells b7;have fW:=b7.frozen;have HI:=Lib.hid hI;have B7:=Lib.hid (blk9_set b7 (.int .i64 ep) (.int .i64 nu) (.bool false) (.int .i64 he) (.int .i64 fk) (.int .i64 fh) (.int .i64 fe) (.slice a18 o.length c18) (.string ft));have HT:=Lib.hid (touch9' W (w.heap.size+1) (.int .i64 ep) (.int .i64 nu) (.bool false) (.int .i64 he) (.int .i64 fk) (.int .i64 fh) (.int .i64 fe) (.slice a18 o.length c18) (.string ft));have R18:=Lib.hid r18;have hzW:=b7.lt;clear hI b7 r18;go_wp2_with fail;obtain⟨i1,i2,i3,i4⟩:=HI.out;exact step3_done (v:=undef) rfl (toI HIp ⟨i1.trans (HT.out.toBelow (by omega) (fun k hk=>by omega)),i2.then_ HT.out (fun k _ hk=>hk),(fun h=>absurd h (by simp[setB])),fun _=>⟨_,_,B7.out,R18.out.freshT HT.out (fun k hk=>by omega)⟩⟩) HT.out (toV HV rfl)
 case fin=>
  intro x W L hL hI hV;replace hI:(Below w.heap.size w W∧Touch (fun z=>z=w.heap.size+1) w1 W∧(L 19=false→Blk (w.heap.size+1) (.cells #[.int .i64 0,.int .i64 0,.bool false,.int .i64 0,.int .i64 0,.int .i64 0,.int .i64 0,.slice none 0 0,.string noText] 46 (0,0)) W)∧(L 19=true→∃a c,Blk (w.heap.size+1) (.cells #[.int .i64 ep,.int .i64 nu,.bool false,.int .i64 he,.int .i64 fk,.int .i64 fh,.int .i64 fe,.slice a o.length c,.string ft] 46 (0,0)) W∧RdS (fun b=>w1.heap.size≤b∧b<W.heap.size) W o a o.length c)):=ofI HIp hI;rw[HV.out]at hV;simp only[AllV,and_true]at hV;obtain⟨u0,u1,u2,u3,u4,u5,u6,u7,u8,u9,u10,u11,u12,u13,u14,u15,u16,⟨a17,c17,u17,r17⟩,⟨a18,c18,u18,r18⟩,u19⟩:=hV;simp only[getsD,List.getD_cons_succ,List.getD_cons_zero,List.length_cons,List.length_nil,List.range,List.range.loop,u0,u1,u2,u3,u4,u5,u6,u7,u8,u9,u10,u11,u12,u13,u14,u15,u16,u17,u18,u19,Act.put,List.setIfInBounds_toArray,List.set_cons_succ,List.set_cons_zero];clear u0 u1 u2 u3 u4 u5 u6 u7 u8 u9 u10 u11 u12 u13 u14 u15 u16 u17 u18 u19;clear r17 r18;obtain⟨i1,i2,i3,i4⟩:=hI;obtain⟨a',c',g1,g2⟩:=i4 (hL 19 (by simp));have G:=Lib.hid (Hend.out a' c' W (g2.mono fun b hb=>⟨⟨by omega,hb.2⟩,rfl⟩) i1);obtain⟨k0,k1,k2,k3,k4,k5,k6,k7,k8⟩:=blk9_cells g1;clear i1 i2 i3 i4 g1 g2 hL;go_wp2_with fail;refine bodyPost_ret (v:=.agg #[.int .i64 ep,.int .i64 nu,.bool false,.int .i64 he,.int .i64 fk,.int .i64 fh,.int .i64 fe,.slice a' o.length c',.string ft]) (by simp[results,Tryd.results95,go_sem,k0,k1,k2,k3,k4,k5,k6,k7,k8]) rfl G.out
end Go.Proofs.YtkbfhgcjimfgkaaDoor
