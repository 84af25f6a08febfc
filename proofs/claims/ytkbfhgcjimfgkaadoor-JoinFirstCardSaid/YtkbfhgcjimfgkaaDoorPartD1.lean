/- An operation of raw things lies in new memory. -/
import Derived.Test.YtkbfhgcjimfgkaaDoorPartD0
import Derived.Test.YtkbfhgcjimfgkaaDoorPartA7
import Derived.Test.YtkbfhgcjimfgkaaDoorPartA6
set_option linter.unusedVariables false
set_option linter.unusedSimpArgs false
set_option linter.unusedSimpArgs false
namespace Go.Proofs.YtkbfhgcjimfgkaaDoor
open Go.RowKit
set_option maxRecDepth 100000 in
set_option maxHeartbeats 8000000 in
theorem edit_ok (t:List Int)(ta:Option Addr)(tn tc:Nat)(n:Nd)(a:Option Addr)(c:Nat)(ua:Option Addr)(uc:Nat)(ma:Option Addr)(mc:Nat)(o:Op)(oa:Option Addr)(oc:Nat)(b:Int)(w:World)(hg:Good w)(ht:RdS (· <w.heap.size) w t ta tn tc)
 (h1:RdS (· <w.heap.size) w n.sides a n.sides.length c) (h2:RdS (· <w.heap.size) w n.undo ua n.undo.length uc) (h3:RdS (· <w.heap.size) w n.marks ma n.marks.length mc) (hf:n.fits) (ho:RdS (· <w.heap.size) w o oa o.length oc) (hG:NdGood t n) (hB:NdB b n) (hb:b<1000000) (hE:editE n o=0):
 Calls Tryd.prog 16 #[.slice ta tn tc,.agg #[.int .i64 n.me,.int .i64 n.epoch,.int .i64 n.up,.bool n.ready,.string n.text,.slice a n.sides.length c,.slice ua n.undo.length uc,.slice ma n.marks.length mc],.slice oa o.length oc] w (TurnP (editT n o) w):=by
 obtain⟨e1,e2,e3⟩:=editE_zero hE;have HBg:=Lib.hid (fun W (hW:Below w.heap.size w W)=>ndBegin_good t ta tn tc n a c ua uc ma mc W (hg.go hW) (ht.go hW) (h1.go hW) (h2.go hW) (h3.go hW) hf hG (hB.queue hG hb));have HEd:=Lib.hid (fun base g vs W (hg:Good W)(hM:WkM base g ⟨n,[],[]⟩ vs W)(hr:RdS (NM g vs W) W o oa o.length oc)=>ndEdit_go (n:=n) (u:=n.undo) rfl hg hM hr hG hB hb e1 e2 e3);have Hnm:=Lib.hid (fun base g vs W (hM:WkM base g ⟨n,[],[]⟩ vs W)(h1:w.heap.size≤base)(h2:Below w.heap.size w W)=>hM.nm ho h2 h1);have Hg:=Lib.hid hg;have hgz:=hg.size;have HNP:=Lib.hid (fun g W=>node_ptr g W);obtain⟨BK,hBK⟩:∃BK,Hid (BK=invO n.text o):=⟨_,rfl⟩;rw[←hBK.out]at HEd;obtain⟨i0,hi,hz0,hz1,hz2⟩:=info_parts infoO;have Hi:=Lib.hid hi;have Hz0:=Lib.hid hz0;have Hz1:=Lib.hid hz1;have Hz2:=Lib.hid hz2;obtain⟨TT,hTT⟩:∃TT,Hid (TT=editT n o):=⟨_,rfl⟩;rw[←hTT.out];obtain⟨TE,hTE⟩:∃TE,Hid (TE=(⟨n,[],[]⟩:Tn).edited o):=⟨_,rfl⟩;have hul:TE.node.undo=n.undo:=by
  obtain⟨ss,q1,-⟩:=edited_node n n.undo o;have q2:=congrArg Nd.undo q1;rw[hTE.out];exact q2
 have hu12:=(undoOk_all hG.undo).2;have HTT:Hid (TT=TE.setUndo (pushed n.undo BK)):=by
  unfold Hid;rw[hTT.out,hBK.out,←hul,hTE.out];rfl
 have hel:Hid (∀base g vs W,WkM base g ⟨n,[],[]⟩ vs W→Good W→RdS (NM g vs W) W o oa o.length oc→Calls Tryd.prog 34 #[.pointer (some ⟨g,0,none⟩),.slice oa o.length oc] W fun e w'=>∃(ba:Option Addr)(bc:Nat),e=.returned (.tuple #[.slice ba BK.length bc,.int .i64 0])∧
  ∃v2,WkM base g TE v2 w'∧Touch (Mine g vs) W w'∧(∀z,Mine g v2 z→Mine g vs z∨W.heap.size≤z)∧RdS (fun z=>z<w'.heap.size∧W.heap.size≤z∧¬Mine g v2 z) w' BK ba BK.length bc):=by
  unfold Hid;intro base g vs W hM hg hr;rw[hTE.out];exact HEd.out base g vs W hg hM hr
 have Hul:=Lib.hid hul;have hpush:Hid (pushed n.undo BK=if 12<n.undo.length+1 then(n.undo++[BK]).drop 1 else n.undo++[BK]):=by
  unfold Hid pushed;rw[List.length_append];rfl
 generalize hUL:n.undo.length=ul at*;have HUL:=Lib.hid hUL;clear hul hTT hTE hBK HEd hi hz0 hz1 hz2 e1 e2 e3 hE ht h1 h2 h3 hf ho hG hB hb hg hUL;go_enter Tryd.func16,Tryd.ntmps16;go_wp2_with fail;refine abs_run (fun W=>Below w.heap.size w W∧Blk (w.heap.size+1) (.cells zeroTn 35 (0,0)) W) ⟨by(repeat (first|exact Below.refl _ _|assumption|(refine Below.drew ?_)|(refine below_drewN ?_ _)|(refine Below.alloc ?_ (by first|(simp;done)|(simp;omega)|omega) _)|(refine Below.setCell ?_ (by first|(simp;done)|(simp;omega)|omega) _)|(refine Below.trans ?_ (Below.mono (by assumption) (by first|(simp;done)|(simp;omega)|omega))))),Blk.at _ _ _ (by simp)⟩ ?_;rintro w1 ⟨b1,x1⟩;have B1:=Lib.hid b1;have X1:=Lib.hid x1;have hx1:=x1.lt;clear b1 x1;refine(HBg.out w1 B1.out).mono ?_;rintro e w2 ⟨g,vs,rfl,m2,b2⟩;have M2:=Lib.hid m2;have B2:=Lib.hid (up B1.out b2);have X2:=Lib.hid (X1.out.go b2);have hz12:=b2.size;clear m2 b2 HBg X1;go_wp2_with fail;refine(hel.out _ _ _ _ M2.out (Hg.out.go B2.out) (Hnm.out _ _ _ _ M2.out (by omega) B2.out)).mono ?_;rintro e w3 ⟨ba,bc,rfl,v2,m3,t3,h3,r3⟩;have M3:=Lib.hid m3;have T3:=Lib.hid (t3.mono fun z _ hz=>(M2.out.mine z hz).1);have R3:=Lib.hid r3;have hgb:=m3.gb;have hgl:=m3.lt;have X3:=Lib.hid (X2.out.touch T3.out (by omega));have B3:=Lib.hid (B2.out.trans (T3.out.toBelow (B:=w.heap.size) (by omega) (fun z hz=>by omega)));have hzB:=B3.out.size;clear m3 t3 h3 r3 hel M2;go_wp2_with fail;refine(HNP.out g w3).mono ?_;rintro e w3' ⟨rfl,rfl⟩;obtain⟨-,-,-,-,-,-,p6,-,-,-⟩:=blk10_cells M3.out.box;obtain⟨u1,hv1⟩:∃u1,Hid (u1=v2 1):=⟨_,rfl⟩;have pf:=M3.out.box.frozen 6;rw[←hv1.out]at p6;have hown1:OwnO (WX w1.heap.size g v2) w1.heap.size u1 n.undo w3:=by rw[hv1.out,←Hul.out];exact M3.out.rows 1 (by omega)
 have HO1:=Lib.hid hown1;have Hy:Hid (Rep.rd (fun z=>z<(w3.alloc (.cells #[.slice ba BK.length bc] 42)).heap.size∧¬WX w1.heap.size g v2 z∧u1.ownBlock≠some z) (w3.alloc (.cells #[.slice ba BK.length bc] 42)) BK [.slice ba BK.length bc]):=by
  refine⟨ba,_,bc,rfl,R3.out.mono fun z hz=>⟨⟨by rw[alloc_sz];omega,fun hx=>?_,fun e=>?_⟩,((Below.refl w3.heap.size w3).alloc (Nat.le_refl _) _).block z hz.1⟩⟩
  ·rcases hx with hx|hx
   ·omega
   ·exact hz.2.2 hx
  ·rw[hv1.out]at e;exact hz.2.2 (.inr ⟨1,by omega,e⟩)
 have hbz:w1.heap.size≤(w3.alloc (.cells #[.slice ba BK.length bc] 42)).heap.size:=by rw[alloc_sz];omega
 have Hbz:=Lib.hid hbz;clear hown1 hbz;go_wp2_with (at_builtin;refine wpList_append_oneO rfl _ _ _ (by rfl) w1.heap.size 42 i0 _ 24 Tryd.underlying28 Hi.out Hz0.out Hz1.out Hz2.out rfl u1 n.undo (by rfl) (HO1.out.go ((Below.refl _ w3).alloc (Nat.le_refl _) _)) w3.heap.size 1 _ [.slice ba BK.length bc] BK (by rfl) (Blk.new w3 _) Hy.out (by rw[HUL.out];unfold maxLen;omega) (by rw[HUL.out];omega) Hbz.out ?_);intro g2 o2 cap w5 hown hgrow hat hlt5;have M4:=Lib.hid (M3.out.go ((Below.refl _ w3).alloc (Nat.le_refl _) (.cells #[.slice ba BK.length bc] 42)));have hsu:=WkG.setUndo (v':=.slice (some ⟨g2,o2,none⟩) (n.undo.length+1) cap) M4.out (by rw[←hv1.out];exact hgrow) (fun k hk=>by
  have e:g2=k:=by simpa[Value.ownBlock]using hk
  subst e;rw[←hv1.out,alloc_sz];exact hat) hown
 obtain⟨k1,k2,k3⟩:=hsu;have K1:=Lib.hid k1;have K2:Hid (Touch (fun z=>w1.heap.size≤z) w2 (w5.setCell ⟨g,6,none⟩ (.slice (some ⟨g2,o2,none⟩) (n.undo.length+1) cap))):=
  (T3.out.alloc _).trans (k2.mono fun z _ hz=>(M4.out.mine z hz).1)
 have HOw:=Lib.hid (hown.go (Below.refl _ _));rw[HUL.out]at K1 K2 HOw;have hM5:=(M4.out.box.grown hgrow (fun e=>M4.out.ne 1 (by omega) g (by rw[←hv1.out];exact e.symm) rfl));obtain⟨-,-,-,-,-,-,p6',-,-,-⟩:=blk10_cells hM5;have pf5:=hM5.frozen 6;have hgl5:=hM5.lt;rw[HUL.out];clear hown hgrow hat hM5 k1 k2 k3 p6 Hy HO1 pf hv1 T3 R3;go_upto_region 9 with fail;generalize hW6:w5.setCell ⟨g,6,none⟩ (.slice (some ⟨g2,o2,none⟩) (ul+1) cap)=w6 at*;obtain⟨-,-,-,-,-,-,p6,-,-,-⟩:=blk10_cells K1.out.box;have pf6:=K1.out.box.frozen 6;have hgl6:=K1.out.lt;simp only[if_true]at p6;clear p6' pf5 hgl5 hlt5;by_cases h12:12<ul+1
 ·have h12':(12:Int)<(ul:Int)+1:=by omega
  have hcap:ul+1≤cap∧cap≤maxLen:=by
   rcases HOw.out.row with⟨a',hv,-⟩|⟨r,q,cp,hv,-,-,z3,z4,-⟩
   ·cases hv
   ·injection hv with e1 e2 e3;subst e3;rw[List.length_append,HUL.out]at z3;exact⟨z3,z4⟩
  have hcap1:(ul:Int)+1≤(cap:Int):=by omega
  have hcap2:(cap:Int)≤9223372036854775807:=by have:=hcap.2;unfold maxLen at this;omega
  have hd:=HOw.out.drop_in (k:=1) (by omega) (by omega);have e6:o2+1*Rep.n Op=o2+1:=by show o2+1*1=o2+1;omega
  rw[e6,Nat.add_sub_cancel]at hd;have hK1:=K1.out;have hd6:OwnO (WX w1.heap.size g fun q=>if q=1 then .slice (some ⟨g2,o2,none⟩) (ul+1) cap else v2 q) w1.heap.size (.slice (some ⟨g2,o2+1,none⟩) ul (cap-1)) ((n.undo++[BK]).drop 1) w6:=by
   have hr:=hK1.rows 1 (by omega);have hr':OwnO (WX w1.heap.size g fun q=>if q=1 then .slice (some ⟨g2,o2,none⟩) (ul+1) cap else v2 q) w1.heap.size (.slice (some ⟨g2,o2,none⟩) (ul+1) cap) (n.undo++[BK]) w6:=hr;have:=hr'.drop_in (k:=1) (by omega) (by omega);rwa[e6,Nat.add_sub_cancel]at this
  obtain⟨k1,k2,k3⟩:=WkG.setUndo (v':=.slice (some ⟨g2,o2+1,none⟩) ul (cap-1)) hK1 (World.grownBy.refl _ _) (fun k hk=>by
   have e:g2=k:=by simpa[Value.ownBlock]using hk
   subst e;exact .inl rfl) hd6
  have eT:(TE.setUndo (n.undo++[BK])).setUndo ((n.undo++[BK]).drop 1)=TT:=by
   rw[HTT.out,hpush.out,if_pos h12];rfl
  rw[eT]at k1;have M9:=Lib.hid k1;have T9:=Lib.hid (K2.out.trans (k2.mono fun z _ hz=>(hK1.mine z hz).1));clear k1 k2 k3 hK1 hd hd6 HOw hW6 K1 K2;go_upto_region 11 with fail;have X9:=X2.out.touch T9.out (by omega);obtain⟨a0,c0,a1,c1,a2,c2,a3,c3,a4,c4,e1,e2,e3,e4⟩:=turn_out M9.out X9 (by omega) (B:=w.heap.size) (by omega) (B2.out.trans (T9.out.toBelow (B:=w.heap.size) (by omega) (fun z hz=>by omega)));obtain⟨p0,p1,p2,p3,p4,p5,p6,p7,p8,p9⟩:=blk10_cells X9;have pf:=X9.frozen;have hz:=X9.lt;obtain⟨q0,q1,q2,q3,q4,q5,q6,q7,q8,q9⟩:=blk10_cells e1;have G:=Lib.hid (And.intro e2 (And.intro e3 e4));clear e1 e2 e3 e4 X9;go_wp2_with fail;refine abs_ret (fun W=>Blk (w.heap.size+1) (.cells #[.int .i64 TT.node.me,.int .i64 TT.node.epoch,.int .i64 TT.node.up,.bool TT.node.ready,.string TT.node.text,.slice a0 TT.node.sides.length c0,.slice a1 TT.node.undo.length c1,.slice a2 TT.node.marks.length c2,.slice a3 TT.posts.length c3,.slice a4 TT.recs.length c4] 35 (0,0)) W∧TnVal (Fresh w.heap.size W) TT (.agg #[.int .i64 TT.node.me,.int .i64 TT.node.epoch,.int .i64 TT.node.up,.bool TT.node.ready,.string TT.node.text,.slice a0 TT.node.sides.length c0,.slice a1 TT.node.undo.length c1,.slice a2 TT.node.marks.length c2,.slice a3 TT.posts.length c3,.slice a4 TT.recs.length c4]) W∧Below w.heap.size w W) G.out ?_;rintro W ⟨y1,y2,y3⟩;obtain⟨k0,k1,k2,k3,k4,k5,k6,k7,k8,k9⟩:=blk10_cells y1;exact bodyPost_ret (v:=.tuple #[.agg #[.int .i64 TT.node.me,.int .i64 TT.node.epoch,.int .i64 TT.node.up,.bool TT.node.ready,.string TT.node.text,.slice a0 TT.node.sides.length c0,.slice a1 TT.node.undo.length c1,.slice a2 TT.node.marks.length c2,.slice a3 TT.posts.length c3,.slice a4 TT.recs.length c4],.int .i64 0]) (by simp[results,Tryd.results16,go_sem,k0,k1,k2,k3,k4,k5,k6,k7,k8,k9]) rfl ⟨_,rfl,y2,y3⟩
 ·have h12':¬((12:Int)<(ul:Int)+1):=by omega
  have eT:TE.setUndo (n.undo++[BK])=TT:=by rw[HTT.out,hpush.out,if_neg h12]
  rw[eT]at K1;have M9:=K1;have T9:=K2;clear HOw hW6 K1;go_upto_region 11 with fail;clear p6 pf6;have X9:=X2.out.touch T9.out (by omega);obtain⟨a0,c0,a1,c1,a2,c2,a3,c3,a4,c4,e1,e2,e3,e4⟩:=turn_out M9.out X9 (by omega) (B:=w.heap.size) (by omega) (B2.out.trans (T9.out.toBelow (B:=w.heap.size) (by omega) (fun z hz=>by omega)));obtain⟨p0,p1,p2,p3,p4,p5,p6,p7,p8,p9⟩:=blk10_cells X9;have pf:=X9.frozen;have hz:=X9.lt;obtain⟨q0,q1,q2,q3,q4,q5,q6,q7,q8,q9⟩:=blk10_cells e1;have G:=Lib.hid (And.intro e2 (And.intro e3 e4));clear e1 e2 e3 e4 X9;go_wp2_with fail;refine abs_ret (fun W=>Blk (w.heap.size+1) (.cells #[.int .i64 TT.node.me,.int .i64 TT.node.epoch,.int .i64 TT.node.up,.bool TT.node.ready,.string TT.node.text,.slice a0 TT.node.sides.length c0,.slice a1 TT.node.undo.length c1,.slice a2 TT.node.marks.length c2,.slice a3 TT.posts.length c3,.slice a4 TT.recs.length c4] 35 (0,0)) W∧TnVal (Fresh w.heap.size W) TT (.agg #[.int .i64 TT.node.me,.int .i64 TT.node.epoch,.int .i64 TT.node.up,.bool TT.node.ready,.string TT.node.text,.slice a0 TT.node.sides.length c0,.slice a1 TT.node.undo.length c1,.slice a2 TT.node.marks.length c2,.slice a3 TT.posts.length c3,.slice a4 TT.recs.length c4]) W∧Below w.heap.size w W) G.out ?_;rintro W ⟨y1,y2,y3⟩;obtain⟨k0,k1,k2,k3,k4,k5,k6,k7,k8,k9⟩:=blk10_cells y1;exact bodyPost_ret (v:=.tuple #[.agg #[.int .i64 TT.node.me,.int .i64 TT.node.epoch,.int .i64 TT.node.up,.bool TT.node.ready,.string TT.node.text,.slice a0 TT.node.sides.length c0,.slice a1 TT.node.undo.length c1,.slice a2 TT.node.marks.length c2,.slice a3 TT.posts.length c3,.slice a4 TT.recs.length c4],.int .i64 0]) (by simp[results,Tryd.results16,go_sem,k0,k1,k2,k3,k4,k5,k6,k7,k8,k9]) rfl ⟨_,rfl,y2,y3⟩
theorem ndEdit_any (t:List Int)(ta:Option Addr)(tn tc:Nat)(n:Nd)(a:Option Addr)(c:Nat)(ua:Option Addr)(uc:Nat)(ma:Option Addr)(mc:Nat)(o:Op)(oa:Option Addr)(oc:Nat)(b:Int)(w:World)(hg:Good w)(ht:RdS (· <w.heap.size) w t ta tn tc)
 (h1:RdS (· <w.heap.size) w n.sides a n.sides.length c) (h2:RdS (· <w.heap.size) w n.undo ua n.undo.length uc) (h3:RdS (· <w.heap.size) w n.marks ma n.marks.length mc) (hf:n.fits) (ho:RdS (· <w.heap.size) w o oa o.length oc) (hG:NdGood t n) (hB:NdB b n) (hb:b<1000000):
 Calls Tryd.prog 16 #[.slice ta tn tc,.agg #[.int .i64 n.me,.int .i64 n.epoch,.int .i64 n.up,.bool n.ready,.string n.text,.slice a n.sides.length c,.slice ua n.undo.length uc,.slice ma n.marks.length mc],.slice oa o.length oc] w (TurnE (editE n o) (editT n o) w):=by
 by_cases hE:editE n o=0
 ·exact(edit_ok t ta tn tc n a c ua uc ma mc o oa oc b w hg ht h1 h2 h3 hf ho hG hB hb hE).mono fun e w' h=>by
   unfold TurnE;rw[if_pos hE];exact h
 ·exact edit_bad t ta tn tc n a c ua uc ma mc o oa oc b w hg ht h1 h2 h3 hf ho hG hB hb hE
end Go.Proofs.YtkbfhgcjimfgkaaDoor
namespace Go.Proofs.YtkbfhgcjimfgkaaDoor
open Go.RowKit
inductive VK where
 |c (v:Value)
 |e (g:(Nat→Value)→Value)
 |p (f:(Nat→Value)→Value→(Nat→Prop)→World→Prop)
def VK.holds:VK→(Nat→Value)→Value→(Nat→Prop)→World→Prop
 |.c u,_,v,_,_=>v=u
 |.e g,x,v,_,_=>v=g x
 |.p f,x,v,A,W=>f x v A W
def VK.isC:VK→Bool
 |.c _=>true
 |.e _=>true
 |.p _=>false
def VK.get:VK→(Nat→Value)→Value→Value
 |.c u,_,_=>u
 |.e g,x,_=>g x
 |.p _,_,v=>v
def VK.mono (N:List Nat):VK→Prop
 |.c _=>True
 |.e g=>∀x x',(∀j∈N,x j=x' j)→g x=g x'
 |.p f=>∀x x' v A A' W W',(∀j∈N,x j=x' j)→(∀b,A b→A' b∧W'.heap[b]?=W.heap[b]?)→f x v A W→f x' v A' W'
def Monos:List (List Nat)→List VK→Prop
 |_::Ns,.c _::ks=>Monos Ns ks
 |N::Ns,.e g::ks=>VK.mono N (.e g)∧Monos Ns ks
 |N::Ns,.p f::ks=>VK.mono N (.p f)∧Monos Ns ks
 |_,_=>True
inductive OK where
 |q
 |n (F:(Nat→Value)→Act)
 |b (k:Nat) (F:(Nat→Value)→Act)
 |s (F:(Nat→Value)→Act)
 |l (F:(Nat→Value)→Act)
def OK.tgt:OK→Option Nat
 |.b k _=>some k
 |_=>none
def OK.isQ:OK→Bool
 |.q=>true
 |_=>false
def OK.isS:OK→Bool
 |.s _=>true
 |_=>false
def OK.isL:OK→Bool
 |.l _=>true
 |_=>false
def kAt (Vs:List VK)(j:Nat):VK:=Vs.getD j (.c undef)
def xc (Vs:List VK)(x:Nat→Value):Nat→Value:=fun j=>(kAt Vs j).get x (x j)
def AllF (Vs:List VK)(x:Nat→Value)(A:Nat→Nat→Prop)(W:World):List Nat→Prop
 |[]=>True
 |j::r=>(kAt Vs j).holds x (x j) (A j) W∧AllF Vs x A W r
theorem allF_of {Vs:List VK}{x:Nat→Value}{A:Nat→Nat→Prop}{W:World}:∀{l:List Nat},(∀j∈l,(kAt Vs j).holds x (x j) (A j) W)→AllF Vs x A W l
 |[],_=>trivial
 |j::_,h=>⟨h j (List.mem_cons_self ..),allF_of fun k hk=>h k (List.mem_cons_of_mem _ hk)⟩
def getsC (x:Nat→Value):Nat→List (Option Tmp)→List VK→Act→Act
 |i,d::D,k::ks,a=>getsC x (i+1) D ks (a.put d (k.get x (x i)))
 |_,_,_,a=>a
section
variable {P:Program} {ops:Array Oper}
def PureStep (P:Program)(ops:Array Oper)(a:Act)(o:Oper)(u:Value):Prop:=
 (Region.wanted o (yielded ops a.tmps)=true∧∀W,(execOp a.eval o).run P W=.ok (.value u) W)∨(Region.wanted o (yielded ops a.tmps)=false∧u=undef)
def Pures (P:Program)(ops:Array Oper)(D:List (Option Tmp))(a0:Act)(Vs:List VK):List (List Nat)→List VK→List OK→List Oper→Prop
 |A::As,k::ks,.q::T,o::l=>(∀x,PureStep P ops (getsD D (xc Vs x) a0 A) o (k.get x undef))∧Pures P ops D a0 Vs As ks T l
 |_::As,_::ks,_::T,_::l=>Pures P ops D a0 Vs As ks T l
 |_,_,_,_=>True
def FrOne (ops:Array Oper)(D:List (Option Tmp))(a0:Act)(Vs:List VK)(A:List Nat)(F:(Nat→Value)→Act)(o:Oper):Prop:=
 ∀x:Nat→Value,(o.looksAt ops).map (fun d=>(getsD D (xc Vs x) a0 A).tmps[d]?)=(o.looksAt ops).map (fun d=>(F x).tmps[d]?)∧(match o.dst with|some d=>decide (d<(F x).tmps.size)|none=>true)=true
def Fr5 (ops:Array Oper)(D:List (Option Tmp))(a0:Act)(Vs:List VK):List (List Nat)→List OK→List Oper→Prop
 |A::As,.n F::T,o::l=>FrOne ops D a0 Vs A F o∧Fr5 ops D a0 Vs As T l
 |A::As,.b _ F::T,o::l=>FrOne ops D a0 Vs A F o∧Fr5 ops D a0 Vs As T l
 |A::As,.s F::T,o::l=>FrOne ops D a0 Vs A F o∧Fr5 ops D a0 Vs As T l
 |A::As,.l F::T,o::l=>FrOne ops D a0 Vs A F o∧Fr5 ops D a0 Vs As T l
 |_::As,.q::T,_::l=>Fr5 ops D a0 Vs As T l
 |_,_,_=>True
def New (S:Nat→Prop)(B:Nat)(sr:Bool)(N:List Nat)(A:Nat→Nat→Prop)(W W':World)(b:Nat):Prop:=
 (b<B∧(S b→sr=true))∨(W.heap.size≤b∧b<W'.heap.size)∨∃j∈N,A j b
def Po5 (F:Act)(d:Option Tmp)(G:Value→World→Prop):Exit→Act→World→Prop:=fun ex a' w'=>ex=.normal∧∃v,a'=F.put d v∧G v w'
theorem done5 {F a':Act}{d:Option Tmp}{G:Value→World→Prop}{v:Value}{w':World}(he:a'=F.put d v)(h:G v w'):Po5 F d G .normal a' w':=⟨rfl,v,he,h⟩
def Pre5 (S:Nat→Prop)(w0:World)(Vs:List VK)(N:List Nat)(x:Nat→Value)(A:Nat→Nat→Prop)(W:World):Prop:=
 Touch S w0 W∧(∀j∈N,∀b,A j b→b<W.heap.size)∧AllF Vs x A W N
def Arms (P:Program)(ops:Array Oper)(S:Nat→Prop)(w0:World)(R:World→Prop)(Vs:List VK)(As:List (List Nat))(SR:List Nat):Nat→List (List Nat)→List VK→List OK→List Oper→Prop
 |i,N::Ns,k::ks,.n F::T,o::l=>(∀x A W,Pre5 S w0 Vs N x A W→wpList P ops (Po5 (F x) o.dst fun v W'=>Below W.heap.size W W'∧k.holds x v (New S w0.heap.size (SR.contains i) N A W W') W') [o] (F x) W)∧Arms P ops S w0 R Vs As SR (i+1) Ns ks T l
 |i,N::Ns,k::ks,.b t F::T,o::l=>(∀x A W,Pre5 S w0 Vs N x A W→(∀b,A t b→w0.heap.size≤b→∀j∈N,j≠t→(As.getD j []).contains t=false→¬A j b)→wpList P ops (Po5 (F x) o.dst fun v W'=>(∃b,A t b∧w0.heap.size≤b∧Touch (fun z=>z=b) W W')∧W'.heap.size=W.heap.size∧k.holds x v (New S w0.heap.size (SR.contains i) N A W W) W') [o] (F x) W)∧Arms P ops S w0 R Vs As SR (i+1) Ns ks T l
 |i,N::Ns,k::ks,.s F::T,o::l=>(∀x A W,Pre5 S w0 Vs N x A W→wpList P ops (Po5 (F x) o.dst fun v W'=>Touch S W W'∧k.holds x v (New S w0.heap.size (SR.contains i) N A W W') W') [o] (F x) W)∧Arms P ops S w0 R Vs As SR (i+1) Ns ks T l
 |i,N::Ns,_::ks,.l F::T,o::l=>(∀x A W,Pre5 S w0 Vs N x A W→wpList P ops (Po5 (F x) o.dst fun _ W'=>R W') [o] (F x) W)∧Arms P ops S w0 R Vs As SR (i+1) Ns ks T l
 |i,_::Ns,_::ks,.q::T,_::l=>Arms P ops S w0 R Vs As SR (i+1) Ns ks T l
 |_,_,_,_,_=>True
def tAt (T:List OK)(i:Nat):OK:=T.getD i .q
def liveFor (n:Nat)(A:List (List Nat))(T:List OK)(j i:Nat):Bool:=(List.range n).all fun k=>(tAt T k).tgt !=some j||k==i||(A.getD k []).contains i
def chk (n:Nat)(A N:List (List Nat))(T:List OK)(Vs:List VK)(SR:List Nat):Bool:=
 (A.length==n&&N.length==n&&T.length==n&&Vs.length==n)&&(List.range n).all fun i=>
  ((N.getD i []).all fun j=>(A.getD i []).contains j&&liveFor n A T j i)&&
  ((A.getD i []).all fun j=>decide (j<i)&&((A.getD j []).all fun k=>(A.getD i []).contains k)&&(!SR.contains j||SR.contains i))&&
  (!(tAt T i).isQ||(kAt Vs i).isC)&&
  (match(tAt T i).tgt with
   |none=>true
   |some t=>(N.getD i []).contains t&&(A.getD t []).isEmpty&&!SR.contains t&&!(kAt Vs t).isC&&(List.range n).all fun j=>j==i||j==t||(kAt Vs j).isC||(A.getD j []).contains i||!(A.getD j []).contains t)&&
  (!SR.contains i||(tAt T i).isS||(A.getD i []).any fun j=>(tAt T j).isS)&&
  (!(tAt T i).isS||(SR.contains i&&(List.range n).all fun j=>j==i||!(tAt T j).isS))&&
  (!(tAt T i).isL||(i+1==n&&(List.range n).all fun j=>j==i||(A.getD i []).contains j))
theorem step_to {o:Oper}(hs:∀cs b,o.op≠.select cs b){a F:Act}{w:World}(hz:∀d,o.dst=some d→d<F.tmps.size)(h:∀d∈o.looksAt ops,a.tmps[d]?=F.tmps[d]?){G Z:Value→World→Prop}(hGZ:∀v w',G v w'→Z v w')(hstep:wpList P ops (Po5 F o.dst G) [o] F w):wpList P ops (Po5 a o.dst Z) [o] a w:=by
 have key:∀v w',(∃u,F.put o.dst v=F.put o.dst u∧G u w')→Po5 a o.dst Z .normal (a.put o.dst v) w':=by
  rintro v w' ⟨u,he,h1⟩;refine⟨rfl,u,?_,hGZ u w' h1⟩;cases hd:o.dst with
  |none=>rfl
  |some d=>
   rw[hd]at he;have hlt:=hz d hd;have h4:=congrArg (fun c=>c.tmps[d]?) he;simp[Act.put,hlt]at h4;rw[h4]
 unfold wpList at hstep⊢;rw[wanted_same h];by_cases hw:Region.wanted o (yielded ops F.tmps)=true
 ·simp only[hw,if_true]at hstep⊢;rcases hstep with hstep|⟨_,a',w',hl⟩
  ·refine .inl ?_;unfold Oper.wp at hstep⊢;rw[execOp_congr o hs (eval_same h)];generalize (execOp F.eval o).run P w=r at*;cases r with
   |ok n w'=>
    cases n<;>simp only[Oper.upon,wpList]at hstep⊢
    case value v=>obtain⟨_,u,h1,h2⟩:=hstep;exact key v w' ⟨u,h1,h2⟩
    case skip=>obtain⟨_,u,h1,h2⟩:=hstep;exact key undef w' ⟨u,h1,h2⟩
    case defer d=>
     obtain⟨_,v,he,_⟩:=hstep;have h1:=congrArg Act.defers he;rw[put_defers,put_defers]at h1;exact absurd h1 (by simp)
    case enter f args=>
     refine Calls.mono hstep fun e w'' he=>?_;cases e with
     |returned v=>obtain⟨_,u,h1,h2⟩:=he;exact key v w'' ⟨u,h1,h2⟩
     |panicked c=>exact absurd he.1 (by simp)
     |outgrown=>obtain⟨a',w',he,_⟩:=he;exact absurd he (by simp)
    case row row args=>exact Rows.mono hstep fun v w'' he=>by obtain⟨_,u,h1,h2⟩:=he;exact key v w'' ⟨u,h1,h2⟩
   |halt x w'=>
    cases x<;>simp only[Oper.upon]at hstep⊢
    case panic u=>exact absurd hstep.1 (by simp)
  ·exact absurd hl.1 (by simp)
 ·simp only[hw]at hstep⊢;simp only[wpList]at hstep⊢;obtain⟨_,u,h1,h2⟩:=hstep;exact key undef w ⟨u,h1,h2⟩
theorem step_pure {o:Oper}{a:Act}{u:Value}{W:World}{G:Value→World→Prop}(h:PureStep P ops a o u)(hG:G u W):wpList P ops (Po5 a o.dst G) [o] a W:=by
 unfold wpList;rcases h with⟨h1,h2⟩|⟨h1,rfl⟩
 ·simp only[h1,if_true];refine .inl ?_;unfold Oper.wp;rw[h2 W];simp only[Oper.upon,wpList];exact⟨rfl,u,rfl,hG⟩
 ·simp only[h1];simp only[wpList];exact⟨rfl,undef,rfl,hG⟩
def St (n:Nat)(As:List (List Nat))(T:List OK)(Vs:List VK)(SR:List Nat)(S:Nat→Prop)(w0:World)(A C:Nat→Nat→Prop)(L:Nat→Bool)(x:Nat→Value)(W:World):Prop:=
 Touch S w0 W∧(∀i,L i=true→i<n∧∀j∈As.getD i [],L j=true)∧(∀i,L i=true→(∀k,k<n→(tAt T k).tgt=some i→L k=false)→(kAt Vs i).holds x (x i) (A i) W)∧
 (∀i b,L i=true→A i b→(b<w0.heap.size∧(S b→i∈SR))∨∃j,(j=i∨j∈As.getD i [])∧C j b)∧(∀i b,L i=true→C i b→w0.heap.size≤b∧b<W.heap.size)∧(∀i j b,L i=true→L j=true→C i b→C j b→i=j)
theorem mono_at:∀{Ns:List (List Nat)}{ks:List VK}{i:Nat},Monos Ns ks→i<Ns.length→i<ks.length→(kAt ks i).mono (Ns.getD i [])
 |_::_,k::_,0,h,_,_=>by
  cases k
  ·trivial
  all_goals exact h.1
 |_::Ns,k::ks,i+1,h,h1,h2=>by
  have h':Monos Ns ks:=by
   cases k
   ·exact h
   all_goals exact h.2
  exact mono_at (i:=i) h' (by simpa using h1) (by simpa using h2)
 |[],_,_,_,h,_=>by simp at h
 |_::_,[],_,_,_,h=>by simp at h
theorem VK.holds_mono {k:VK}{N:List Nat}(hm:k.mono N){x x':Nat→Value}{v:Value}{A A':Nat→Prop}{W W':World}(hx:∀j∈N,x j=x' j)(hA:k.isC=false→∀b,A b→A' b∧W'.heap[b]?=W.heap[b]?)(h:k.holds x v A W):k.holds x' v A' W':=by
 cases k with
 |c u=>exact h
 |e g=>exact(show v=g x from h).trans (hm x x' hx)
 |p f=>exact hm x x' v A A' W W' hx (hA rfl) h
section
variable {n:Nat} {As Ns:List (List Nat)} {T:List OK} {Vs:List VK} {SR:List Nat} {S:Nat→Prop} {w0:World} {A C:Nat→Nat→Prop} {L:Nat→Bool} {x:Nat→Value} {W W':World} {i:Nat}
structure Ck (n:Nat) (A N:List (List Nat)) (T:List OK) (Vs:List VK) (SR:List Nat):Prop where
 len:A.length=n∧N.length=n∧T.length=n∧Vs.length=n
 ns:∀i,i<n→∀j∈N.getD i [],j∈A.getD i []∧∀k,k<n→(tAt T k).tgt=some j→k=i∨i∈A.getD k []
 tr:∀i,i<n→∀j∈A.getD i [],j<i∧(∀k∈A.getD j [],k∈A.getD i [])∧(j∈SR→i∈SR)
 qc:∀i,i<n→(tAt T i).isQ=true→(kAt Vs i).isC=true
 bx:∀i,i<n→∀t,(tAt T i).tgt=some t→t∈N.getD i []∧A.getD t []=[]∧t∉SR∧(kAt Vs t).isC=false∧∀j,j<n→j=i∨j=t∨(kAt Vs j).isC=true∨i∈A.getD j []∨t∉A.getD j []
 sr:∀i,i<n→i∈SR→(tAt T i).isS=true∨∃j∈A.getD i [],(tAt T j).isS=true
 s1:∀i,i<n→(tAt T i).isS=true→i∈SR∧∀j,j<n→j=i∨(tAt T j).isS=false
 l1:∀i,i<n→(tAt T i).isL=true→i+1=n∧∀j,j<n→j=i∨j∈A.getD i []
theorem ck_of (h:chk n As Ns T Vs SR=true):Ck n As Ns T Vs SR:=by
 simp only[chk,liveFor,Bool.and_eq_true,beq_iff_eq,List.all_eq_true,List.mem_range,Bool.or_eq_true,List.contains_iff_mem,Bool.not_eq_true',decide_eq_true_eq,bne_iff_ne]at h;obtain⟨⟨⟨⟨h1,h2⟩,h3⟩,h4⟩,h⟩:=h;have cf:∀(l:List Nat)(k:Nat),l.contains k=false↔k∉l:=fun l k=>by simp
 refine⟨⟨h1,h2,h3,h4⟩,fun i hi j hj=>⟨((h i hi).1.1.1.1.1.1 j hj).1,fun k hk hkt=>?_⟩,fun i hi j hj=>⟨((h i hi).1.1.1.1.1.2 j hj).1.1,fun k hk=>((h i hi).1.1.1.1.1.2 j hj).1.2 k hk,fun hs=>?_⟩,fun i hi hq=>?_,fun i hi t ht=>?_,fun i hi hs=>?_,fun i hi hs=>?_,fun i hi hl=>?_⟩
 ·rcases((h i hi).1.1.1.1.1.1 j hj).2 k hk with(h5|h5)|h5
  ·exact absurd hkt h5
  ·exact .inl h5
  ·exact .inr h5
 ·rcases((h i hi).1.1.1.1.1.2 j hj).2 with h5|h5
  ·exact absurd hs ((cf _ _).1 h5)
  ·exact h5
 ·rcases(h i hi).1.1.1.1.2 with h5|h5
  ·rw[hq]at h5;cases h5
  ·exact h5
 ·have h5:=(h i hi).1.1.1.2;rw[ht]at h5;simp only[Bool.and_eq_true,List.contains_iff_mem,List.isEmpty_iff,Bool.not_eq_true',List.all_eq_true,List.mem_range,Bool.or_eq_true,beq_iff_eq]at h5;obtain⟨⟨⟨⟨a1,a2⟩,a3⟩,a4⟩,a5⟩:=h5;refine⟨a1,a2,(cf _ _).1 a3,a4,fun j hj=>?_⟩;rcases a5 j hj with(((h6|h6)|h6)|h6)|h6
  ·exact .inl h6
  ·exact .inr (.inl h6)
  ·exact .inr (.inr (.inl h6))
  ·exact .inr (.inr (.inr (.inl h6)))
  ·exact .inr (.inr (.inr (.inr ((cf _ _).1 h6))))
 ·rcases(h i hi).1.1.2 with(h5|h5)|h5
  ·exact absurd hs ((cf _ _).1 h5)
  ·exact .inl h5
  ·rw[List.any_eq_true]at h5;exact .inr h5
 ·rcases(h i hi).1.2 with h5|h5
  ·rw[hs]at h5;cases h5
  ·exact⟨h5.1,h5.2⟩
 ·rcases(h i hi).2 with h5|h5
  ·rw[hl]at h5;cases h5
  ·exact⟨h5.1,h5.2⟩
theorem St.next (ck:Ck n As Ns T Vs SR)(hm:Monos Ns Vs)(h:St n As T Vs SR S w0 A C L x W)(hi:i<n)(hLi:L i=false)(hanc:∀j∈As.getD i [],L j=true)(X:Nat→Prop)(hT:Touch X W W')(hXS:∀b,X b→S b∨w0.heap.size≤b)
 (hav:∀j,L j=true→(tAt T i).tgt≠some j→(kAt Vs j).isC=false→∀b,A j b→¬X b) {v:Value} (hv:(kAt Vs i).holds x v (New S w0.heap.size (SR.contains i) (Ns.getD i []) A W W') W'):
 St n As T Vs SR S w0 (fun j=>if j=i then New S w0.heap.size (SR.contains i) (Ns.getD i []) A W W' else A j) (fun j=>if j=i then(fun b=>W.heap.size≤b∧b<W'.heap.size)else C j) (setB L i) (setV x i v) W':=by
 obtain⟨a1,a2,a3,a4,a5,a6⟩:=h;have hl:=ck.len;have hset:∀{j},j≠i→setB L i j=L j:=fun h=>by simp[setB,h]
 have hsetv:∀{j},j≠i→setV x i v j=x j:=fun h=>by simp[setV,h]
 have hne:∀{j},L j=true→j≠i:=fun h e=>by subst e;rw[hLi]at h;cases h
 have hin:∀j b,L j=true→A j b→b<W.heap.size:=fun j b hj hb=>by
  rcases a4 j b hj hb with h|⟨k,hk,h⟩
  ·have:=a1.size;omega
  ·refine(a5 k b ?_ h).2;rcases hk with rfl|hk
   ·exact hj
   ·exact(a2 j hj).2 k hk
 refine⟨a1.then_ hT (fun b hb hx=>?_),fun j hj=>?_,fun j hj hk=>?_,fun j b hj hb=>?_,fun j b hj hb=>?_,fun j k b hj hk hb hc=>?_⟩
 ·rcases hXS b hx with h|h
  ·exact h
  ·omega
 ·by_cases e:j=i
  ·subst e;refine⟨hi,fun k hk=>?_⟩;rw[hset (by rintro rfl;have:=(ck.tr k hi k hk).1;omega)];exact hanc k hk
  ·rw[hset e]at hj;refine⟨(a2 j hj).1,fun k hk=>?_⟩;have h5:=(a2 j hj).2 k hk;rw[hset (hne h5)];exact h5
 ·by_cases e:j=i
  ·subst e;simp only[if_true];have e2:setV x j v j=v:=by simp[setV]
   rw[e2];refine VK.holds_mono (mono_at hm (by omega) (by omega)) (fun k hk=>?_) (fun _ b hb=>⟨hb,rfl⟩) hv;have h5:=(ck.ns j hi k hk).1;exact(hsetv (hne (hanc k h5))).symm
  ·rw[hset e]at hj;simp only[if_neg e];rw[hsetv e];have hjn:=(a2 j hj).1;have hki:(tAt T i).tgt≠some j:=fun h=>by
    have h5:=hk i hi h;simp[setB]at h5
   refine VK.holds_mono (mono_at hm (by omega) (by omega)) (fun k hk'=>?_) (fun hc b hb=>⟨hb,hT.block b (hin j b hj hb) (hav j hj hki hc b hb)⟩) (a3 j hj fun k hkn hkt=>?_)
   ·have h5:=(a2 j hj).2 k (ck.ns j hjn k hk').1;exact(hsetv (hne h5)).symm
   ·have h5:=hk k hkn hkt;by_cases e2:k=i
    ·subst e2;exact absurd hkt hki
    ·rw[hset e2]at h5;exact h5
 ·by_cases e:j=i
  ·subst e;simp only[if_true]at hb;rcases hb with⟨h1,h2⟩|h1|⟨k,hk,h1⟩
   ·exact .inl ⟨h1,fun hs=>by simpa using h2 hs⟩
   ·exact .inr ⟨j,.inl rfl,by simp only[if_true];exact h1⟩
   ·have hka:=(ck.ns j hi k hk).1;have hLk:=hanc k hka;rcases a4 k b hLk h1 with⟨h3,h4⟩|⟨q,hq,h3⟩
    ·exact .inl ⟨h3,fun hs=>(ck.tr j hi k hka).2.2 (h4 hs)⟩
    ·have hqa:q∈As.getD j []:=by
      rcases hq with rfl|hq
      ·exact hka
      ·exact(ck.tr j hi k hka).2.1 q hq
     exact .inr ⟨q,.inr hqa,by simp only[if_neg (hne (hanc q hqa))];exact h3⟩
  ·rw[hset e]at hj;simp only[if_neg e]at hb;rcases a4 j b hj hb with h|⟨q,hq,h3⟩
   ·exact .inl h
   ·have hLq:L q=true:=by
     rcases hq with rfl|hq
     ·exact hj
     ·exact(a2 j hj).2 q hq
    exact .inr ⟨q,hq,by simp only[if_neg (hne hLq)];exact h3⟩
 ·by_cases e:j=i
  ·subst e;simp only[if_true]at hb;exact⟨Nat.le_trans a1.size hb.1,hb.2⟩
  ·rw[hset e]at hj;simp only[if_neg e]at hb;have h5:=a5 j b hj hb;exact⟨h5.1,Nat.lt_of_lt_of_le h5.2 hT.size⟩
 ·by_cases e:j=i
  ·by_cases e2:k=i
   ·omega
   ·rw[hset e2]at hk;simp only[if_neg e2]at hc;simp only[if_pos e]at hb;have:=(a5 k b hk hc).2;have:=hb.1;omega
  ·rw[hset e]at hj;simp only[if_neg e]at hb;by_cases e2:k=i
   ·simp only[if_pos e2]at hc;have:=(a5 j b hj hb).2;have:=hc.1;omega
   ·rw[hset e2]at hk;simp only[if_neg e2]at hc;exact a6 j k b hj hk hb hc
end
theorem pure_at {D:List (Option Tmp)}{a0:Act}{Vs:List VK}:∀{As:List (List Nat)}{ks:List VK}{T:List OK}{l:List Oper}{i:Nat}{o:Oper},Pures P ops D a0 Vs As ks T l→l[i]?=some o→i<As.length→i<ks.length→i<T.length→(tAt T i).isQ=true→∀x,PureStep P ops (getsD D (xc Vs x) a0 (As.getD i [])) o ((kAt ks i).get x undef)
 |A::As,k::ks,t::T,o::l,0,o',h,ho,_,_,_,hq=>by
  cases t<;>first|(simp[tAt,OK.isQ]at hq;done)|skip
  simp at ho;subst ho;exact h.1
 |A::As,k::ks,t::T,o::l,i+1,o',h,ho,h1,h2,h3,hq=>by
  have h':Pures P ops D a0 Vs As ks T l:=by
   cases t
   ·exact h.2
   all_goals exact h
  exact pure_at (i:=i) h' (by simpa using ho) (by simpa using h1) (by simpa using h2) (by simpa using h3) hq
 |[],_,_,_,_,_,_,_,h,_,_,_=>by simp at h
 |_::_,[],_,_,_,_,_,_,_,h,_,_=>by simp at h
 |_::_,_::_,[],_,_,_,_,_,_,_,h,_=>by simp at h
 |_::_,_::_,_::_,[],_,_,_,h,_,_,_,_=>by simp at h
def OK.fr:OK→Option ((Nat→Value)→Act)
 |.q=>none
 |.n F=>some F
 |.b _ F=>some F
 |.s F=>some F
 |.l F=>some F
theorem fr_at {D:List (Option Tmp)}{a0:Act}{Vs:List VK}:∀{As:List (List Nat)}{T:List OK}{l:List Oper}{i:Nat}{o:Oper}{F:(Nat→Value)→Act},Fr5 ops D a0 Vs As T l→l[i]?=some o→i<As.length→i<T.length→(tAt T i).fr=some F→FrOne ops D a0 Vs (As.getD i []) F o
 |A::As,t::T,o::l,0,o',F,h,ho,_,_,hq=>by
  simp at ho;subst ho;cases t<;>simp[tAt,OK.fr]at hq<;>subst hq<;>exact h.1
 |A::As,t::T,o::l,i+1,o',F,h,ho,h1,h2,hq=>by
  have h':Fr5 ops D a0 Vs As T l:=by
   cases t
   ·exact h
   all_goals exact h.2
  exact fr_at (i:=i) h' (by simpa using ho) (by simpa using h1) (by simpa using h2) hq
 |[],_,_,_,_,_,_,_,h,_,_=>by simp at h
 |_::_,[],_,_,_,_,_,_,_,h,_=>by simp at h
 |_::_,_::_,[],_,_,_,_,h,_,_,_=>by simp at h
def ArmOf (P:Program)(ops:Array Oper)(S:Nat→Prop)(w0:World)(R:World→Prop)(Vs:List VK)(As:List (List Nat))(SR:List Nat)(i:Nat)(N:List Nat)(k:VK)(o:Oper):OK→Prop
 |.q=>True
 |.n F=>∀x A W,Pre5 S w0 Vs N x A W→wpList P ops (Po5 (F x) o.dst fun v W'=>Below W.heap.size W W'∧k.holds x v (New S w0.heap.size (SR.contains i) N A W W') W') [o] (F x) W
 |.b t F=>∀x A W,Pre5 S w0 Vs N x A W→(∀b,A t b→w0.heap.size≤b→∀j∈N,j≠t→(As.getD j []).contains t=false→¬A j b)→wpList P ops (Po5 (F x) o.dst fun v W'=>(∃b,A t b∧w0.heap.size≤b∧Touch (fun z=>z=b) W W')∧W'.heap.size=W.heap.size∧k.holds x v (New S w0.heap.size (SR.contains i) N A W W) W') [o] (F x) W
 |.s F=>∀x A W,Pre5 S w0 Vs N x A W→wpList P ops (Po5 (F x) o.dst fun v W'=>Touch S W W'∧k.holds x v (New S w0.heap.size (SR.contains i) N A W W') W') [o] (F x) W
 |.l F=>∀x A W,Pre5 S w0 Vs N x A W→wpList P ops (Po5 (F x) o.dst fun _ W'=>R W') [o] (F x) W
theorem arm_at {S:Nat→Prop}{w0:World}{R:World→Prop}{Vs:List VK}{As0:List (List Nat)}{SR:List Nat}:∀{Ns:List (List Nat)}{ks:List VK}{T:List OK}{l:List Oper}{i0 i:Nat}{o:Oper},Arms P ops S w0 R Vs As0 SR i0 Ns ks T l→l[i]?=some o→i<Ns.length→i<ks.length→i<T.length→ArmOf P ops S w0 R Vs As0 SR (i0+i) (Ns.getD i []) (kAt ks i) o (tAt T i)
 |N::Ns,k::ks,t::T,o::l,i0,0,o',h,ho,_,_,_=>by
  simp at ho;subst ho;cases t
  ·trivial
  all_goals exact h.1
 |N::Ns,k::ks,t::T,o::l,i0,i+1,o',h,ho,h1,h2,h3=>by
  have h':Arms P ops S w0 R Vs As0 SR (i0+1) Ns ks T l:=by
   cases t
   ·exact h
   all_goals exact h.2
  have h5:=arm_at (i:=i) h' (by simpa using ho) (by simpa using h1) (by simpa using h2) (by simpa using h3);rw[show i0+(i+1)=i0+1+i from by omega];exact h5
 |[],_,_,_,_,_,_,_,_,h,_,_=>by simp at h
 |_::_,[],_,_,_,_,_,_,_,_,h,_=>by simp at h
 |_::_,_::_,[],_,_,_,_,_,_,_,_,h=>by simp at h
 |_::_,_::_,_::_,[],_,_,_,_,h,_,_,_=>by simp at h
theorem gets_congr {x y:Nat→Value}:∀(l:List Nat)(a:Act),(∀j∈l,x j=y j)→gets ops x a l=gets ops y a l
 |[],_,_=>rfl
 |j::r,a,h=>by
  rw[gets,gets,h j (List.mem_cons_self ..),gets_congr r _ fun k hk=>h k (List.mem_cons_of_mem _ hk)]
theorem getsC_eq {x:Nat→Value}{Vs:List VK}{D:List (Option Tmp)}(hl:D.length=Vs.length):∀(m i:Nat)(a:Act),i+m=D.length→getsD D (xc Vs x) a (List.range' i m)=getsC x i (D.drop i) (Vs.drop i) a
 |0,i,a,h=>by
  rw[List.drop_of_length_le (by omega),List.drop_of_length_le (by omega)];rfl
 |m+1,i,a,h=>by
  have h1:i<D.length:=by omega
  have h2:i<Vs.length:=by omega
  rw[List.range'_succ,List.drop_eq_getElem_cons h1,List.drop_eq_getElem_cons h2]
  show getsD D (xc Vs x) (a.put (D.getD i none) (xc Vs x i)) (List.range' (i+1) m)=getsC x (i+1) (D.drop (i+1)) (Vs.drop (i+1)) (a.put D[i] (Vs[i].get x (x i)))
  rw[getsC_eq hl m (i+1) _ (by omega)];have e1:D.getD i none=D[i]:=by simp[List.getD,h1]
  have e2:xc Vs x i=Vs[i].get x (x i):=by simp[xc,kAt,List.getD,h2]
  rw[e1,e2]
def In5 (n:Nat)(As:List (List Nat))(T:List OK)(Vs:List VK)(SR:List Nat)(S:Nat→Prop)(w0:World)(R:World→Prop)(hl:Bool)(L:Nat→Bool)(x:Nat→Value)(W:World):Prop:=
 (hl=true∧(∀j,j<n→L j=true)∧(∀j,j<n→x j=xc Vs x j)∧R W)∨((hl=true→L (n-1)=false)∧∃A C,St n As T Vs SR S w0 A C L x W)
theorem St.const {n:Nat}{As Ns:List (List Nat)}{T:List OK}{Vs:List VK}{SR:List Nat}{S:Nat→Prop}{w0:World}{A C:Nat→Nat→Prop}{L:Nat→Bool}{x:Nat→Value}{W:World}(ck:Ck n As Ns T Vs SR)(h:St n As T Vs SR S w0 A C L x W)(j:Nat)(hj:L j=true):x j=xc Vs x j:=by
 have h3:=h.2.2.1 j hj;unfold xc;cases hk:kAt Vs j with
 |p f=>rfl
 |c u=>
  rw[hk]at h3;exact h3 fun k hkn ht=>by
   have h4:=(ck.bx k hkn j ht).2.2.2.1;rw[hk]at h4;cases h4
 |e g=>
  rw[hk]at h3;exact h3 fun k hkn ht=>by
   have h4:=(ck.bx k hkn j ht).2.2.2.1;rw[hk]at h4;cases h4
theorem core5 {id:Nat}{Q:Exit→Act→World→Prop}{a0:Act}{w0:World}{l:List Oper}(hm:P.follows .mixedOrders=true)(hok:regionOk l.toArray=true)(hsel:l.all noSel=true)(As:List (List Nat))(hA:ancT l.toArray=As)(D:List (Option Tmp))(hD:(List.range l.toArray.size).map (dstOf l.toArray)=D)
 (Ns:List (List Nat)) (Vs:List VK) (T:List OK) (SR:List Nat) (hck:chk l.length As Ns T Vs SR=true) (S:Nat→Prop) (hS:∀b,S b→b<w0.heap.size) (R:World→Prop) (hmn:Monos Ns Vs) (hp:Pures P l.toArray D a0 Vs As Vs T l) (hF:Fr5 l.toArray D a0 Vs As T l) (har:Arms P l.toArray S w0 R Vs As SR 0 Ns Vs T l)
 (hl:Bool) (hhl:∀i,i<l.length→(tAt T i).isL=true→hl=true∧(kAt Vs i).isC=false) (hh2:hl=true→(tAt T (l.length-1)).isL=true) (h0:0<l.length)
 (hend:∀x W L,(∀i,i<l.length→L i=true)→In5 l.length As T Vs SR S w0 R hl L x W→(∀j,j<l.length→x j=xc Vs x j)→Q .normal (getsC x 0 D Vs a0) W):(Code.region id l.toArray true).wp P Q a0 w0:=by
 have F:=facts_of hok;have ck:=ck_of hck;have hz:l.toArray.size=l.length:=by simp
 have hancA:∀j,anc l.toArray j=As.getD j []:=fun j=>by unfold anc;rw[hA]
 obtain⟨l1,l2,l3,l4⟩:=ck.len;have hDl:D.length=l.length:=by rw[←hD];simp
 refine region_rule3 hm hok (In5 l.length As T Vs SR S w0 R hl) (fun _ _ _=>True) (fun _ _ _=>True) (fun _=>[]) (fun _=>[]) (fun i j hj=>by cases hj) (fun _ _ _ _ _ _ _ _ _ _ _ _=>trivial) (fun x=>.inr ⟨fun _=>rfl,fun _ _=>False,fun _ _=>False,(Touch.refl S w0).drew,fun i h=>by(cases h),fun i h=>by(cases h),fun i b h=>by(cases h),fun i b h=>by(cases h),fun i j b h=>by(cases h)⟩) (fun i o ho x W L hI hL1 hL2 _=>?_) (fun x W L hL hI _=>?_)
 ·have hil:i<l.length:=by have:=(Array.getElem?_eq_some_iff.1 ho).1;omega
  have hLi:L i=false:=hL2 i (.inl rfl);rcases hI with⟨_,h1,_⟩|⟨hlast,A,C,hst⟩
  ·rw[h1 i hil]at hLi;cases hLi
  have hol:l[i]?=some o:=by simpa using ho
  have hanc:∀j∈As.getD i [],L j=true:=fun j hj=>hL1 j (by rw[hancA];exact hj);have hfr:gets l.toArray x a0 (anc l.toArray i)=getsD D (xc Vs x) a0 (As.getD i []):=by
   rw[gets_congr (y:=xc Vs x) _ a0 (fun j hj=>hst.const ck j (hL1 j hj)),←getsD_eq _ hD _ _ (anc_lt F i),hancA]
  rw[hfr];have hnoS:=noSel_ne (o:=o) (by
   rw[List.all_eq_true]at hsel;exact hsel o (List.mem_of_getElem? hol))
  have hpre:Pre5 S w0 Vs (Ns.getD i []) x A W:=by
   refine⟨hst.1,fun j hj b hb=>?_,allF_of fun j hj=>?_⟩
   ·have hja:=(ck.ns i hil j hj).1;have hLj:=hanc j hja;rcases hst.2.2.2.1 j b hLj hb with h|⟨k,hk,h⟩
    ·have:=hst.1.size;omega
    ·refine(hst.2.2.2.2.1 k b ?_ h).2;rcases hk with rfl|hk
     ·exact hLj
     ·exact(hst.2.1 j hLj).2 k hk
   ·refine hst.2.2.1 j (hanc j (ck.ns i hil j hj).1) fun k hk ht=>?_;rcases(ck.ns i hil j hj).2 k hk ht with rfl|h
    ·exact hLi
    ·cases hLk:L k with
     |false=>rfl
     |true=>
      have:=(hst.2.1 k hLk).2 i h;rw[hLi]at this;cases this
  have hkl:kAt Vs i=kAt Vs i:=rfl;have harm:=arm_at har hol (by omega) (by omega) (by omega);rw[Nat.zero_add]at harm;have fin:∀{v:Value}{W':World},(tAt T i).isL=false→(∃A' C',St l.length As T Vs SR S w0 A' C' (setB L i) (setV x i v) W')→(True∧True∧In5 l.length As T Vs SR S w0 R hl (setB L i) (setV x i v) W'∧True):=fun hnl h=>by
   refine⟨trivial,trivial,.inr ⟨fun hh=>?_,h⟩,trivial⟩;have hne:l.length-1≠i:=fun e=>by
    have:=hh2 hh;rw[e,hnl]at this;cases this
   simp only[setB,if_neg hne];exact hlast hh
  have hframe:∀{F:(Nat→Value)→Act},(tAt T i).fr=some F→(∀d,o.dst=some d→d<(F x).tmps.size)∧∀d∈o.looksAt l.toArray,(getsD D (xc Vs x) a0 (As.getD i [])).tmps[d]?=(F x).tmps[d]?:=fun hq=>by
   obtain⟨h1,h2⟩:=fr_at hF hol (by omega) (by omega) hq x;refine⟨fun d hd=>?_,fun d hd=>List.map_inj_left.1 h1 d hd⟩;rw[hd]at h2;exact of_decide_eq_true h2
  show wpList P l.toArray (Po5 _ o.dst fun v w'=>True∧True∧In5 l.length As T Vs SR S w0 R hl (setB L i) (setV x i v) w'∧True) [o] _ W
  cases ht:tAt T i with
  |q=>
   have hps:=pure_at hp hol (by omega) (by omega) (by omega) (by rw[ht];rfl) x;refine step_pure hps (fin (by rw[ht];rfl) ⟨_,_,hst.next ck hmn hil hLi hanc (fun _=>False) (Touch.refl _ W) (fun _ h=>h.elim) (fun _ _ _ _ _ _ h=>h) ?_⟩);have hc:=ck.qc i hil (by rw[ht];rfl);cases hk:kAt Vs i with
   |c u=>rfl
   |e g=>rfl
   |p f=>rw[hk]at hc;cases hc
  |n G=>
   rw[ht]at harm;obtain⟨f1,f2⟩:=hframe (F:=G) (by rw[ht];rfl);refine step_to hnoS f1 f2 (fun v W' hG=>?_) (harm x A W hpre);exact fin (by rw[ht];rfl) ⟨_,_,hst.next ck hmn hil hLi hanc (fun _=>False) (Touch.of_below hG.1) (fun _ h=>h.elim) (fun _ _ _ _ _ _ h=>h) hG.2⟩
  |s G=>
   rw[ht]at harm;obtain⟨f1,f2⟩:=hframe (F:=G) (by rw[ht];rfl);refine step_to hnoS f1 f2 (fun v W' hG=>?_) (harm x A W hpre);refine fin (by rw[ht];rfl) ⟨_,_,hst.next ck hmn hil hLi hanc S hG.1 (fun _ h=>.inl h) (fun j hj _ hjc b hb hs=>?_) hG.2⟩;obtain⟨s1,s2⟩:=ck.s1 i hil (by rw[ht];rfl);have hjn:=(hst.2.1 j hj).1;rcases hst.2.2.2.1 j b hj hb with⟨h1,h2⟩|⟨k,hk,h⟩
   ·rcases ck.sr j hjn (h2 hs)with h3|⟨k,hk,h3⟩
    ·rcases s2 j hjn with rfl|h4
     ·rw[hLi]at hj;cases hj
     ·rw[h3]at h4;cases h4
    ·have hLk:=(hst.2.1 j hj).2 k hk;rcases s2 k (hst.2.1 k hLk).1 with rfl|h4
     ·rw[hLi]at hLk;cases hLk
     ·rw[h3]at h4;cases h4
   ·have hLk:L k=true:=by
     rcases hk with rfl|hk
     ·exact hj
     ·exact(hst.2.1 j hj).2 k hk
    have:=(hst.2.2.2.2.1 k b hLk h).1;have:=hS b hs;omega
  |b t G=>
   rw[ht]at harm;obtain⟨f1,f2⟩:=hframe (F:=G) (by rw[ht];rfl);obtain⟨b1,b2,b3,b4,b5⟩:=ck.bx i hil t (by rw[ht];rfl);have hta:=(ck.ns i hil t b1).1;have hLt:=hanc t hta;have hown:∀b,A t b→w0.heap.size≤b→C t b:=fun b hb hbb=>by
    rcases hst.2.2.2.1 t b hLt hb with⟨h1,_⟩|⟨k,hk,h⟩
    ·omega
    ·rcases hk with rfl|hk
     ·exact h
     ·rw[b2]at hk;cases hk
   have hoff:∀b,C t b→∀j,L j=true→j≠t→t∉As.getD j []→¬A j b:=fun b hb j hj hjt htj hab=>by
    have h9:=hst.2.2.2.2.1 t b hLt hb;rcases hst.2.2.2.1 j b hj hab with⟨h1,_⟩|⟨k,hk,h⟩
    ·omega
    ·have hLk:L k=true:=by
      rcases hk with rfl|hk
      ·exact hj
      ·exact(hst.2.1 j hj).2 k hk
     have e:=hst.2.2.2.2.2 t k b hLt hLk hb h;subst e;rcases hk with rfl|hk
     ·exact hjt rfl
     ·exact htj hk
   refine step_to hnoS f1 f2 (fun v W' hG=>?_) (harm x A W hpre fun b hb hbb j hj hjt hjc=>hoff b (hown b hb hbb) j (hanc j (ck.ns i hil j hj).1) hjt (by simpa using hjc));obtain⟨⟨b,c1,c2,c3⟩,c4,c5⟩:=hG;refine fin (by rw[ht];rfl) ⟨_,_,hst.next ck hmn hil hLi hanc (fun z=>z=b) c3 (fun z hz=>.inr (by rw[hz];exact c2)) (fun j hj hjt hjc z hz hzb=>?_) (VK.holds_mono (mono_at hmn (by omega) (by omega)) (fun _ _=>rfl) (fun _ z hz=>⟨?_,rfl⟩) c5)⟩
   ·subst hzb;have hjt':j≠t:=fun e=>hjt (by rw[ht,e];rfl);rcases b5 j (hst.2.1 j hj).1 with rfl|h|h|h|h
    ·rw[hLi]at hj;cases hj
    ·exact hjt' h
    ·rw[hjc]at h;cases h
    ·have:=(hst.2.1 j hj).2 i h;rw[hLi]at this;cases this
    ·exact hoff z (hown z c1 c2) j hj hjt' h hz
   ·rcases hz with h|h|h
    ·exact .inl h
    ·omega
    ·exact .inr (.inr h)
  |l G=>
   rw[ht]at harm;obtain⟨f1,f2⟩:=hframe (F:=G) (by rw[ht];rfl);obtain⟨g1,g2⟩:=ck.l1 i hil (by rw[ht];rfl);obtain⟨q1,q2⟩:=hhl i hil (by rw[ht];rfl);refine step_to hnoS f1 f2 (fun v W' hG=>?_) (harm x A W hpre);have hall:∀j,j<l.length→setB L i j=true:=fun j hj=>by
    by_cases e:j=i
    ·simp[setB,e]
    ·simp only[setB,if_neg e];rcases g2 j hj with h|h
     ·exact absurd h e
     ·exact hanc j h
   refine⟨trivial,trivial,.inl ⟨q1,hall,fun j hj=>?_,hG⟩,trivial⟩;by_cases e:j=i
   ·subst e;unfold xc;cases hk:kAt Vs j with
    |c u=>rw[hk]at q2;cases q2
    |e g=>rw[hk]at q2;cases q2
    |p f=>rfl
   ·have hLj:L j=true:=by
     have:=hall j hj;simpa only[setB,if_neg e]using this
    have h5:=hst.const ck j hLj
    show setV x i v j=(kAt Vs j).get (setV x i v) (setV x i v j)
    have e3:setV x i v j=x j:=by simp[setV,e]
    rw[e3];refine h5.trans ?_;unfold xc;cases hk:kAt Vs j with
    |c u=>rfl
    |p f=>rfl
    |e g=>
     have h6:=mono_at hmn (show j<Ns.length by omega) (show j<Vs.length by omega);rw[hk]at h6;refine h6 x _ fun q hq=>?_;have h7:L q=true:=(hst.2.1 j hLj).2 q (ck.ns j hj q hq).1;have h8:q≠i:=fun e=>by rw[e,hLi]at h7;cases h7
     simp[setV,h8]
 ·have hconst:∀j,j<l.length→x j=xc Vs x j:=fun j hj=>by
   rcases hI with⟨_,_,h,_⟩|⟨_,A,C,hst⟩
   ·exact h j hj
   ·exact hst.const ck j (hL j (by omega))
  have h2:=hend x W L (fun i hi=>hL i (by omega)) hI hconst;have h3:=getsC_eq (x:=x) (Vs:=Vs) (D:=D) (by omega) D.length 0 a0 (by omega);rw[List.drop_zero,List.drop_zero,←List.range_eq_range',hDl,getsD_eq _ hD _ _ (fun j hj=>by simpa using hj)]at h3;rw[gets_congr (y:=xc Vs x) _ a0 (fun j hj=>hconst j (by simpa using hj)),hz,h3];exact h2
def endOk (n:Nat)(T:List OK)(E:List Nat):Bool:=T.all (fun t=>!t.isL)&&decide (0<n)&&E.all fun j=>decide (j<n)&&(List.range n).all fun k=>(tAt T k).tgt !=some j
theorem tAt_mem {T:List OK}{i:Nat}(h:i<T.length):tAt T i∈T:=by
 unfold tAt;simp[List.getD,h]
theorem region5 {id:Nat}{Q:Exit→Act→World→Prop}{a0:Act}{w0:World}{l:List Oper}(hm:P.follows .mixedOrders=true)(hok:regionOk l.toArray=true)(hsel:l.all noSel=true)(As:List (List Nat))(hA:ancT l.toArray=As)(D:List (Option Tmp))(hD:(List.range l.toArray.size).map (dstOf l.toArray)=D)
 (Ns:List (List Nat)) (Vs:List VK) (T:List OK) (SR:List Nat) (hck:chk l.length As Ns T Vs SR=true) (S:Nat→Prop) (hS:∀b,S b→b<w0.heap.size) (hmn:Monos Ns Vs) (hp:Pures P l.toArray D a0 Vs As Vs T l) (hF:Fr5 l.toArray D a0 Vs As T l) (E:List Nat) (hE:endOk l.length T E=true) (har:Arms P l.toArray S w0 (fun _=>True) Vs As SR 0 Ns Vs T l)
 (hend:∀x A W,Pre5 S w0 Vs E x A W→Q .normal (getsC x 0 D Vs a0) W):(Code.region id l.toArray true).wp P Q a0 w0:=by
 simp only[endOk,Bool.and_eq_true,List.all_eq_true,Bool.not_eq_true',decide_eq_true_eq,List.mem_range,bne_iff_ne]at hE;obtain⟨⟨e1,e2⟩,e3⟩:=hE;have ck:=ck_of hck;obtain⟨l1,l2,l3,l4⟩:=ck.len;refine core5 hm hok hsel As hA D hD Ns Vs T SR hck S hS (fun _=>True) hmn hp hF har false (fun i hi h=>?_) (fun h=>by cases h) e2 (fun x W L hL hI _=>?_)
 ·have:=e1 _ (tAt_mem (T:=T) (i:=i) (by omega));rw[h]at this;cases this
 ·rcases hI with⟨h,_⟩|⟨_,A,C,hst⟩
  ·cases h
  refine hend x A W ⟨hst.1,fun j hj b hb=>?_,allF_of fun j hj=>?_⟩
  ·have hLj:=hL j (e3 j hj).1;rcases hst.2.2.2.1 j b hLj hb with h|⟨k,hk,h⟩
   ·have:=hst.1.size;omega
   ·refine(hst.2.2.2.2.1 k b ?_ h).2;rcases hk with rfl|hk
    ·exact hLj
    ·exact(hst.2.1 j hLj).2 k hk
  ·exact hst.2.2.1 j (hL j (e3 j hj).1) fun k hk ht=>absurd ht ((e3 j hj).2 k hk)
end
end Go.Proofs.YtkbfhgcjimfgkaaDoor
namespace Go.Proofs.YtkbfhgcjimfgkaaDoor
open Go.RowKit
theorem mkOp_in (n:Int)(l:List Raw)(a:Option Addr)(m c:Nat)(w:World)(hr:RdS (· <w.heap.size) w l a m c)(hn:0≤n)(hn':n≤1000000000):
 Calls Tryd.prog 19 #[.int .i64 n,.slice a m c] w fun e w'=>∃a' c',e=.returned (.slice a' (mkOp n l).length c')∧RdS (fun b=>w.heap.size≤b∧b<w'.heap.size) w' (mkOp n l) a' (mkOp n l).length c'∧Below w.heap.size w w':=by
 refine(mkOp_any (· <w.heap.size) n l a m c w (fun b h=>h) hr hn hn').mono ?_;rintro e w' ⟨a',c',rfl,hr',hb⟩;refine⟨a',c',rfl,?_,hb⟩;obtain⟨h1,h2,h3,h4,h6⟩:=hr';refine⟨h1,h2,h3,h4,fun hn=>?_⟩;obtain⟨b,off,e,hge,hlt,h⟩:=h6 hn;exact⟨b,off,e,⟨hge,hlt⟩,hlt,fun i x hx=>h i x hx⟩
end Go.Proofs.YtkbfhgcjimfgkaaDoor
