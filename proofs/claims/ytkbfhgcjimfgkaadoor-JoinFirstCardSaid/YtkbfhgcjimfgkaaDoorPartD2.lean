/- The arguments of laws opened: strings, bools, raw things; and the tables of package unicode/utf8 off the row's list. (open_slice_fields, open_agg5: lines of the guide's, to be copied by its word.) -/
import Derived.Test.YtkbfhgcjimfgkaaDoorPartC6
import Derived.Test.YtkbfhgcjimfgkaaDoorPartD0
import Derived.Test.YtkbfhgcjimfgkaaDoorPartD1
import Derived.Test.YtkbfhgcjimfgkaaDoorPartC1
import Derived.Test.YtkbfhgcjimfgkaaDoorPartB5
import Derived.Test.YtkbfhgcjimfgkaaDoorRows
import Derived.Test.YtkbfhgcjimfgkaaDoorPartA0
import Derived.ProofKit
import Derived.OpenShut
import Derived.Test.YtkbfhgcjimfgkaaDoorPartA4
import Derived.Test.YtkbfhgcjimfgkaaDoorShelf
import Derived.Deep.Slices
import Derived.Deep.Fields
import Derived.ChangeSame
import Derived.Lib.SmallJoins
import Derived.Lib.LaidIn
import Derived.Lib.LaidU8T
import Derived.PinnedBridge
import Derived.Deep.DeepHandedRow
import Derived.Deep.DeepWitnessRowRef
import Derived.SizedLaws
set_option linter.unusedVariables false
set_option linter.unusedSimpArgs false
set_option linter.unusedSimpArgs false
namespace Go.Proofs.YtkbfhgcjimfgkaaDoor
open Go.RowKit
theorem first_told (ta:Option Addr)(E:Int)(c:Str)(W:World)(hg:Good W)(hT:RdS (· <W.heap.size) W ([-1,0]:List Int) ta 2 2)(h1:1≤E)(h2:E<1048576)(hc:checkText c=0)(a0 a1 a2:Option Addr)(c0 c1 c2:Nat)
 (r0:RdS (· <W.heap.size) W (fNd E).sides a0 1 c0) (r1:RdS (· <W.heap.size) W (fNd E).undo a1 0 c1) (r2:RdS (· <W.heap.size) W (fNd E).marks a2 0 c2) (hf:(fNd E).fits):
 Calls Tryd.prog 21 #[.slice ta 2 2,.agg #[.int .i64 1,.int .i64 E,.int .i64 0,.bool false,.string ⟨#[]⟩,.slice a0 1 c0,.slice a1 0 c1,.slice a2 0 c2],.int .i64 0,.agg #[.int .i64 E,.int .i64 1,.bool false,.int .i64 1,.int .i64 3,.int .i64 0,.int .i64 E,.slice none 0 0,.string c]] W fun e w'=>∃d0 f0 d1 f1 d2 f2 d3 f3 d4 f4,
  e=.returned (.tuple #[.agg #[.int .i64 1,.int .i64 E,.int .i64 0,.bool true,.string c,.slice d0 1 f0,.slice d1 0 f1,.slice d2 0 f2,.slice d3 1 f3,.slice d4 0 f4],.int .i64 0])∧Below W.heap.size W w'∧(gNd E c).fits∧RdS (· <w'.heap.size) w' (gNd E c).sides d0 1 f0∧RdS (· <w'.heap.size) w' (gNd E c).undo d1 0 f1∧RdS (· <w'.heap.size) w' (gNd E c).marks d2 0 f2:=by
 obtain⟨e1,e2⟩:=f_hear (E:=E) (c:=c) h1 (by omega) hc;have hN:=f_good h1 h2;have hct:=text_small hc;have hpf:(fPk E c).fits:=⟨by show I64 E;unfold I64;omega,by show I64 1;unfold I64;omega,by show I64 1;unfold I64;omega,by show I64 3;unfold I64;omega,by show I64 0;unfold I64;omega,by show I64 E;unfold I64;omega,by show c.size≤strMax;unfold strMax;omega⟩;refine(ndHear_any (fPk E c) (fun h=>absurd h (by show¬(3:Int)=1;omega)) [-1,0] ta 2 2 (fNd E) a0 c0 a1 c1 a2 c2 0 none 0 2 W hg hT r0 r1 r2 hf hpf (RdS.nil _ _) hN.1 hN.2 (by omega) (by omega)).mono ?_;intro e w' h;unfold TurnE at h;rw[e1,if_pos rfl,e2]at h;obtain⟨v,rfl,hv,hB⟩:=h;obtain⟨d0,f0,d1,f1,d2,f2,d3,f3,d4,f4,rfl,hf',q0,q1,q2,-,-⟩:=hv.open;have hlt:∀z,Fresh W.heap.size w' z→z<w'.heap.size∧w'.heap[z]?=w'.heap[z]?:=fun z hz=>⟨hz.2,rfl⟩;exact⟨d0,f0,d1,f1,d2,f2,d3,f3,d4,f4,rfl,hB,hf',q0.mono hlt,q1.mono hlt,q2.mono hlt⟩
theorem first_edit (ta:Option Addr)(E:Int)(c:Str)(O:Op)(W:World)(hg:Good W)(hT:RdS (· <W.heap.size) W ([-1,0]:List Int) ta 2 2)(h1:1≤E)(h2:E<1048576)(hc:checkText c=0)(o1:check O=0)(o2:sumF O=rc c)(o3:sumT O≤300)(a0 a1 a2:Option Addr)(c0 c1 c2:Nat)
 (r0:RdS (· <W.heap.size) W (gNd E c).sides a0 1 c0) (r1:RdS (· <W.heap.size) W (gNd E c).undo a1 0 c1) (r2:RdS (· <W.heap.size) W (gNd E c).marks a2 0 c2) (hf:(gNd E c).fits) (oa:Option Addr) (oc:Nat) (ro:RdS (· <W.heap.size) W O oa O.length oc):
 Calls Tryd.prog 16 #[.slice ta 2 2,.agg #[.int .i64 1,.int .i64 E,.int .i64 0,.bool true,.string c,.slice a0 1 c0,.slice a1 0 c1,.slice a2 0 c2],.slice oa O.length oc] W fun e w'=>∃v4 g0 n0 m0 g1 n1 m1 g2 n2 m2 v8 v9 v10 pb po f3 qa qc,
  e=.returned (.tuple #[.agg #[.int .i64 v8,.int .i64 v9,.int .i64 v10,.bool v4,.string (applyS c O),.slice g0 n0 m0,.slice g1 n1 m1,.slice g2 n2 m2,.slice (some ⟨pb,po,none⟩) 1 f3,.slice qa 0 qc],.int .i64 0])∧Below W.heap.size W w'∧pb<w'.heap.size∧1≤f3∧f3≤maxLen∧w'.cell? ⟨pb,po+1+4,none⟩=some (.int .i64 1)∧∃xa xc,w'.cell? ⟨pb,po+1+4+3,none⟩=some (.slice xa O.length xc)∧RdS (· <w'.heap.size) w' O xa O.length xc:=by
 have hN:=g_good (c:=c) h1 h2 hc;obtain⟨e1,e2,e3⟩:=f_edit h1 h2 hc o1 o2 o3;refine(ndEdit_any [-1,0] ta 2 2 (gNd E c) a0 c0 a1 c1 a2 c2 O oa oc 2 W hg hT r0 r1 r2 hf ro hN.1 hN.2 (by omega)).mono ?_;intro e w' h;unfold TurnE at h;rw[e1,if_pos rfl]at h;obtain⟨v,rfl,hv,hB⟩:=h;obtain⟨d0,f0,d1,f1,d2,f2,d3,f3,d4,f4,rfl,hf',q0,q1,q2,q3,q4⟩:=hv.open;rw[e2]at q3;have e4:(editT (gNd E c) O).recs=[]:=f_recs E c O;rw[e2,e3,e4];obtain⟨pb,po,ps,rfl,hp1,hp2,hp3,hp4⟩:=q3.elem 0 (by show 0<1;omega);obtain⟨xa,xc,rfl,hx,-⟩:=hp3;refine⟨_,_,_,_,_,_,_,_,_,_,_,_,_,pb,po,f3,d4,f4,rfl,hB,hp2,q3.2.1,q3.2.2.1,?_,xa,xc,?_,hx.mono fun z hz=>⟨hz.2,rfl⟩⟩
 ·have h:=hp4 5 _ rfl;have e:po+0*Rep.n Po+5=po+1+4:=by omega
  rw[e]at h;exact h
 ·have h:=hp4 8 _ rfl;have e:po+0*Rep.n Po+8=po+1+4+3:=by omega
  rw[e]at h;exact h
set_option maxRecDepth 100000 in
set_option maxHeartbeats 8000000 in
theorem joinFirst_walk (w:World)(hg:Good w)(s:Str)(hs:s.size≤maxLen)(x:Int)(hx:I64 x)(la:Option Addr)(ln lc:Nat)(l:List Raw)(hr:RdS (· <w.heap.size) w l la ln lc):
 Calls Tryd.prog 9 #[.string s,.int .i64 x,.slice la ln lc] w fun e w'=>e=.returned (.bool true)∧Below w.heap.size w w':=by
 have HLt:=Lib.hid (fun W=>letters_any s 20 W hs (by omega));rw[show((20:Nat):Int)=20 from rfl]at HLt;obtain⟨l1,l2,l3,l4⟩:=letters_ok s 20 (by omega);generalize letters s 20=c at*;have Hp:=Lib.hid (fun W=>picked_any x 200 W hx (by omega) (by omega));have r1:=pk_range x 200 (by omega);clear hx;generalize pk x 200=p at*;obtain⟨tb,htb⟩:∃tb,tb=w.heap.size:=⟨_,rfl⟩;obtain⟨k0,k1⟩:=r1;obtain⟨E,hE⟩:∃E,E=4096*(1+p):=⟨_,rfl⟩;have hE1:1≤E:=by omega
 have hE2:E<1048576:=by omega
 obtain⟨fb1,fb2⟩:=f_begin (b:=1+p) (by omega) (by omega);have HBo:=Lib.hid (fun W (hW:Good W)(hR:RdS (· <W.heap.size) W ([-1,0]:List Int) (some ⟨tb,0,none⟩) 2 2)=>begin_ok [-1,0] _ 2 2 1 (1+p) noText W hW hR (by unfold I64;omega) (Nat.zero_le _) fb1);rw[fb2,←hE]at HBo;have HRu:=Lib.hid (fun W=>runes_any c W (by omega));have HOp:=Lib.hid (fun W (h:RdS (· <W.heap.size) W l la ln lc)=>mkOp_in (rc c) l la ln lc W h (by omega) (by omega));obtain⟨o1,o2,o3,o4⟩:=opOf_good texts_letters (rc c) (by omega) (by omega) l;obtain⟨O,hO⟩:∃O,Hid (O=mkOp (rc c) l):=⟨_,rfl⟩;rw[←hO.out]at HOp;have e5:opOf rawText (rc c) l=O:=hO.out.symm;rw[e5]at o1 o2 o3 o4;obtain⟨v1,v2,v3⟩:=f_edit (E:=E) (c:=c) hE1 hE2 l1 o1 o2 (by omega);have HG1:=Lib.hid (f_good hE1 hE2);have HG2:=Lib.hid (g_good (c:=c) hE1 hE2 l1);have HFe:=Lib.hid (show editE (fNd E) O=12 from if_pos rfl);have HGe:=Lib.hid (And.intro v1 (And.intro v2 v3));obtain⟨y1,y2⟩:=f_hear (E:=E) (c:=c) hE1 (by omega) l1;have HFh:=Lib.hid (And.intro y1 y2);have HAp:Hid (∀W oa oc,Good W→RdS (· <W.heap.size) W O oa O.length oc→Calls Tryd.prog 22 #[.string c,.slice oa O.length oc] W fun e w'=>e=.returned (.tuple #[.string (applyS c O),.int .i64 0])∧Below W.heap.size W w'):=fun W oa oc hW hR=>by
  have h:=apply_any c O oa O.length oc W hW hR (by omega);rw[show applyE c O=0 by unfold applyE;rw[if_neg (by rw[l1];decide),if_neg (by rw[o1];decide),if_neg (by omega)]]at h;exact h
 have HRw:=Lib.hid hr;have Hg:=Lib.hid hg;have hgz:=hg.size;have HEE:=Lib.hid hE;have Hl:=Lib.hid l1;have o5:sumT O≤300:=by omega
 have HO:=Lib.hid (And.intro o1 (And.intro o2 o5));clear hg hs l1 l2 l3 l4 fb1 fb2 o1 o2 o3 o4 o5 e5 v1 v2 v3 y1 y2 hr;go_enter Tryd.func9,Tryd.ntmps9;go_wp2_with fail;refine abs_run (fun W=>Below w.heap.size w W∧Blk w.heap.size (.cells #[.int .i64 (-1),.int .i64 0] 3 (0,0)) W) ⟨(Below.refl _ _).alloc (Nat.le_refl _) _,Blk.new w _⟩ ?_;rintro w0 ⟨b0,x0⟩;rw[←htb]at x0⊢;clear htb;have B0:=Lib.hid b0;have X0:=Lib.hid x0;have hx0:=x0.lt;clear b0 x0;refine(HLt.out _).mono ?_;rintro e w1 ⟨rfl,b1⟩;have B1:=Lib.hid (up B0.out b1);have XT1:=Lib.hid (two_tree (X0.out.go b1));clear b1 HLt X0;go_wp2_with fail;refine(Hp.out _).mono ?_;rintro e w2 ⟨rfl,rfl⟩;go_wp2_with fail;refine(HBo.out w1 (Hg.out.go B1.out) XT1.out).mono ?_;rintro e w2 ⟨v,rfl,hv,b2⟩;obtain⟨a0,c0,a1,c1,a2,c2,a3,c3,a4,c4,rfl,hf,r0,r1,r2,r3,r5⟩:=hv.open;have hlt:∀z,Fresh w1.heap.size w2 z→z<w2.heap.size∧w2.heap[z]?=w2.heap[z]?:=fun z hz=>⟨hz.2,rfl⟩;have HR2:=Lib.hid (And.intro (r0.mono hlt) (And.intro (r1.mono hlt) (And.intro (r2.mono hlt) hf)));have B2:=Lib.hid (up B1.out b2);have XT2:=Lib.hid (XT1.out.go b2);clear b2 hv r0 r1 r2 r3 r5 hf hlt HBo B1 XT1 hx0 hE;go_upto_region 4 with fail;refine abs_w (fun W=>Below w2.heap.size w2 W∧Blk w2.heap.size (.cells #[.int .i64 1,.int .i64 E,.int .i64 0,.bool false,.string ⟨#[]⟩,.slice a0 1 c0,.slice a1 0 c1,.slice a2 0 c2,.slice a3 1 c3,.slice a4 0 c4] 35 (0,0)) W) ⟨(Below.refl _ _).alloc (Nat.le_refl _) _,Blk.new w2 _⟩ ?_;rintro w3 ⟨b3,x3⟩;have B3:=Lib.hid (up B2.out b3);have HR3:=Lib.hid (And.intro (HR2.out.1.go b3) (And.intro (HR2.out.2.1.go b3) (And.intro (HR2.out.2.2.1.go b3) HR2.out.2.2.2)));have XT3:=Lib.hid (XT2.out.go b3);obtain⟨q0,q1,q2,q3,q4,q5,q6,q7,q8,q9⟩:=blk10_cells x3;have hx3:=x3.lt;clear b3 x3 HR2 XT2 B2;go_upto_region 5 with fail;obtain⟨g11,hg11⟩:∃g11,g11=w3.heap.size:=⟨_,rfl⟩;refine abs_w (fun W=>Below w3.heap.size w3 W∧Blk w3.heap.size (.cells #[.int .i64 1,.int .i64 E,.int .i64 0,.bool false,.string ⟨#[]⟩,.slice a0 1 c0,.slice a1 0 c1,.slice a2 0 c2] 31 (0,0)) W) ⟨(Below.refl _ _).alloc (Nat.le_refl _) _,Blk.new w3 _⟩ ?_;rintro w4 ⟨b4,x4⟩;rw[←hg11]at x4⊢;have B4:=Lib.hid (up B3.out b4);have HR4:=Lib.hid (And.intro (HR3.out.1.go b4) (And.intro (HR3.out.2.1.go b4) (And.intro (HR3.out.2.2.1.go b4) HR3.out.2.2.2)));have XT4:=Lib.hid (XT3.out.go b4);have XN4:=Lib.hid x4;have hg4:=x4.lt;clear b4 x4 HR3 B3 XT3 hg11 q0 q1 q2 q3 q4 q5 q6 q7 q8 q9 hx3;have HEd:Hid (∀W,Below w4.heap.size w4 W→∀oa oc,RdS (· <W.heap.size) W O oa O.length oc→Calls Tryd.prog 16 #[.slice (some ⟨tb,0,none⟩) 2 2,.agg #[.int .i64 1,.int .i64 E,.int .i64 0,.bool false,.string ⟨#[]⟩,.slice a0 1 c0,.slice a1 0 c1,.slice a2 0 c2],.slice oa O.length oc] W fun e w'=>e=.returned (.tuple #[.agg zeroTn,.int .i64 12])∧Below W.heap.size W w'):=fun W hW oa oc hO=>by
  have h:=ndEdit_any [-1,0] (some ⟨tb,0,none⟩) 2 2 (fNd E) a0 c0 a1 c1 a2 c2 O oa oc 2 W (Hg.out.go (up B4.out hW)) (XT4.out.go hW) (HR4.out.1.go hW) (HR4.out.2.1.go hW) (HR4.out.2.2.1.go hW) HR4.out.2.2.2 hO HG1.out.1 HG1.out.2 (by omega);rw[HFe.out]at h;exact h.mono fun e w' h=>by unfold TurnE at h;rw[if_neg (by decide)]at h;exact h
 refine region5 (by kernel_rfl) (by kernel_rfl) (by kernel_rfl) [[],[],[],[2],[],[2,3,4],[0,1,2,3,4,5],[0,1,2,3,4,5,6],[0,1,2,3,4,5,6,7],[0,1,2,3,4,5,6,7],[],[0,1,2,3,4,5,6,7,8,10],[0,1,2,3,4,5,6,7,9]] (by kernel_rfl) [some 35,some 36,some 37,some 38,some 39,some 40,some 41,some 34,some 42,some 43,some 12,none,some 13] (by kernel_rfl) [[],[],[],[],[],[],[5],[],[],[],[],[10],[]]
  [.c (.slice (some ⟨tb,0,none⟩) 2 2),.c (.agg #[.int .i64 1,.int .i64 E,.int .i64 0,.bool false,.string ⟨#[]⟩,.slice a0 1 c0,.slice a1 0 c1,.slice a2 0 c2]),.c (.string c),.c (.int .i64 (rc c)),.c (.slice la ln lc),.p (fun x v A W=>∃a c,v=.slice a O.length c∧RdS A W O a O.length c),.c (.tuple #[.agg zeroTn,.int .i64 12]),.c (.tuple #[.agg zeroTn,.int .i64 12]),.c (.agg zeroTn),.c (.int .i64 12),.p (fun x v A W=>∃b,v=.pointer (some ⟨b,0,none⟩)∧A b∧w4.heap.size≤b∧Blk b (.cells zeroTn 35 (0,0)) W),.p (fun x v A W=>True),.c (.int .i64 12)]
  [.q,.n (fun x=>⟨(fZm 11 (.pointer (some ⟨g11,0,none⟩)) (fEm 25)).toArray,[]⟩),.q,.n (fun x=>⟨(fZm 37 (.string c) (fEm 1)).toArray,[]⟩),.q,.n (fun x=>⟨(fZm 38 (.int .i64 (rc c)) (fZm 0 (.slice la ln lc) (fEm 1))).toArray,[]⟩),.n (fun x=>⟨(fZm 35 (.slice (some ⟨tb,0,none⟩) 2 2) (fZm 0 (.agg #[.int .i64 1,.int .i64 E,.int .i64 0,.bool false,.string ⟨#[]⟩,.slice a0 1 c0,.slice a1 0 c1,.slice a2 0 c2]) (fZm 3 (x 5) (fEm 1)))).toArray,[]⟩),.q,.q,.q,.n (fun x=>⟨(fEm 13).toArray,[]⟩),.b 10 (fun x=>⟨(fZm 12 (x 10) (fZm 29 (.agg zeroTn) [])).toArray,[]⟩),.q]
  [] (by kernel_rfl) (fun _=>False) (fun _ h=>h.elim) ?mono ?pure ?fr [] (by kernel_rfl) ?arm ?fin
 case mono=>exact⟨(fun x x' v A A' W W' hx hA h=>(by obtain⟨a,c,e,h⟩:=h;exact⟨a,c,e,h.mono hA⟩)),(fun x x' v A A' W W' hx hA h=>(by obtain⟨b,e,h1,h2,h3⟩:=h;exact⟨b,e,(hA b h1).1,h2,(hA b h1).2.trans h3⟩)),(fun x x' v A A' W W' hx hA h=>trivial),trivial⟩
 case pure=>
  iterate 7 refine⟨fun x=>.inl ⟨by kernel_rfl,fun W=>by kernel_rfl⟩,?_⟩
  trivial
 case fr=>
  iterate 6 refine⟨fun x=>⟨by kernel_rfl,by kernel_rfl⟩,?_⟩
  trivial
 case arm=>
  refine⟨?_,?_,?_,?_,?_,?_,trivial⟩
  ·rintro x A W ⟨hT,hA,-⟩;dsimp only[fZm,fEm,List.reduceReplicate,List.cons_append,List.nil_append];have hB:=Lib.hid (hT.toBelow (Nat.le_refl _) (fun _ h=>h.elim));obtain⟨q0,q1,q2,q3,q4,q5,q6,q7⟩:=blk8_cells (XN4.out.go hB.out);go_wp2_with fail;exact done5 rfl ⟨Below.refl _ _,rfl⟩
  ·rintro x A W ⟨hT,hA,-⟩;dsimp only[fZm,fEm,List.reduceReplicate,List.cons_append,List.nil_append];have hB:=Lib.hid (hT.toBelow (Nat.le_refl _) (fun _ h=>h.elim));go_wp2_with fail;refine(HRu.out W).mono ?_;rintro e W' ⟨rfl,hb⟩;have HB:=Lib.hid hb;clear hb;go_wp2_with fail;exact done5 rfl ⟨HB.out,rfl⟩
  ·rintro x A W ⟨hT,hA,-⟩;dsimp only[fZm,fEm,List.reduceReplicate,List.cons_append,List.nil_append];have hB:=Lib.hid (hT.toBelow (Nat.le_refl _) (fun _ h=>h.elim));have HC:=Lib.hid (HOp.out W (HRw.out.go (up B4.out hB.out)));go_wp2_with fail;refine HC.out.mono ?_;rintro e W' ⟨oa,oc,rfl,hr,hb⟩;have HB:=Lib.hid hb;have HR:=Lib.hid hr;clear hb hr;go_wp2_with fail;exact done5 rfl ⟨HB.out,oa,oc,rfl,HR.out.mono fun z hz=>⟨.inr (.inl hz),rfl⟩⟩
  ·rintro x A W ⟨hT,hA,⟨a5,c5,u5,r5⟩,-⟩;dsimp only[fZm,fEm,List.reduceReplicate,List.cons_append,List.nil_append];simp only[u5];clear u5;have hB:=Lib.hid (hT.toBelow (Nat.le_refl _) (fun _ h=>h.elim));have HC:=Lib.hid (HEd.out W hB.out a5 c5 (r5.mono fun z hz=>⟨hA 5 (by simp) z hz,rfl⟩));clear r5;go_wp2_with fail;refine HC.out.mono ?_;rintro e W' ⟨rfl,hb⟩;have HB:=Lib.hid hb;clear hb;go_wp2_with fail;exact done5 rfl ⟨HB.out,rfl⟩
  ·rintro x A W ⟨hT,hA,-⟩;dsimp only[fZm,fEm,List.reduceReplicate,List.cons_append,List.nil_append];have hB:=Lib.hid (hT.toBelow (Nat.le_refl _) (fun _ h=>h.elim));go_wp2_with fail;exact done5 rfl ⟨(Below.refl _ _).alloc (Nat.le_refl _) _,_,rfl,.inr (.inl ⟨Nat.le_refl _,by simp⟩),hT.size,Blk.new _ _⟩
  ·rintro x A W ⟨hT,hA,⟨b10,u10,a10,g10,k10⟩,-⟩ hne;dsimp only[fZm,fEm,List.reduceReplicate,List.cons_append,List.nil_append];simp only[u10];clear u10;have hB:=Lib.hid (hT.toBelow (Nat.le_refl _) (fun _ h=>h.elim));obtain⟨p0,p1,p2,p3,p4,p5,p6,p7,p8,p9⟩:=blk10_cells k10;have pf:=k10.frozen;have hlt:=k10.lt;have HA:=Lib.hid (And.intro a10 g10);clear k10 a10 g10;go_wp2_with fail;exact done5 (v:=undef) rfl ⟨⟨b10,HA.out.1,HA.out.2,touch10 W b10 _ _ _ _ _ _ _ _ _ _⟩,by simp,trivial⟩
 case fin=>
  rintro x A W ⟨hT,hA,-⟩;simp only[getsC,VK.get,Nat.reduceAdd,Act.put,List.setIfInBounds_toArray,List.set_cons_succ,List.set_cons_zero];have hb5:=hT.toBelow (Nat.le_refl _) (fun _ h=>h.elim);have B5:=Lib.hid (up B4.out hb5);have HR5:=Lib.hid (And.intro (HR4.out.1.go hb5) (And.intro (HR4.out.2.1.go hb5) (And.intro (HR4.out.2.2.1.go hb5) HR4.out.2.2.2)));have XT5:=Lib.hid (XT4.out.go hb5);obtain⟨q0,q1,q2,q3,q4,q5,q6,q7⟩:=blk8_cells (XN4.out.go hb5);have hg5:=(XN4.out.go hb5).lt;have HHr:=Lib.hid (first_told (some ⟨tb,0,none⟩) E c W (Hg.out.go B5.out) XT5.out hE1 hE2 Hl.out a0 a1 a2 c0 c1 c2 HR5.out.1 HR5.out.2.1 HR5.out.2.2.1 HR5.out.2.2.2);clear hT hA hb5 HR4 XT4 XN4 HEd B4;go_wp2_with fail;refine HHr.out.mono ?_;rintro e w6 ⟨d0,f0,d1,f1,d2,f2,d3,f3,d4,f4,rfl,b6,hf6,s0,s1,s2⟩;have B6:=Lib.hid (up B5.out b6);have XT6:=Lib.hid (XT5.out.go b6);have HS6:=Lib.hid (And.intro s0 (And.intro s1 (And.intro s2 hf6)));clear b6 hf6 s0 s1 s2 HHr q0 q1 q2 q3 q4 q5 q6 q7 hg5 HR5 XT5 B5;go_upto_region 7 with fail;refine abs_w (fun W=>Below w6.heap.size w6 W∧Blk w6.heap.size (.cells #[.int .i64 1,.int .i64 E,.int .i64 0,.bool true,.string c,.slice d0 1 f0,.slice d1 0 f1,.slice d2 0 f2,.slice d3 1 f3,.slice d4 0 f4] 35 (0,0)) W) ⟨(Below.refl _ _).alloc (Nat.le_refl _) _,Blk.new w6 _⟩ ?_;rintro w7 ⟨b7,x7⟩;have B7:=Lib.hid (up B6.out b7);have XT7:=Lib.hid (XT6.out.go b7);have HS7:=Lib.hid (And.intro (HS6.out.1.go b7) (And.intro (HS6.out.2.1.go b7) (And.intro (HS6.out.2.2.1.go b7) HS6.out.2.2.2)));have X7:=Lib.hid x7;clear b7 x7 HS6 XT6 B6;go_wp2_with fail;refine(HRu.out w7).mono ?_;rintro e w8 ⟨rfl,b8⟩;have B8:=Lib.hid (up B7.out b8);have XT8:=Lib.hid (XT7.out.go b8);have HS8:=Lib.hid (And.intro (HS7.out.1.go b8) (And.intro (HS7.out.2.1.go b8) (And.intro (HS7.out.2.2.1.go b8) HS7.out.2.2.2)));have X8:=Lib.hid (X7.out.go b8);have HC8:=Lib.hid (HOp.out w8 (HRw.out.go B8.out));clear b8 HS7 XT7 B7 X7;go_wp2_with fail;refine HC8.out.mono ?_;rintro e w9 ⟨oa,oc,rfl,ro,b9⟩;have B9:=Lib.hid (up B8.out b9);have XT9:=Lib.hid (XT8.out.go b9);have HS9:=Lib.hid (And.intro (HS8.out.1.go b9) (And.intro (HS8.out.2.1.go b9) (And.intro (HS8.out.2.2.1.go b9) HS8.out.2.2.2)));have X9:=Lib.hid (X8.out.go b9);have RO9:=Lib.hid (ro.mono fun z hz=>(⟨hz.2,rfl⟩:z<w9.heap.size∧w9.heap[z]?=w9.heap[z]?));have HE9:=Lib.hid (first_edit (some ⟨tb,0,none⟩) E c O w9 (Hg.out.go B9.out) XT9.out hE1 hE2 Hl.out HO.out.1 HO.out.2.1 HO.out.2.2 d0 d1 d2 f0 f1 f2 HS9.out.1 HS9.out.2.1 HS9.out.2.2.1 HS9.out.2.2.2 oa oc RO9.out);obtain⟨p0,p1,p2,p3,p4,p5,p6,p7,p8,p9⟩:=blk10_cells X9.out;have hl9:=X9.out.lt;clear b9 ro HS8 XT8 B8 X8 HC8;go_wp2_with fail;refine HE9.out.mono ?_;rintro e w10 ⟨v4,g0,n0,m0,g1,n1,m1,g2,n2,m2,v8,v9,v10,pb,po,f3',qa,qc,rfl,b10,hpb,hf1,hf2,z5,xa,xc,z8,hx⟩;have B10:=Lib.hid (up B9.out b10);have X10:=Lib.hid (X9.out.go b10);have RO10:=Lib.hid (RO9.out.go b10);have HZ10:=Lib.hid (And.intro z5 (And.intro z8 hx));clear b10 z5 z8 hx HS9 XT9 B9 X9 RO9 HE9 p0 p1 p2 p3 p4 p5 p6 p7 p8 p9 hl9;go_upto_region 9 with fail;refine abs_w (fun W=>Below w10.heap.size w10 W∧Blk w10.heap.size (.cells #[.int .i64 v8,.int .i64 v9,.int .i64 v10,.bool v4,.string (applyS c O),.slice g0 n0 m0,.slice g1 n1 m1,.slice g2 n2 m2,.slice (some ⟨pb,po,none⟩) 1 f3',.slice qa 0 qc] 35 (0,0)) W) ⟨(Below.refl _ _).alloc (Nat.le_refl _) _,Blk.new w10 _⟩ ?_;rintro w11 ⟨b11,x11⟩;have B11:=Lib.hid (up B10.out b11);have X11:=Lib.hid x11;have Y11:=Lib.hid (X10.out.go b11);have RO11:=Lib.hid (RO10.out.go b11);have HZ11:=Lib.hid (And.intro ((b11.cell (p:=⟨pb,po+1+4,none⟩) hpb).trans HZ10.out.1) (And.intro ((b11.cell (p:=⟨pb,po+1+4+3,none⟩) hpb).trans HZ10.out.2.1) (HZ10.out.2.2.go b11)));have hpb11:pb<w11.heap.size:=by have:=b11.size;omega
  have HA11:=Lib.hid (HAp.out w11 oa oc (Hg.out.go B11.out) RO11.out);clear b11 x11 X10 RO10 HZ10 B10 hpb;go_wp2_with fail;refine HA11.out.mono ?_;rintro e w12 ⟨rfl,b12⟩;have B12:=Lib.hid (up B11.out b12);obtain⟨p0,p1,p2,p3,p4,p5,p6,p7,p8,p9⟩:=blk10_cells (X11.out.go b12);obtain⟨q0,q1,q2,q3,q4,q5,q6,q7,q8,q9⟩:=blk10_cells (Y11.out.go b12);have z5:=(b12.cell (p:=⟨pb,po+1+4,none⟩) hpb11).trans HZ11.out.1;have z8:=(b12.cell (p:=⟨pb,po+1+4+3,none⟩) hpb11).trans HZ11.out.2.1;have HSm:=Lib.hid (sameOp_ok O xa oa O.length xc O.length oc w12 (HZ11.out.2.2.go b12) (RO11.out.go b12));have hf2i:(f3':Int)≤9223372036854775807:=by unfold maxLen at hf2;omega
  have hf1i:(1:Int)≤(f3':Int):=by omega
  have hl11:=(X11.out.go b12).lt;have hl7:=(Y11.out.go b12).lt;have hpb12:pb<w12.heap.size:=by have:=b12.size;omega
  clear b12 X11 Y11 HZ11 RO11 B11 HA11;go_wp2_with fail;refine HSm.out.mono ?_;rintro e w13 ⟨rfl,b13⟩;have B13:=Lib.hid (up B12.out b13);clear b13 HSm p0 p1 p2 p3 p4 p5 p6 p7 p8 p9 q0 q1 q2 q3 q4 q5 q6 q7 q8 q9 z5 z8;go_wp2_with fail
  go_ret
  exact⟨rfl,B13.out⟩
end Go.Proofs.YtkbfhgcjimfgkaaDoor
set_option maxRecDepth 100000
namespace Go.Proofs.YtkbfhgcjimfgkaaDoor
open Go.RowKit Go.ChangeShapes Go.WideShapes Go.ChangeAt
open Go.ChangeMaps (open_string)
theorem laidOut:laidOutB Tryd.prog=true:=by kernel_rfl
theorem own:ownKnob Tryd.prog.godebug=none:=by kernel_rfl
section
variable {H:Type} {enc:TypeId×Value→H} {W W':World}
theorem all_below:∀{ts:List TypeId}{vs:List Value}{ds:List (DataW H)}{ps:List MemPlace},(∀t∈ts,Tryd.prog.readableRec t=true∧t<Tryd.prog.types.size)→
 DataW.TrodAll enc Tryd.prog W 0 (fun _=>true) true ts vs ds ps→(∀x∈ps,x.block<W.heap.size)→Below W.heap.size W W'→
 DataW.TrodAll enc Tryd.prog W' 0 (fun b=>decide (b<W.heap.size)) true ts vs ds ps
 |[],vs,ds,ps,_,h,_,_=>by
  obtain⟨rfl,rfl,rfl⟩:=trodAll_nil h;exact rfl
 |t::ts,vs,ds,ps,hr,h,hp,hb=>by
  obtain⟨v,vs',d,ds',p,q,rfl,rfl,rfl,h1,h2⟩:=trodAll_cons h;refine⟨p,q,?_,all_below (fun t ht=>hr t (by simp[ht])) h2 (fun x hx=>hp x (by simp[hx])) hb,rfl⟩;exact Below.trod laidOut (hr t (by simp)).1 (hr t (by simp)).2 h1 hb (fun x hx=>hp x (by simp[hx]))
theorem law_post {f:Func}{s:ChangeSpec}{args:Array Value}{ds gs:List (DataW H)}{before:List MemPlace}(hr:∀t∈f.params.toList,Tryd.prog.readableRec t=true∧t<Tryd.prog.types.size)
 (hv:s.vars=[]) (hrt:f.resultTypes=#[4]) (hs:∀xs,xs=ds→(s.fn H xs).results=[.lit (.bool true)]∧(s.fn H xs).args=xs∧(s.fn H xs).vars=[])
 (hW:DataW.Whole enc Tryd.prog f.params.toList s.vars false W args.toList ds gs before) (hb:Below W.heap.size W W'):
 s.post enc Tryd.prog f false true false false W args (.bool true) W':=by
 have hlt:∀p∈before,p.block<W.heap.size:=fun p hp=>hW.lt p hp;have hW':=hW;obtain⟨p,q,hA,hV,rfl,hz,hn⟩:=hW;rw[hv]at hV;obtain⟨rfl,rfl⟩:=trodVars_none hV;obtain⟨e1,e2,e3⟩:=hs (ds++[]) (by simp);refine⟨ds,[],_,[],p,[],hW',?_,?_,?_,hb.frame _,fun h=>by cases h⟩
 ·rw[hrt,e1];exact⟨[],[],shut_bool Tryd.underlying4 true,rfl,rfl⟩
 ·rw[e2,List.append_nil];exact all_below hr hA (fun x hx=>hlt x (by simp[hx])) hb
 ·rw[hv,e3];exact rfl
theorem arg_int {v:Value}{d:DataW H}{p:List MemPlace}(hv:Value.okWide Tryd.prog W .any 0 3 v)(h:DataW.Trod enc Tryd.prog W 0 (fun _=>true) true 3 v d p):∃x,v=.int .i64 x∧I64 x:=by
 obtain⟨x,rfl,_,_,wx⟩:=open_int Tryd.underlying3 hv h;refine⟨x,rfl,?_⟩;simpa[I64,Lit.wf,IntKind.min,IntKind.max,IntKind.bits,IntKind.signed]using wx
end
end Go.Proofs.YtkbfhgcjimfgkaaDoor
set_option maxRecDepth 100000
namespace Go.Proofs.YtkbfhgcjimfgkaaDoor
open Go.RowKit Go.ChangeShapes Go.WideShapes Go.ChangeAt Go.Deep Go.Joins
open Go.ChangeMaps (open_string)
section
variable {H:Type} {enc:TypeId×Value→H} {P:Program} {w:World} {base:Nat} {spare:Nat→Bool} {held:Bool}
theorem open_slice_fields {t e:TypeId}{fs:Array Field}{fuel:Nat}{cs:List Value}{x:DataW H×List MemPlace}(ht:P.underlying t=some (.slice e))(he:P.underlying e=some (.struct fs))
 (hone:oneCellFields P fs=true) (hC:P.cellsOf e=fs.size) (h:DataW.trod enc P w base spare held fuel t cs=some x):
 (cs=[.slice none 0 0]∧x=(.nil,[]))∨
 ∃(a:Addr)(len cap m:Nat)(D:Nat→DataW H)(Pl:Nat→List MemPlace),cs=[.slice (some a) len cap]∧base≤a.block∧len≤cap∧cap≤maxLen∧m=(if spare a.block then cap else len)∧
  x=(.slice ((List.range len).map D) ((List.range (m-len)).map fun j=>D (len+j)),MemPlace.row a (m*fs.size)++(List.range m).flatMap Pl)∧
  ∀i,i<m→∃(ys:List (DataW H×List MemPlace))(n:Nat),D i=.agg (ys.map (·.1))∧Pl i=ys.flatMap (·.2)∧ys.length=fs.size∧
   ∀(j:Nat)(f:Field),fs[j]?=some f→∃(v:Value)(y:DataW H×List MemPlace),w.cell? (a.add (i*fs.size+j))=some v∧ys[j]?=some y∧DataW.trod enc P w base spare held n f.type [v]=some y:=by
 rcases open_slice ht h with h0|⟨a,len,cap,m,n,D,Pl,hcs,hb,hl,hm,hmm,hx,hi⟩
 ·exact .inl h0
 ·refine .inr ⟨a,len,cap,m,D,Pl,hcs,hb,hl,hm,hmm,by rw[hC]at hx;exact hx,fun i him=>?_⟩;obtain⟨cs',hc,ht'⟩:=hi i him;rw[hC]at hc;obtain⟨ys,n',hn',hy,hlen,hyl,hf⟩:=DataW.trod_struct he ht';obtain⟨_,hcl,hat⟩:=World.cells?_some hc;simp only[Prod.mk.injEq]at hy;refine⟨ys,n',hy.1,hy.2,hyl,fun j f hj=>?_⟩;obtain⟨ho,hk⟩:=hone_of hone j f hj;have hjl:j<fs.size:=(Array.getElem?_eq_some_iff.1 hj).1;have hcell:=hat j hjl;have hv:cs'[j]?=some (cs'[j]'(by omega)):=List.getElem?_eq_getElem (by omega);have h1:=hf j f hj;rw[ho,hk]at h1;have hone':(cs'.drop j).take 1=[cs'[j]'(by omega)]:=by
   rw[List.drop_eq_getElem_cons (by omega)];rfl
  rw[hone']at h1;have hys:ys[j]?=some (ys[j]'(by omega)):=List.getElem?_eq_getElem (by omega);refine⟨_,_,?_,hys,h1.trans hys⟩;rw[←Go.Deep.add_add,hcell,hv]
end
section
variable {H:Type} {enc:TypeId×Value→H} {P:Program} {w:World} {base:Nat} {spare:Nat→Bool} {held:Bool}
end
section
variable {H:Type} {enc:TypeId×Value→H} {W W':World}
theorem arg_str {v:Value}{d:DataW H}{p:List MemPlace}(hv:Value.okWide Tryd.prog W .any 0 9 v)(h:DataW.Trod enc Tryd.prog W 0 (fun _=>true) true 9 v d p):∃s:ByteArray,v=.string s∧s.size≤maxLen:=by
 obtain⟨s,rfl,_,_,hs⟩:=open_string Tryd.underlying9 hv h;exact⟨s,rfl,hs⟩
theorem cells_raw:Tryd.prog.cellsOf 99=5:=by kernel_rfl
theorem wf_i64 {x:Int}(h:(Lit.int .i64 x).wf=true):I64 x:=by simpa[I64,Lit.wf,IntKind.min,IntKind.max,IntKind.bits,IntKind.signed]using h
theorem field_int {n:Nat}{v:Value}{y:DataW H×List MemPlace}{base:Nat}(h:DataW.trod enc Tryd.prog W base (fun _=>true) true n 3 [v]=some y):∃x,v=.int .i64 x∧I64 x:=by
 obtain⟨x,h1,_,h3⟩:=DataW.trod_int Tryd.underlying3 h;simp at h1;exact⟨x,h1,wf_i64 h3⟩
theorem field_str {n:Nat}{v:Value}{y:DataW H×List MemPlace}{base:Nat}(h:DataW.trod enc Tryd.prog W base (fun _=>true) true n 9 [v]=some y):∃s:ByteArray,v=.string s∧s.size≤maxLen:=by
 obtain⟨s,h1,_,h3⟩:=DataW.trod_string Tryd.underlying9 h;simp at h1;exact⟨s,h1,h3⟩
theorem arg_raws {v:Value}{d:DataW H}{p:List MemPlace}(hv:Value.okWide Tryd.prog W .any 0 56 v)(h:DataW.Trod enc Tryd.prog W 0 (fun _=>true) true 56 v d p):
 ∃a n c,∃l:List Raw,v=.slice a n c∧RdS (· <W.heap.size) W l a n c:=by
 obtain⟨a,n,c,rfl⟩:=okWide_slice Tryd.underlying56 hv;obtain⟨fuel,hf⟩:=h;refine⟨a,n,c,?_⟩;rcases open_slice_fields Tryd.underlying56 Tryd.underlying99 (by kernel_rfl) cells_raw hf with⟨hcs,_⟩|⟨ad,len,cap,m,D,Pl,hcs,_,hl,hm,hmm,_,hx⟩
 ·simp[Value.cells]at hcs;obtain⟨rfl,rfl,rfl⟩:=hcs;exact⟨[],rfl,rfl,by omega,by unfold maxLen;omega,fun _=>rfl,fun h=>absurd h (by omega)⟩
 ·simp[Value.cells]at hcs;obtain⟨rfl,rfl,rfl⟩:=hcs;simp only[if_true]at hmm;subst hmm;have each:∀i,i<n→∃x:Raw,x.ok∧∀j u,(rawCells x)[j]?=some u→W.cell? (ad.add (i*5+j))=some u:=by
   intro i hi;obtain⟨ys,f,_,_,_,hfld⟩:=hx i (by omega);obtain⟨v0,y0,c0,_,t0⟩:=hfld 0 _ rfl;obtain⟨v1,y1,c1,_,t1⟩:=hfld 1 _ rfl;obtain⟨v2,y2,c2,_,t2⟩:=hfld 2 _ rfl;obtain⟨v3,y3,c3,_,t3⟩:=hfld 3 _ rfl;obtain⟨v4,y4,c4,_,t4⟩:=hfld 4 _ rfl;obtain⟨x0,rfl,b0⟩:=field_int t0;obtain⟨x1,rfl,b1⟩:=field_int t1;obtain⟨x2,rfl,b2⟩:=field_int t2;obtain⟨x3,rfl,b3⟩:=field_int t3;obtain⟨x4,rfl,b4⟩:=field_str t4;refine⟨⟨x0,x1,x2,x3,x4⟩,⟨b0,b1,b2,b3,b4⟩,fun j u hu=>?_⟩
   match j,hu with
   |0,hu=>simp[rawCells]at hu;rw[←hu];exact c0
   |1,hu=>simp[rawCells]at hu;rw[←hu];exact c1
   |2,hu=>simp[rawCells]at hu;rw[←hu];exact c2
   |3,hu=>simp[rawCells]at hu;rw[←hu];exact c3
   |4,hu=>simp[rawCells]at hu;rw[←hu];exact c4
  obtain⟨g,hg⟩:∃g:Nat→Raw,∀i,i<n→(g i).ok∧∀j u,(rawCells (g i))[j]?=some u→W.cell? (ad.add (i*5+j))=some u:=by
   classical
   refine⟨fun i=>if h:i<n then(each i h).choose else⟨0,0,0,0,noText⟩,fun i hi=>?_⟩;simp only[dif_pos hi];exact(each i hi).choose_spec
  refine⟨(List.range n).map g,rfl,by simp,hl,hm,(fun h=>by cases h),fun hn=>?_⟩;have h0:=(hg 0 (by omega)).2 0 _ rfl;have hs:ad.spot=none:=by
   cases hs:ad.spot with
   |none=>rfl
   |some k=>unfold World.cell? at h0;simp[Addr.add,hs]at h0;split at h0<;>cases h0
  have hlt:ad.block<W.heap.size:=World.block_lt_of_cell? W (ad.add (0*5+0)) h0;obtain⟨b,off,spot⟩:=ad;simp only at hs hlt;subst hs;refine⟨b,off,rfl,hlt,hlt,fun i x hi=>?_⟩;have hin:i<n:=by
   have:=(List.getElem?_eq_some_iff.1 hi).1;simpa using this
  have hxi:x=g i:=by
   rw[List.getElem?_map,List.getElem?_range hin]at hi;simp at hi;exact hi.symm
  subst hxi;refine⟨rawCells (g i),⟨rfl,(hg i hin).1⟩,fun j u hu=>?_⟩;have h1:=(hg i hin).2 j u hu;have e:(⟨b,off,none⟩:Addr).add (i*5+j)=⟨b,off+(i*5+j),none⟩:=by
   unfold Addr.add;split
   ·rename_i h0;rw[h0];rfl
   ·rfl
  rw[e]at h1;simp only[Rep.n];rw[Nat.add_assoc];exact h1
end
theorem accept_eq:(Rows.laid_unicode_utf8_acceptRanges:DataW Unit)=Lib.acceptData:=by kernel_rfl
theorem first_eq:Rows.laid_unicode_utf8_first=Lib.firstData:=Pinned.utf8First_eq
theorem good_of {W:World}(hL:laidMetH Tryd.prog [("unicode/utf8.acceptRanges",Rows.laid_unicode_utf8_acceptRanges),("unicode/utf8.first",Rows.laid_unicode_utf8_first)] W):Good W:=by
 have hL2:laidMet Tryd.prog [("unicode/utf8.acceptRanges",Rows.laid_unicode_utf8_acceptRanges),("unicode/utf8.first",Rows.laid_unicode_utf8_first)] W:=hL;rw[accept_eq,first_eq]at hL2;have htab:Lib.Utf8Tabs (Tryd.lays196_ren.g 3) (Tryd.lays196_ren.g 4) W:=
  utf8Tabs_of_readsT (U8Types.of196 Tryd.lays196) ⟨by kernel_rfl,by kernel_rfl,by kernel_rfl,by kernel_rfl,by kernel_rfl,by kernel_rfl,by kernel_rfl⟩ (Lib.laidMet.reads hL2 (.tail _ (.head _))) (Lib.laidMet.reads hL2 (.head _))
 have h1:=World.block_lt_of_cell? W _ (htab.2 0 (by omega)).1;have h0:=World.block_lt_of_cell? W _ (htab.1 0 (by omega));refine⟨?_,htab⟩;have e1:Tryd.lays196_ren.g 4=1:=rfl;have e0:Tryd.lays196_ren.g 3=0:=rfl;rw[e1]at h1;rw[e0]at h0;simp only at h0 h1;omega
noncomputable def laidWorld (os:Os):World:=
 let w0:=World.holding Tryd.prog os ⟨#[],#[],[]⟩
 let put (h:Array Obj) (g:Nat) (cs:Array Value):Array Obj:=h.modify g fun
  |.cells _ t frozen=>.cells cs t frozen
  |o=>o
 let h1:=put w0.heap 0 (Lib.firstTab.map fun z=>Value.int .u8 z).toArray
 let h2:=put h1 1 ((List.range 16).flatMap fun i=>[Value.int .u8 (Lib.accLo i),Value.int .u8 (Lib.accHi i)]).toArray
 {w0 with heap:=h2}
theorem laid_met (os:Os)(args:Array Value):laidMet Tryd.prog [("unicode/utf8.acceptRanges",Rows.laid_unicode_utf8_acceptRanges),("unicode/utf8.first",Rows.laid_unicode_utf8_first)] ((laidWorld os).forCall (fun _ _=>0) ⟨#[],args,[]⟩).memory:=by
 rw[accept_eq,first_eq];exact(LaidIn.of_run (l:=[("unicode/utf8.acceptRanges",Lib.acceptData),("unicode/utf8.first",Lib.firstData)]) [1,0] 8 (by kernel_rfl) (by kernel_rfl) (by kernel_rfl) (by kernel_rfl)).met
end Go.Proofs.YtkbfhgcjimfgkaaDoor
