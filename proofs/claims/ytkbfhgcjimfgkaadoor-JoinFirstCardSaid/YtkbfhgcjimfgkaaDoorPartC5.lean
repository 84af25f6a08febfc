/- Plain: what node.Begin makes is a node that may be; who is not the root asks its parent. No program in sight. -/
import Derived.Test.YtkbfhgcjimfgkaaDoorPartC4
import Derived.Outline
import Derived.Test.YtkbfhgcjimfgkaaDoorPartC3
import Derived.Test.YtkbfhgcjimfgkaaDoorPartA5
import Derived.Test.YtkbfhgcjimfgkaaDoorPartB6
import Derived.Test.YtkbfhgcjimfgkaaDoorPartA7
import Derived.Test.YtkbfhgcjimfgkaaDoorPartC1
import Derived.Test.YtkbfhgcjimfgkaaDoorPartB1
import Derived.Test.YtkbfhgcjimfgkaaDoorPartC0
import Derived.Test.YtkbfhgcjimfgkaaDoorPartB8
set_option linter.unusedVariables false
set_option linter.unusedSimpArgs false
set_option linter.unusedSimpArgs false
namespace Go.Proofs.YtkbfhgcjimfgkaaDoor
open Go.RowKit
theorem iv_sums (a:List P):∀t:List Nat,FS a≤t.length→FS (iv t a)=TS a∧TS (iv t a)=FS a:=by
 induction a with
 |nil=>intro t _;simp[iv,FS,TS]
 |cons p a ih=>
  intro t h;cases p with
  |k n=>
   simp only[FS,P.F]at h;obtain⟨i1,i2⟩:=ih (t.drop n) (by rw[List.length_drop];omega);simp only[iv,FS,TS,P.F,P.T];omega
  |i l=>
   simp only[FS,P.F,Nat.zero_add]at h;obtain⟨i1,i2⟩:=ih t h;simp only[iv,FS,TS,P.F,P.T];omega
  |d n=>
   simp only[FS,P.F]at h;obtain⟨i1,i2⟩:=ih (t.drop n) (by rw[List.length_drop];omega);have hl:(t.take n).length=n:=by rw[List.length_take];omega
   simp only[iv,FS,TS,P.F,P.T,hl];omega
def ivR (t:List Nat)(l:List P)(k:Nat):List P:=build (iv t (l.take k))
theorem ivR_next (t:List Nat)(l:List P)(k:Nat)(h:k<l.length):ivR t l (k+1)=(iv (t.drop (FS (l.take k))) [l[k]]).foldl addP (ivR t l k):=by
 unfold ivR build;rw[List.take_succ_eq_append_getElem h,iv_app,List.foldl_append]
structure Ivs (w:World) (b g:Nat) (rs:List Nat) (R:List P) (v:Value) (wr:World):Prop where
 bd:Bd b (b+1) b R v wr
 run:RunesAt wr g rs
 gb:g<b
 below:Below w.heap.size w wr
 wb:w.heap.size≤b
theorem Ivs.lt {w wr:World}{b g:Nat}{rs:List Nat}{R:List P}{v:Value}(h:Ivs w b g rs R v wr):b<wr.heap.size:=h.bd.bag.lt
theorem Ivs.go {w wr W:World}{b g:Nat}{rs:List Nat}{R:List P}{v:Value}(h:Ivs w b g rs R v wr)(hb:Below wr.heap.size wr W):Ivs w b g rs R v W:=
 ⟨h.bd.go hb,h.run.below hb h.run.1,h.gb,up h.below hb,h.wb⟩
theorem Ivs.put {w wr W:World}{b g:Nat}{rs:List Nat}{R R':List P}{v:Value}{cs:Obj}{e:Ending}(h:Ivs w b g rs R v wr)(ha:AddB b (b+1) b R' v (wr.alloc cs) e W):
 e=.returned (.tuple #[])∧∃v',Ivs w b g rs R' v' W∧Blk wr.heap.size cs W:=by
 obtain⟨v',he,hp,ht,hv⟩:=ha;have hlt:=h.lt;have hS:∀z,Bag.S b v z→b≤z∧z<wr.heap.size:=fun z hz=>by
  rcases hz with h'|h'
  ·omega
  ·have:=h.bd.bag.rowlt z h';omega
 have hal:Below wr.heap.size wr (wr.alloc cs):=(Below.refl _ _).alloc (Nat.le_refl _) _;have hz:(wr.alloc cs).heap.size=wr.heap.size+1:=by simp
 have hB:Below b (wr.alloc cs) W:=ht.toBelow (by omega) (fun k hk=>(hS k hk).1);have h1:=h.go hal;refine⟨he,v',⟨hp,h1.run.below hB h.gb,h.gb,h1.below.trans (hB.mono h.wb),h.wb⟩,(Blk.new wr cs).touch ht (fun hz=>?_)⟩;have:=hS _ hz;omega
theorem Ivs.put0 {w W0 W:World}{b g:Nat}{rs:List Nat}{R R':List P}{v:Value}{e:Ending}(h:Ivs w b g rs R v W0)(ha:AddB b (b+1) b R' v W0 e W):
 e=.returned (.tuple #[])∧∃v',Ivs w b g rs R' v' W:=by
 obtain⟨v',he,hp,ht,hv⟩:=ha;have hlt:=h.lt;have hS:∀z,Bag.S b v z→b≤z∧z<W0.heap.size:=fun z hz=>by
  rcases hz with h'|h'
  ·omega
  ·have:=h.bd.bag.rowlt z h';omega
 have hB:Below b W0 W:=ht.toBelow (by omega) (fun k hk=>(hS k hk).1);exact⟨he,v',⟨hp,h.run.below hB h.gb,h.gb,h.below.trans (hB.mono h.wb),h.wb⟩⟩
set_option maxRecDepth 100000 in
set_option maxHeartbeats 4000000 in
theorem invert_new (s:Str)(o:Op)(a:Option Addr)(n c:Nat)(w:World)(hg:Good w)(hr:RdS (· <w.heap.size) w o a n c)(hs:s.size≤70368744177664)(h0:checkText s=0)(h1:check o=0)(h2:sumF o=rc s):
 Calls Tryd.prog 56 #[.string s,.slice a n c] w fun e w'=>∃(a':Option Addr)(c':Nat),e=.returned (.tuple #[.slice a' (invO s o).length c',.int .i64 0])∧RdS (fun z=>w.heap.size≤z∧z<w'.heap.size) w' (invO s o) a' (invO s o).length c'∧Below w.heap.size w w':=by
 have HA:=Lib.hid (apply_any s o a n c w hg hr hs);rw[(apply_good h0 h1 h2).1]at HA;generalize applyS s o=ss at*;have hrc:=rc_rns s;obtain⟨R,hRz,hR,hconv⟩:=runes_of s hs;have hO:=opIs h1;have hnl:n=(opP o).length:=by have h:=hr.1;rw[h];unfold opP;simp
 have hn2:n≤8001:=by rw[hnl];exact hO.len
 have hcells:=fun h=>hO.cells hr h;have hFl:=hO.fl;have hTl:=hO.tl;have hF:FS (opP o)=(rns s).length:=by have:=hO.f;omega
 have hok:=hO.ok;have hvr:=rns_vr (valid_of h0).1;obtain⟨L,HL⟩:∃L,Hid (L=invO s o):=⟨_,rfl⟩;rw[←HL.out];have Hfin:Hid ((ivR (rns s) (opP o) (opP o).length).reverse.map P.part=L):=by
  unfold Hid;rw[HL.out];unfold ivR invO opOfP;rw[List.take_length]
 clear hr hO h0 h1 h2 hg hrc HL;generalize opP o=l at*;generalize rns s=rs at*;have Hcells:=Lib.hid hcells;have Hl:=Lib.hid hnl;have HF:=Lib.hid hF;have HR:=Lib.hid hR;have Hvr:=Lib.hid hvr;have Hok:=Lib.hid hok;have Hsm:Hid (∀k,k≤l.length→FS (ivR rs l k)+TS (ivR rs l k)≤100000):=by
  unfold Hid;intro k hk;have h3:=FS_take l k;have h4:=TS_take l k;obtain⟨h5,h6⟩:=iv_sums (l.take k) rs (by omega);unfold ivR;rw[build_FS,build_TS];omega
 clear hcells hnl hF hRz hR hvr hok;go_enter Tryd.func56,Tryd.ntmps56;go_wp2_with fail;refine HA.out.mono ?_;rintro e w2 ⟨rfl,hb2⟩;clear HA;have hcv:=hconv w2;have hlim:rs.length≤4000:=by have:=HF.out;omega
 go_wp2_with fail;refine abs_w (fun W=>∃v,Ivs w (w2.heap.size+1) w2.heap.size rs (ivR rs l 0) v W∧v=.slice none 0 0) ?_ ?_
 ·have q1:=runesAt_new w2 R (Array.replicate (grownCap w2 rs.length 0 21-rs.length) (.int .i32 0)) rs HR.out 21;have hz2:=hb2.size;have e0:ivR rs l 0=[]:=by unfold ivR;simp[iv,build]
  rw[e0];have q2:RunesAt ((w2.alloc (.cells (R++Array.replicate (grownCap w2 rs.length 0 21-rs.length) (.int .i32 0)) 21)).drew.alloc (.cells #[.slice none 0 0] 160)) w2.heap.size rs:=q1.below ((Below.refl _ _).alloc (Nat.le_refl _) _) q1.1;exact⟨_,⟨⟨⟨Nat.le_refl _,Blk.at _ _ _ (by simp),World.ownsRow_nil _ _ _ _,by simp[Value.ownBlock]⟩,trivial,fun g hg=>by cases hg⟩,q2,by omega,by(repeat (first|exact Below.refl _ _|assumption|(refine Below.drew ?_)|(refine below_drewN ?_ _)|(refine Below.alloc ?_ (by first|(simp;done)|(simp;omega)|omega) _)|(refine Below.setCell ?_ (by first|(simp;done)|(simp;omega)|omega) _)|(refine Below.trans ?_ (Below.mono (by assumption) (by first|(simp;done)|(simp;omega)|omega))))),by have:=hb2.size;omega⟩,rfl⟩
 rintro w3 ⟨v0,h3,hv0⟩;have H3:=Lib.hid h3;have hcap:=grownCap_ge w2 rs.length 0 21;have hcapm:grownCap w2 rs.length 0 21≤maxLen:=grownCap_le_maxLen w2 rs.length 0 21 (by unfold maxLen;omega);unfold maxLen at hcapm;have hz2:=hb2.size;generalize grownCap w2 rs.length 0 21=cap at*;generalize w2.heap.size=g at*;clear h3 hv0 hcv hconv HR hb2;go_loopw [10,28] (fun t i wr=>∃(k:Nat)(v:Value),k≤n∧i=.int .i64 k∧t=.int .i64 ((FS (l.take k):Nat):Int)∧Ivs w (g+1) g rs (ivR rs l k) v wr) (fun _ i _=>n-(intOf i).toNat)
 case atStart=>exact⟨0,v0,by omega,rfl,rfl,H3.out⟩
 case round=>
  obtain⟨k,v,hk,rfl,rfl,hiv⟩:=hrel;clear H3 v0;by_cases hlt:k<n
  ·obtain⟨b,off,rfl,_,hbs,hcs⟩:=Hcells.out (by omega);have hkl:k<l.length:=by have:=Hl.out;omega
   obtain⟨c0,c1,c2⟩:=hcs k l[k] (List.getElem?_eq_getElem hkl);clear hcs;obtain⟨hcb,hfb⟩:=bcell hiv.below;have HFn:=Lib.hid (FS_next l k hkl);have Hnx:=Lib.hid (ivR_next rs l k hkl);have hFk:=FS_take l (k+1);have hFl2:=HF.out;have hok:=Hok.out l[k] (List.getElem_mem hkl);have hsm:=Hsm.out k (by omega);have hTn:=TS_next l k hkl;have hTt:=TS_take l (k+1);rw[hTn]at hTt;clear hTn;have hx:FS (l.take (k+1))=FS (l.take k)+l[k].F:=FS_next l k hkl;rw[hx]at hFk;clear hx;have hlt2:=hiv.lt;have Hiv:=Lib.hid hiv;clear hiv;generalize FS (l.take k)=F at*;generalize l[k]=p at*;generalize ivR rs l k=RR at*;cases p with
   |k m=>
    simp only[P.part,P.F,P.ok,P.T]at c0 c1 c2 hFk hok HFn hTt;simp only[iv,List.foldl_cons,List.foldl_nil]at Hnx;have hm4:m≤100000:=by omega
    have hFm:F+m≤4000:=by omega
    have HK:=Lib.hid (fun cs=>bkeep (g+1) (g+1+1) (g+1) RR v m (wr.alloc cs) (Hiv.out.bd.go ((Below.refl _ _).alloc (Nat.le_refl _) _)) hsm (by omega) (by simp;omega));clear hFl2 hFl hTl hTt hsm;go_wp2_with fail;refine(HK.out _).mono ?_;intro e w6 hadd;obtain⟨rfl,v6,h6,b6⟩:=Hiv.out.put hadd;rw[←Hnx.out]at h6;have H6:=Lib.hid h6;have d1:w6.cell? ⟨wr.heap.size,1,none⟩=some (.int .i64 ((m:Nat):Int)):=b6.cell 1;clear hadd h6 b6 HK Hiv hcb hfb Hnx;go_wp2_with fail;go_roundw
    case rel=>exact⟨k+1,v6,by omega,by go_num,by rw[HFn.out];go_num,H6.out⟩
    case measure=>simp[intOf];omega
   |i t=>
    simp only[P.part,P.F,P.ok,P.T]at c0 c1 c2 hFk hok HFn hTt;simp only[iv,List.foldl_cons,List.foldl_nil]at Hnx;have hz:=enc_size t hok.2;have ht4:t.length≤4000:=by omega
    have hrct:=rc_enc t hok.2;have HC:=Lib.hid (fun W:World=>rc_any (Uni.enc t) W (by unfold strMax;omega));rw[hrct]at HC;have HK:=Lib.hid (fun W (hI:Ivs w (g+1) g rs RR v W)=>bremove (g+1) (g+1+1) (g+1) RR v t.length W hI.bd hsm (by omega) (by have:=hI.lt;omega));have Hal:=Lib.hid (Hiv.out.go ((Below.refl _ _).alloc (Nat.le_refl _) (.cells #[.int .i64 2,.int .i64 0,.string (Uni.enc t)] 53)));clear hFl2 hFl hTl hTt hsm hrct;generalize Uni.enc t=T at*;go_wp2_with fail;refine(HC.out _).mono ?_;rintro e w5 ⟨rfl,u5⟩;have H5:=Lib.hid (Hal.out.go u5);clear u5 Hal HC Hiv;go_wp2_with fail;refine(HK.out _ H5.out).mono ?_;intro e w6 hadd;obtain⟨rfl,v6,h6⟩:=H5.out.put0 hadd;rw[←Hnx.out]at h6;have H6:=Lib.hid h6;clear hadd h6 HK H5 hcb hfb Hnx;go_wp2_with fail;go_roundw
    case rel=>exact⟨k+1,v6,by omega,by go_num,by rw[HFn.out];go_num,H6.out⟩
    case measure=>simp[intOf];omega
   |d m=>
    simp only[P.part,P.F,P.ok,P.T]at c0 c1 c2 hFk hok HFn hTt;simp only[iv,List.foldl_cons,List.foldl_nil]at Hnx;have hrl:F+m≤rs.length:=by omega
    have hFm:F+m≤4000:=by omega
    have hvt:∀r∈(rs.drop F).take m,Uni.vr r:=fun r h=>Hvr.out r (List.mem_of_mem_drop (List.mem_of_mem_take h));have hlt4:((rs.drop F).take m).length≤4000:=by rw[List.length_take];omega
    have HK:=Lib.hid (fun cs=>binsert (g+1) (g+1+1) (g+1) RR v ((rs.drop F).take m) (wr.alloc cs) (Hiv.out.bd.go ((Below.refl _ _).alloc (Nat.le_refl _) _)) hsm (by omega) hvt (by simp;omega));have hcv:=((Hiv.out.go ((Below.refl _ _).alloc (Nat.le_refl _) (.cells #[.int .i64 3,.int .i64 ((m:Nat):Int),.string noText] 53))).run).conv F m (cap-F) hrl
    clear hFl2 hFl hTl hTt hsm hvt hlt4;generalize (rs.drop F).take m=T at*;go_wp2_with fail;refine(HK.out _).mono ?_;intro e w6 hadd;obtain⟨rfl,v6,h6,b6⟩:=Hiv.out.put hadd;rw[←Hnx.out]at h6;have H6:=Lib.hid h6;have d1:w6.cell? ⟨wr.heap.size,1,none⟩=some (.int .i64 ((m:Nat):Int)):=b6.cell 1;clear hadd h6 b6 HK Hiv hcb hfb Hnx hcv;go_wp2_with fail;go_roundw
    case rel=>exact⟨k+1,v6,by omega,by go_num,by rw[HFn.out];go_num,H6.out⟩
    case measure=>simp[intOf];omega
  ·have hkn:k=l.length:=by have:=Hl.out;omega
   subst hkn;have RX:=hiv.bd.bag.rd (can_fit hiv.bd.can (Hsm.out _ (Nat.le_refl _))) (A:=fun z=>w.heap.size≤z∧z<wr.heap.size) (fun z hz=>⟨by have:=(hiv.bd.bag.rowlt z hz).1;have:=hiv.wb;omega,(hiv.bd.bag.rowlt z hz).2⟩);rw[←List.map_reverse,Hfin.out]at RX;obtain⟨ax,cx,rfl,hrx⟩:=RX;have c0:wr.cell? ⟨g+1,0,none⟩=some (.slice ax L.length cx):=(show Blk (g+1) _ wr from hiv.bd.bag.blk).cell 0;have HX:=Lib.hid hrx;have HB:=Lib.hid hiv.below;clear hiv hrx;go_wp2_with fail
   go_ret2
   exact⟨ax,cx,rfl,HX.out,HB.out⟩
end Go.Proofs.YtkbfhgcjimfgkaaDoor
set_option linter.unusedSimpArgs false
namespace Go.Proofs.YtkbfhgcjimfgkaaDoor
open Go.RowKit
theorem text_small {t:Str}(h:checkText t=0):t.size≤70368744177664:=by
 obtain⟨hv,hr⟩:=valid_of h;have h2:=enc_size (rns t) (rns_vr hv);rw[enc_rns hv]at h2;have h3:=rc_rns t;omega
def Tn.setText (t:Tn)(s:Str):Tn:={t with node:={t.node with text:=s}}
def Tn.edited (t:Tn)(o:Op):Tn:=(((t.setText (applyS t.node.text o)).move true o)).forward o (-1)
def Tn.full (t:Tn)(o:Op):Bool:=(o.any isIns&&decide (300<sumT o))||t.node.sides.any isFull
set_option maxRecDepth 100000 in
set_option maxHeartbeats 8000000 in
theorem ndEdit_ok (base g:Nat)(t:Tn)(vs:Nat→Value)(o:Op)(oa:Option Addr)(oc:Nat)(w:World)(hg:Good w)(h:WkM base g t vs w)(hr:RdS (NM g vs w) w o oa o.length oc)(hy:t.node.ready=true)(h0:checkText t.node.text=0)(h1:check o=0)(h2:sumF o=rc t.node.text)(hF:t.full o=false)
 (hk:∀v2 W,Good W→WkM base g ((t.setText (applyS t.node.text o)).move true o) v2 W→RdS (NM g v2 W) W o oa o.length oc→Calls Tryd.prog 62 #[.pointer (some ⟨g,0,none⟩),.slice oa o.length oc,.int .i64 (-1)] W fun e w'=>e=.returned (.tuple #[])∧WkS base g (t.edited o) v2 W w') (hml:t.node.marks.length≤1000000):
 Calls Tryd.prog 34 #[.pointer (some ⟨g,0,none⟩),.slice oa o.length oc] w fun e w'=>∃(ba:Option Addr)(bc:Nat),e=.returned (.tuple #[.slice ba (invO t.node.text o).length bc,.int .i64 0])∧
  ∃v2,WkM base g (t.edited o) v2 w'∧Touch (Mine g vs) w w'∧(∀z,Mine g v2 z→Mine g vs z∨w.heap.size≤z)∧RdS (fun z=>z<w'.heap.size∧w.heap.size≤z∧¬Mine g v2 z) w' (invO t.node.text o) ba (invO t.node.text o).length bc:=by
 have hts:t.node.text.size≤70368744177664:=by
  exact text_small h0
 have hW:∀W,Below w.heap.size w W→RdS (· <W.heap.size) W o oa o.length oc:=fun W hW=>hr.mono fun z hz=>⟨Nat.lt_of_lt_of_le hz.1 hW.size,hW.block z hz.1⟩;have HI:=Lib.hid (fun W (hB:Below w.heap.size w W)=>invert_new t.node.text o oa _ oc W (hg.go hB) (hW W hB) hts h0 h1 h2);have HLn:=Lib.hid (fun W (hB:Below w.heap.size w W)=>lengths_any (· <W.heap.size) o oa _ oc W (hW W hB) (check_small h1));have HIn:=Lib.hid (fun W (hB:Below w.heap.size w W)=>insIn_any o oa _ oc W (hW W hB));have HA:=Lib.hid (fun W (hB:Below w.heap.size w W)=>apply_any t.node.text o oa _ oc W (hg.go hB) (hW W hB) hts);obtain⟨a1,a2,a3,a4,a5,a6⟩:=apply_good h0 h1 h2;rw[a1]at HA;obtain⟨sa,sc,hv0,hrs⟩:∃a c,vs 0=.slice a t.node.sides.length c∧RdS (· <w.heap.size) w t.node.sides a t.node.sides.length c:=(h.rows 0 (by omega):OwnO (WX base g vs) base (vs 0) t.node.sides w).rd (fun b hb _=>hb) (fun k hk=>((h.rows 0 (by omega):OwnO (WX base g vs) base (vs 0) t.node.sides w).rowlt k hk).2);have HFl:=Lib.hid (fun W (hB:Below w.heap.size w W)=>fullIn_any t.node.sides sa _ sc W (hrs.go hB));have HM:=Lib.hid h;have Hg:=Lib.hid hg;have Hr:=Lib.hid hr;have Hk:=Lib.hid hk;have H1:=Lib.hid h1;have HV0:=Lib.hid hv0;have Hml:=Lib.hid hml;have HNP:=Lib.hid (fun W=>node_ptr g W);have Ha6:=Lib.hid a6;unfold Tn.full at hF;have hF2:t.node.sides.any isFull=false:=by
  cases hq:t.node.sides.any isFull
  ·rfl
  ·rw[hq]at hF;simp at hF
 rw[hF2,Bool.or_false]at hF;rw[hF2]at HFl;have hgl:=h.lt;obtain⟨-,-,-,p3,p4,p5,-,-,-,-⟩:=blk10_cells h.box;rw[hy]at p3;rw[hv0]at p5;clear hg h hr hk h0 h1 h2 hts hW a1 a2 a3 a4 a5 a6 hv0 hrs hy hml hF2;go_enter Tryd.func34,Tryd.ntmps34;go_wp2_with fail;refine(HNP.out w).mono ?_;rintro e w1 ⟨rfl,rfl⟩;go_wp2_with fail;refine(HI.out w (Below.refl _ _)).mono ?_;rintro e w2 ⟨ba,bc,rfl,hb,b2⟩;have B2:=Lib.hid b2;have HB:=Lib.hid hb;have p5':w2.cell? ⟨g,5,none⟩=some (vs 0):=(HM.out.go b2).box.cell 5;rw[HV0.out]at p5';clear b2 hb HI p3 p4 p5;go_wp2_with fail;refine(HLn.out w2 B2.out).mono ?_;rintro e w3 ⟨rfl,b3⟩;have B3:=Lib.hid (up B2.out b3);have B23:=Lib.hid b3;clear b3 HLn;go_wp2_with fail;refine(HIn.out w3 B3.out).mono ?_;rintro e w4 ⟨rfl,b4⟩;have B4:=Lib.hid (up B3.out b4);have B24:=Lib.hid (up B23.out b4);have p5:w4.cell? ⟨g,5,none⟩=some (vs 0):=(HM.out.go B4.out).box.cell 5;rw[HV0.out]at p5;clear b4 HIn B3 B23 p5';go_wp2_with fail;refine(HFl.out w4 B4.out).mono ?_;rintro e w5 ⟨rfl,b5⟩;have B5:=Lib.hid (up B4.out b5);have B25:=Lib.hid (up B24.out b5);have p4:w5.cell? ⟨g,4,none⟩=some (.string t.node.text):=(HM.out.go B5.out).box.cell 4;have f4:=((HM.out.go B5.out).box.frozen 4);clear b5 HFl B4 B24 p5;go_upto_region 10 with fail;go_cut [11,38,51]from 44 to 51 (fun _ _ s51 W=>s51=.bool false∧w5=W)
 case first=>
  cases hq:o.any isIns
  ·go_wp2_with fail;go_meet
   case rel=>exact⟨rfl,rfl⟩
  ·rw[hq]at hF;have hs:¬(300:Int)<sumT o:=by simpa using hF
   go_wp2_with fail;go_meet
   case rel=>exact⟨by simp[hs],rfl⟩
 case rest=>
  obtain⟨rfl,rfl⟩:=hcut;go_wp2_with fail;refine(HA.out w5 B5.out).mono ?_;rintro e w6 ⟨rfl,b6⟩;have B6:=Lib.hid (up B5.out b6);have B26:=Lib.hid (up B25.out b6);have M6:=Lib.hid (HM.out.go B6.out);have p4':w6.cell? ⟨g,4,none⟩=some (.string t.node.text):=M6.out.box.cell 4;have f4':=M6.out.box.frozen 4;have hz6:=B6.out.size;clear b6 HA B5 B25 p4 f4;go_upto_region 13 with fail;have hT:=touch1 (w:=w6) (g:=g) (i:=4) (.string (applyS t.node.text o));refine abs_w (fun W=>WkM base g (t.setText (applyS t.node.text o)) vs W∧Touch (Mine g vs) w6 W) ⟨M6.out.put hT (M6.out.box.set 4 _) (fun i X v W h=>h) ⟨M6.out.fit.1,M6.out.fit.2.1,M6.out.fit.2.2.1,by show(applyS t.node.text o).size≤strMax;have:=Ha6.out;unfold strMax;omega⟩,hT.mono fun z _ hz=>.inl hz⟩ ?_;rintro w7 ⟨m7,t7⟩;have M7:=Lib.hid m7;have T7:=Lib.hid t7;have T07:=Lib.hid ((Touch.of_below B6.out).trans t7);clear m7 t7 hT p4' f4';go_wp2_with fail;refine(ndMove_any base g (t.setText (applyS t.node.text o)) vs o oa oc true w7 (Hg.out.wk HM.out T07.out) M7.out (Hr.out.mono fun z hz=>⟨⟨Nat.lt_of_lt_of_le hz.1 T07.out.size,hz.2⟩,T07.out.block z hz.1 hz.2⟩) H1.out Hml.out).mono ?_;rintro e w8 ⟨rfl,v8,m8,t8,h8⟩;have M8:=Lib.hid m8;have T8:=Lib.hid t8;have H8:=Lib.hid h8;have T08:=Lib.hid (T07.out.trans t8);clear m8 t8 h8;go_wp2_with fail;refine(Hk.out v8 w8 (Hg.out.wk HM.out T08.out) M8.out (Hr.out.mono fun z hz=>⟨⟨Nat.lt_of_lt_of_le hz.1 T08.out.size,fun h=>by
   rcases H8.out z h with h1|h1
   ·exact hz.2 h1
   ·have:=T07.out.size;have:=hz.1;omega⟩,T08.out.block z hz.1 hz.2⟩)).mono ?_
  rintro e w9 ⟨rfl,v9,m9,t9,h9⟩;have M9:=Lib.hid m9;have H9:=Lib.hid h9;have hm8:Hid (∀z,Mine g v8 z→Mine g vs z∨w7.heap.size≤z):=H8.out;have T9:=Lib.hid t9;clear m9 t9 h9;go_wp2_with fail
  go_ret2
  have hmi:=HM.out.mine;have z67:=T7.out.size;have z78:=T8.out.size;have z89:=T9.out.size;have z26:=B26.out.size;have z02:=B2.out.size;refine⟨ba,bc,rfl,v9,M9.out,T08.out.wk (fun z h=>(H8.out z h).imp_right fun h=>by omega) T9.out,fun z h=>?_,HB.out.mono fun z hz=>?_⟩
  ·rcases H9.out z h with h|h
   ·exact(H8.out z h).imp_right fun h=>by omega
   ·exact .inr (by omega)
  ·have n0:¬Mine g vs z:=fun h=>by have:=(hmi z h).2;omega
   have n8:¬Mine g v8 z:=fun h=>by
    rcases H8.out z h with h|h
    ·exact n0 h
    ·omega
   have n9:¬Mine g v9 z:=fun h=>by
    rcases H9.out z h with h|h
    ·exact n8 h
    ·omega
   exact⟨⟨by omega,hz.1,n9⟩,(T9.out.block z (by omega) n8).trans ((T8.out.block z (by omega) n0).trans ((T7.out.block z (by omega) n0).trans (B26.out.block z hz.2)))⟩
set_option maxRecDepth 100000 in
set_option maxHeartbeats 8000000 in
theorem ndEdit_full (base g:Nat)(t:Tn)(vs:Nat→Value)(o:Op)(oa:Option Addr)(oc:Nat)(w:World)(hg:Good w)(h:WkM base g t vs w)(hr:RdS (NM g vs w) w o oa o.length oc)(hy:t.node.ready=true)(h0:checkText t.node.text=0)(h1:check o=0)(h2:sumF o=rc t.node.text)(hF:t.full o=true):
 Calls Tryd.prog 34 #[.pointer (some ⟨g,0,none⟩),.slice oa o.length oc] w fun e w'=>e=.returned (.tuple #[.slice none 0 0,.int .i64 8])∧Below w.heap.size w w':=by
 have hts:t.node.text.size≤70368744177664:=by
  exact text_small h0
 have hW:∀W,Below w.heap.size w W→RdS (· <W.heap.size) W o oa o.length oc:=fun W hW=>hr.mono fun z hz=>⟨Nat.lt_of_lt_of_le hz.1 hW.size,hW.block z hz.1⟩;have HI:=Lib.hid (fun W (hB:Below w.heap.size w W)=>invert_new t.node.text o oa _ oc W (hg.go hB) (hW W hB) hts h0 h1 h2);have HLn:=Lib.hid (fun W (hB:Below w.heap.size w W)=>lengths_any (· <W.heap.size) o oa _ oc W (hW W hB) (check_small h1));have HIn:=Lib.hid (fun W (hB:Below w.heap.size w W)=>insIn_any o oa _ oc W (hW W hB));obtain⟨a1,a2,a3,a4,a5,a6⟩:=apply_good h0 h1 h2;obtain⟨sa,sc,hv0,hrs⟩:∃a c,vs 0=.slice a t.node.sides.length c∧RdS (· <w.heap.size) w t.node.sides a t.node.sides.length c:=(h.rows 0 (by omega):OwnO (WX base g vs) base (vs 0) t.node.sides w).rd (fun b hb _=>hb) (fun k hk=>((h.rows 0 (by omega):OwnO (WX base g vs) base (vs 0) t.node.sides w).rowlt k hk).2);have HFl:=Lib.hid (fun W (hB:Below w.heap.size w W)=>fullIn_any t.node.sides sa _ sc W (hrs.go hB));have HM:=Lib.hid h;have Hg:=Lib.hid hg;have Hr:=Lib.hid hr;have H1:=Lib.hid h1;have HV0:=Lib.hid hv0;have HNP:=Lib.hid (fun W=>node_ptr g W);have Ha6:=Lib.hid a6;unfold Tn.full at hF;generalize t.node.sides.any isFull=q2 at*;have hgl:=h.lt;obtain⟨-,-,-,p3,p4,p5,-,-,-,-⟩:=blk10_cells h.box;rw[hy]at p3;rw[hv0]at p5;clear hg h hr h0 h1 h2 hts hW a1 a2 a3 a4 a5 a6 hv0 hrs hy;go_enter Tryd.func34,Tryd.ntmps34;go_wp2_with fail;refine(HNP.out w).mono ?_;rintro e w1 ⟨rfl,rfl⟩;go_wp2_with fail;refine(HI.out w (Below.refl _ _)).mono ?_;rintro e w2 ⟨ba,bc,rfl,hb,b2⟩;have B2:=Lib.hid b2;have HB:=Lib.hid hb;have p5':w2.cell? ⟨g,5,none⟩=some (vs 0):=(HM.out.go b2).box.cell 5;rw[HV0.out]at p5';clear b2 hb HI p3 p4 p5;go_wp2_with fail;refine(HLn.out w2 B2.out).mono ?_;rintro e w3 ⟨rfl,b3⟩;have B3:=Lib.hid (up B2.out b3);have B23:=Lib.hid b3;clear b3 HLn;go_wp2_with fail;refine(HIn.out w3 B3.out).mono ?_;rintro e w4 ⟨rfl,b4⟩;have B4:=Lib.hid (up B3.out b4);have B24:=Lib.hid (up B23.out b4);have p5:w4.cell? ⟨g,5,none⟩=some (vs 0):=(HM.out.go B4.out).box.cell 5;rw[HV0.out]at p5;clear b4 HIn B3 B23 p5';go_wp2_with fail;refine(HFl.out w4 B4.out).mono ?_;rintro e w5 ⟨rfl,b5⟩;have B5:=Lib.hid (up B4.out b5);have B25:=Lib.hid (up B24.out b5);have p4:w5.cell? ⟨g,4,none⟩=some (.string t.node.text):=(HM.out.go B5.out).box.cell 4;have f4:=((HM.out.go B5.out).box.frozen 4);clear b5 HFl B4 B24 p5;go_upto_region 10 with fail;go_cut [11,12,38,43,51]from 44 to 51 (fun _ _ _ _ s51 W=>s51=.bool true∧w5=W)
 case first=>
  cases hq:o.any isIns
  ·rw[hq]at hF;have h2:q2=true:=by simpa using hF
   subst h2;go_wp2_with fail;go_meet
   case rel=>exact⟨rfl,rfl⟩
  ·rw[hq]at hF;by_cases hs:(300:Int)<sumT o
   ·go_wp2_with fail;go_meet
    case rel=>exact⟨rfl,rfl⟩
   ·have h2:q2=true:=by simpa[hs]using hF
    subst h2;go_wp2_with fail;go_meet
    case rel=>exact⟨rfl,rfl⟩
 case rest=>
  obtain⟨rfl,rfl⟩:=hcut;go_wp2_with fail
  go_ret2
  exact⟨rfl,B5.out⟩
end Go.Proofs.YtkbfhgcjimfgkaaDoor
set_option linter.unusedSimpArgs false
namespace Go.Proofs.YtkbfhgcjimfgkaaDoor
open Go.RowKit
def Tn.setUndo (t:Tn)(l:List Op):Tn:={t with node:={t.node with undo:=l}}
theorem WkG.setUndo {base g:Nat}{t:Tn}{vs:Nat→Value}{w w':World}{v':Value}{l:List Op}(h:WkM base g t vs w)(hg:w.grownBy w' (vs 1).ownBlock)(hv:∀k,v'.ownBlock=some k→(vs 1).ownBlock=some k∨w.heap.size≤k)(hn:OwnO (WX base g vs) base v' l w'):
 WkM base g (t.setUndo l) (fun q=>if q=1 then v' else vs q) (w'.setCell ⟨g,6,none⟩ v')∧Touch (Mine g vs) w (w'.setCell ⟨g,6,none⟩ v')∧∀z,Mine g (fun q=>if q=1 then v' else vs q) z→Mine g vs z∨w.heap.size≤z:=by
 have h1:WkG base g (t.setUndo l) vs (fun q=>if q=1 then v' else vs q) w':=h.grow (t':=t.setUndo l) (j:=1) (by omega) hg hv hn (fun i hi X v W h=>by
  match i,hi with
  |1,hi=>exact absurd rfl hi
  |0,_=>exact h
  |2,_=>exact h
  |3,_=>exact h
  |4,_=>exact h
  |i+5,_=>trivial) rfl h.fit
 have ht:=touch1 (w:=w') (g:=g) (i:=6) v';refine⟨h1.put ht (h1.box.set 6 v') (fun i X v W h=>h) h.fit,?_,?_⟩
 ·have hg':Touch (Mine g vs) w w':=⟨hg.os,hg.tape,hg.output,hg.size,fun k hk hs=>hg.block k hk fun e=>hs (.inr ⟨1,by omega,e.symm⟩)⟩;exact hg'.trans (ht.mono fun k _ hk=>.inl hk)
 ·rintro z (hz|⟨q,hq,hz⟩)
  ·exact .inl (.inl hz)
  ·by_cases e:q=1
   ·subst e;simp only[if_true]at hz;exact(hv z hz).imp_left fun h=>.inr ⟨1,by omega,h⟩
   ·simp only[if_neg e]at hz;exact .inl (.inr ⟨q,hq,hz⟩)
end Go.Proofs.YtkbfhgcjimfgkaaDoor
set_option linter.unusedSimpArgs false
namespace Go.Proofs.YtkbfhgcjimfgkaaDoor
open Go.RowKit
def pushed (l:List Op)(b:Op):List Op:=if 12<(l++[b]).length then(l++[b]).drop 1 else l++[b]
theorem undoFrom_cons {o:Op}{l:List Op}{x:Int}(h1:check o=0)(h2:sumF o=x)(h:undoFrom (sumT o) l=true):undoFrom x (o::l)=true:=by
 rw[undoFrom,if_neg (by simpa using h1),if_neg (by simpa using h2)];exact h
theorem undoFrom_head {o:Op}{l:List Op}{x:Int}(h:undoFrom x (o::l)=true):check o=0∧sumF o=x∧undoFrom (sumT o) l=true:=by
 rw[undoFrom]at h;by_cases h1:check o=0
 ·rw[if_neg (by simpa using h1)]at h;by_cases h2:sumF o=x
  ·rw[if_neg (by simpa using h2)]at h;exact⟨h1,h2,h⟩
  ·rw[if_pos h2]at h;cases h
 ·rw[if_pos h1]at h;cases h
theorem undoOk_all {n:Nd}(h:undoOk n=true):undoFrom (rc n.text) n.undo.reverse=true∧n.undo.length≤12:=by
 unfold undoOk at h;simpa using h
theorem undoOk_mk {n:Nd}(h1:undoFrom (rc n.text) n.undo.reverse=true)(h2:n.undo.length≤12):undoOk n=true:=by
 unfold undoOk;simp[h1,h2]
def Tn.pushUndo (t:Tn)(b:Op):Tn:=t.setUndo (pushed t.node.undo b)
def editT (n:Nd)(o:Op):Tn:=((⟨n,[],[]⟩:Tn).edited o).pushUndo (invO n.text o)
def editE (n:Nd)(o:Op):Int:=if n.ready=false then 12 else if applyE n.text o≠0 then applyE n.text o else if(⟨n,[],[]⟩:Tn).full o=true then 8 else 0
theorem applyE_zero {s:Str}{o:Op}(h:applyE s o=0):checkText s=0∧check o=0∧sumF o=rc s:=by
 unfold applyE at h;by_cases h1:checkText s=0
 ·rw[if_neg (by simpa using h1)]at h;by_cases h2:check o=0
  ·rw[if_neg (by simpa using h2)]at h;by_cases h3:sumF o=rc s
   ·exact⟨h1,h2,h3⟩
   ·rw[if_pos h3]at h;exact absurd h (by decide)
  ·rw[if_pos h2]at h;exact absurd h h2
 ·rw[if_pos h1]at h;exact absurd h h1
theorem editE_zero {n:Nd}{o:Op}(h:editE n o=0):n.ready=true∧applyE n.text o=0∧(⟨n,[],[]⟩:Tn).full o=false:=by
 unfold editE at h;cases hr:n.ready with
 |false=>rw[if_pos hr]at h;exact absurd h (by decide)
 |true=>
  rw[if_neg (by simp[hr])]at h;by_cases h1:applyE n.text o=0
  ·rw[if_neg (by simpa using h1)]at h;cases h2:(⟨n,[],[]⟩:Tn).full o with
   |true=>rw[if_pos h2]at h;exact absurd h (by decide)
   |false=>exact⟨rfl,h1,rfl⟩
  ·rw[if_pos h1]at h;exact absurd h h1
theorem edited_node (n:Nd)(u:List Op)(o:Op):∃ss,((⟨{n with undo:=u},[],[]⟩:Tn).edited o).node={n with text:=applyS n.text o,undo:=u,marks:=n.marks.map (mvM true o),sides:=ss}∧ss.length=n.sides.length∧
 ∀i (h:i<n.sides.length)(h2:i<ss.length),ss[i]=if n.sides[i].joined=false then n.sides[i]else sdTold n.sides[i] o:=by
 have h1:((⟨{n with undo:=u},[],[]⟩:Tn).edited o).node=_:=forward_node _ o (-1);refine⟨_,h1,forward_len _ o (-1),fun i h h2=>?_⟩;have h3:=forward_at (((⟨{n with undo:=u},[],[]⟩:Tn).setText (applyS n.text o)).move true o) o (-1) i h;have h4:∀(t:Tn)(hi:i<t.node.sides.length),t.side i=t.node.sides[i]:=fun t hi=>t.side_get i hi;rw[h4 _ h2,h4 _ h]at h3;have h5:¬((i:Int)= -1):=by omega
 simp only[h5,false_or]at h3;exact h3
theorem marks_moved {n:Nd}{o:Op}{push:Bool}{x:Int}(ho:check o=0)(hx:x=sumT o):∀m∈n.marks.map (mvM push o),0≤m.anchor∧m.anchor≤x∧0≤m.head∧m.head≤x:=by
 intro m hm;obtain⟨m',-,rfl⟩:=List.mem_map.1 hm;have h1:=mvI_bound push ho m'.anchor;have h2:=mvI_bound push ho m'.head;subst hx;exact⟨h1.1,h1.2.1,h2.1,h2.2.1⟩
end Go.Proofs.YtkbfhgcjimfgkaaDoor
set_option linter.unusedSimpArgs false
namespace Go.Proofs.YtkbfhgcjimfgkaaDoor
open Go.RowKit
def stepE (u:Bool)(p o:Op):Int:=if u then trE p o else trE o p
def stepP (u:Bool)(p o:Op):Op:=if u then trA p o else trB o p
def stepO (u:Bool)(p o:Op):Op:=if u then trB p o else trA o p
def foldE (u:Bool):List Op→Op→Int
 |[],_=>0
 |p::ps,o=>if stepE u p o≠0 then stepE u p o else foldE u ps (stepO u p o)
def foldL (u:Bool):List Op→Op→List Op
 |[],_=>[]
 |p::ps,o=>stepP u p o::foldL u ps (stepO u p o)
def foldO (u:Bool):List Op→Op→Op
 |[],o=>o
 |p::ps,o=>foldO u ps (stepO u p o)
theorem foldL_length (u:Bool):∀(l:List Op)(o:Op),(foldL u l o).length=l.length
 |[],_=>rfl
 |p::ps,o=>by simp[foldL,foldL_length u ps]
def ehE0 (s h:Int)(l:List Op)(o:Op)(k:Int):Int:=if edgeCheck s h l≠0 then edgeCheck s h l else if check o≠0 then check o else if k<s-l.length∨s<k then 2 else if h=1048576 then 8 else 0
def ehD (s:Int)(l:List Op)(k:Int):List Op:=l.drop (k-(s-l.length)).toNat
def ehE (s h:Int)(l:List Op)(o:Op)(k:Int)(u:Bool):Int:=if ehE0 s h l o k≠0 then ehE0 s h l o k else foldE u (ehD s l k) o
theorem ehE0_zero {s h:Int}{l:List Op}{o:Op}{k:Int}(H:ehE0 s h l o k=0):edgeCheck s h l=0∧check o=0∧s-l.length≤k∧k≤s∧h≠1048576:=by
 unfold ehE0 at H;by_cases h1:edgeCheck s h l=0
 ·rw[if_neg (by simpa using h1)]at H;by_cases h2:check o=0
  ·rw[if_neg (by simpa using h2)]at H;by_cases h3:k<s-l.length∨s<k
   ·rw[if_pos h3]at H;exact absurd H (by decide)
   ·rw[if_neg h3]at H;by_cases h4:h=1048576
    ·rw[if_pos h4]at H;exact absurd H (by decide)
    ·exact⟨h1,h2,by omega,by omega,h4⟩
  ·rw[if_pos h2]at H;exact absurd H h2
 ·rw[if_pos h1]at H;exact absurd H h1
end Go.Proofs.YtkbfhgcjimfgkaaDoor
set_option linter.unusedSimpArgs false
namespace Go.Proofs.YtkbfhgcjimfgkaaDoor
open Go.RowKit
def overR (o:Op):List Op→Option (List Op)
 |[]=>some []
 |q::r=>if trE o q≠0 then none else(overR (trA o q) r).map (trB o q:: ·)
def overU (o:Op)(u:List Op):List Op:=((overR o u.reverse).map List.reverse).getD []
def Tn.over (t:Tn)(o:Op):Tn:=t.setUndo (overU o t.node.undo)
def Tn.upper (t:Tn)(s:Nat):Bool:=(t.node.me==0)||decide (0<s)
def Tn.heardE (t:Tn)(s:Nat)(f:Fr):Int:=ehE (t.side s).e.sent (t.side s).e.heard (t.side s).e.pending f.op f.heard (t.upper s)
def Tn.heardO (t:Tn)(s:Nat)(f:Fr):Op:=foldO (t.upper s) (ehD (t.side s).e.sent (t.side s).e.pending f.heard) f.op
def Tn.heardX (t:Tn)(s:Nat)(f:Fr):Ed:=⟨(t.side s).e.sent,(t.side s).e.heard+1,foldL (t.upper s) (ehD (t.side s).e.sent (t.side s).e.pending f.heard) f.op⟩
def Tn.take (t:Tn)(s:Nat)(f:Fr):Tn:=(((t.setSide s {t.side s with e:=t.heardX s f}).setText (applyS t.node.text (t.heardO s f))).move false (t.heardO s f)).over (t.heardO s f)
def Tn.heard (t:Tn)(s:Nat)(f:Fr):Tn:=if t.heardE s f≠0 then t else if applyE t.node.text (t.heardO s f)≠0 then t else(t.take s f).forward (t.heardO s f) (s:Int)
def Tn.whole (t:Tn)(s:Nat)(f:Fr):Tn:={t with node:={t.node with ready:=true,text:=f.text,sides:=t.node.sides.set s {t.side s with joined:=true}}}
def Tn.told (t:Tn)(s:Nat)(f:Fr):Tn:=
 if f.kind=1∧(t.side s).joined=true then t.heard s f
 else if f.kind=3∧s=0∧0<t.node.me∧(t.side s).joined=false∧f.epoch=t.node.epoch then t.whole s f else t
def Tn.linked (t:Tn)(s:Nat)(p:Pkt):Tn:=(t.setSide s {t.side s with l:=(t.side s).l.hearL p}).post s ((t.side s).l.hearP p)
def Tn.session (t:Tn)(s:Nat)(p:Pkt):Tn:=
 if(t.side s).l.hearE p≠0 then t else if(t.side s).l.told p=true then(t.linked s p).told s ((t.side s).l.hearF p)else t.linked s p
def Tn.open (t:Tn)(s:Nat)(p:Pkt):Tn:=t.setSide s ⟨(t.side s).peer,true,⟨0,0,[]⟩,openLk p.epoch⟩
def wholeFr (ep:Int)(s:Str):Fr:=⟨3,0,ep,[],s⟩
def Tn.joinedT (t:Tn)(s:Nat)(p:Pkt):Tn:=((t.open s p).session s p).send s (wholeFr p.epoch ((t.open s p).session s p).node.text)
def Tn.lost (t:Tn)(up:Int):Tn:={t with node:=⟨t.node.me,if t.node.epoch+1<1048576 then t.node.epoch+1 else t.node.epoch,up,false,noText,t.node.sides.map fun s=>newSd s.peer,[],[]⟩}
def Tn.away (t:Tn)(up:Int):Tn:=(t.lost up).join
def asks (n:Nd)(p:Pkt):Bool:=!p.bare&&(p.number==1)&&(p.f.kind==2)&&(p.f.epoch==p.epoch)&&(p.f.heard==n.epoch)
def isFrom (x:Int)(s:Sd):Bool:=s.peer==x
def barePost (n:Nd):Pkt:=⟨0,0,true,n.epoch,bareFr⟩
def hearE (n:Nd)(src:Int)(p:Pkt):Int:=
 if p.check≠0 then p.check else match fstIx (isFrom src) n.sides with
 |none=>13
 |some s=>
  if p.epoch=((⟨n,[],[]⟩:Tn).side s).l.epoch∧0<((⟨n,[],[]⟩:Tn).side s).l.epoch then 0
  else if(0<n.me∧s=0)∧p.epoch=0 then 0
  else if(0<n.me∧s=0)∨p.epoch≤((⟨n,[],[]⟩:Tn).side s).l.epoch then 12
  else if asks n p=true∧n.ready=true then 0
  else if asks n p=true then 12 else 0
def hearT (n:Nd)(src:Int)(p:Pkt):Tn:=match fstIx (isFrom src) n.sides with
 |none=>⟨n,[],[]⟩
 |some s=>
  if p.epoch=((⟨n,[],[]⟩:Tn).side s).l.epoch∧0<((⟨n,[],[]⟩:Tn).side s).l.epoch then(⟨n,[],[]⟩:Tn).session s p
  else if(0<n.me∧s=0)∧p.epoch=0 then(⟨n,[],[]⟩:Tn).away p.ack
  else if asks n p=true then(⟨n,[],[]⟩:Tn).joinedT s p
  else(⟨n,[],[]⟩:Tn).post s [barePost n]
end Go.Proofs.YtkbfhgcjimfgkaaDoor
set_option linter.unusedSimpArgs false
namespace Go.Proofs.YtkbfhgcjimfgkaaDoor
open Go.RowKit
theorem foldE_zero {u:Bool}{p:Op}{ps:List Op}{o:Op}(h:foldE u (p::ps) o=0):stepE u p o=0∧foldE u ps (stepO u p o)=0:=by
 by_cases h0:stepE u p o=0
 ·refine⟨h0,?_⟩;simpa[foldE,h0]using h
 ·exfalso;simp[foldE,h0]at h
theorem chain_fold (u:Bool):∀(l:List Op)(o:Op)(q:Option Int),foldE u l o=0→(∀t,q=some t→t=sumT o)→chainFrom q (foldL u l o)=true
 |[],_,q,_,_=>rfl
 |p::l,o,q,h,hq=>by
  obtain⟨g0,g1⟩:=foldE_zero h;have key:check (stepP u p o)=0∧sumF (stepP u p o)=sumT o∧sumT (stepP u p o)=sumT (stepO u p o):=by
   cases u with
   |true=>
    have h0:trE p o=0:=g0;obtain⟨-,-,-,c1,c2,eA,eB⟩:=trE_inv h0;obtain⟨f1,f2,f3,-,-⟩:=trE_laws h0;unfold stepP stepO;simp only[if_true,eA,eB];exact⟨c1,f1,f3⟩
   |false=>
    have h0:trE o p=0:=g0;obtain⟨-,-,-,c1,c2,eA,eB⟩:=trE_inv h0;obtain⟨f1,f2,f3,-,-⟩:=trE_laws h0;unfold stepP stepO;simp only[Bool.false_eq_true,if_false,eA,eB];exact⟨c2,f2,f3.symm⟩
  have ih:=chain_fold u l (stepO u p o) (some (sumT (stepP u p o))) g1 (fun t ht=>by injection ht with ht;omega)
  show chainFrom q (stepP u p o::foldL u l (stepO u p o))=true
  cases q with
  |none=>rw[chain_none key.1];exact ih
  |some t=>
   have:=hq t rfl;rw[chain_on key.1 (by omega)];exact ih
theorem last_fold (u:Bool):∀(l:List Op)(o:Op),foldE u l o=0→lastT (foldL u l o)=none∨lastT (foldL u l o)=some (sumT (foldO u l o))
 |[],_,_=>.inl rfl
 |[p],o,h=>by
  obtain⟨g0,-⟩:=foldE_zero h;right
  show lastT [stepP u p o]=some (sumT (stepO u p o))
  have key:sumT (stepP u p o)=sumT (stepO u p o):=by
   cases u with
   |true=>
    have h0:trE p o=0:=g0;obtain⟨-,-,-,-,-,eA,eB⟩:=trE_inv h0;unfold stepP stepO;simp only[if_true,eA,eB];exact(trE_laws h0).2.2.1
   |false=>
    have h0:trE o p=0:=g0;obtain⟨-,-,-,-,-,eA,eB⟩:=trE_inv h0;unfold stepP stepO;simp only[Bool.false_eq_true,if_false,eA,eB];exact(trE_laws h0).2.2.1.symm
  rw[←key];rfl
 |p::q::l,o,h=>by
  obtain⟨g0,g1⟩:=foldE_zero h;have ih:=last_fold u (q::l) (stepO u p o) g1
  show lastT (stepP u p o::stepP u q (stepO u p o)::foldL u l (stepO u q (stepO u p o)))=none∨lastT _=some (sumT (foldO u (q::l) (stepO u p o)))
  rw[lastT_cons];exact ih
end Go.Proofs.YtkbfhgcjimfgkaaDoor
set_option linter.unusedSimpArgs false
namespace Go.Proofs.YtkbfhgcjimfgkaaDoor
open Go.RowKit
def jf (ep up:Int):Fr:=⟨2,up,ep,[],noText⟩
theorem jf_ok {ep up:Int}(h1:1≤ep)(h2:ep≤1048576)(h3:0≤up)(h4:up≤1048576):(jf ep up).check=0:=by
 have a1:num up=true:=by simp[num];omega
 have a2:num ep=true:=by simp[num];omega
 have a3:0<ep:=by omega
 have h3:checkText noText=0:=by decide
 have h5:¬(ep=0):=by omega
 simp[Fr.check,jf,checkFrame,a1,a2,check_nil,h3,h5,frameOdd,emptyS_noText];exact decide_eq_true (by omega)
def askLk (ep up:Int):Lk:=⟨ep,2,[jf ep up],[],0⟩
def askPk (ep up:Int):Pkt:=⟨ep,1,false,0,jf ep up⟩
theorem ask_link {ep up:Int}(h1:1≤ep)(h2:ep≤1048576)(h3:0≤up)(h4:up≤1048576):
 (openLk ep).sendE (jf ep up)=0∧(openLk ep).sendL (jf ep up)=askLk ep up∧(openLk ep).sendP (jf ep up)=[askPk ep up]∧(askLk ep up).check=0:=by
 have hj:=jf_ok h1 h2 h3 h4;have eo:openLk ep=⟨ep,1,[],[],0⟩:=by unfold openLk;rw[if_neg (by omega)]
 rw[eo];have c0:(Lk.mk ep 1 [] [] 0).check=0:=by
  refine lk_make ?_ ?_ ?_ ?_ ?_ ?_ ?_ ?_ ?_ rfl rfl ?_
  all_goals simp only[List.length_nil]
  all_goals omega
 have hE:(Lk.mk ep 1 [] [] 0).sendE (jf ep up)=0:=by
  unfold Lk.sendE;rw[c0,if_neg (by simp),if_neg (by simp only;omega),hj,if_neg (by simp),if_neg (by simp only;omega)]
 have hp:(Lk.mk ep 1 [] [] 0).push (jf ep up)=askLk ep up:=by
  unfold Lk.push Lk.filled;simp only[List.nil_append];rw[fillL_go (by simp) (by omega),fillL_nil];rfl
 refine⟨hE,?_,?_,?_⟩
 ·unfold Lk.sendL;rw[if_pos hE,hp]
 ·unfold Lk.sendP;rw[if_pos hE,hp];rfl
 ·refine lk_make ?_ ?_ ?_ ?_ ?_ ?_ ?_ ?_ ?_ ?_ rfl ?_
  ·show 0≤ep;omega
  ·exact h2
  ·show(1:Int)≤2;omega
  ·show(2:Int)≤1048576;omega
  ·show(0:Int)≤0;omega
  ·show(0:Int)≤1048576;omega
  ·show 1≤8;omega
  ·show((1:Nat):Int)<2;omega
  ·intro h;exact absurd h (by simp[askLk])
  ·unfold frsOk askLk;simp[hj]
  ·intro h;have:ep=0:=h;omega
theorem join_plain {N:Tn}{p:Sd}{r:List Sd}(hs:N.node.sides=p::r)(h1:1≤N.node.epoch)(h2:N.node.epoch≤1048576)(h3:0≤N.node.up)(h4:N.node.up≤1048576):
 N.join={node:={N.node with sides:={p with l:=askLk N.node.epoch N.node.up}::r},posts:=N.posts++[⟨p.peer,askPk N.node.epoch N.node.up⟩],recs:=N.recs}:=by
 obtain⟨k1,k2,k3,-⟩:=ask_link h1 h2 h3 h4;have hs0:N.side 0=p:=by unfold Tn.side;rw[hs];rfl
 have hj:N.joinFr=jf N.node.epoch N.node.up:=rfl;have hR:N.relink.node.sides={p with l:=openLk N.node.epoch}::r:=by
  unfold Tn.relink Tn.setSide;rw[hs0,hs];rfl
 have hR0:N.relink.side 0={p with l:=openLk N.node.epoch}:=by unfold Tn.side;rw[hR];rfl
 unfold Tn.join Tn.send;rw[hR0,hj];simp only;rw[if_pos k1,k2,k3];unfold Tn.post Tn.setSide Tn.peer;simp only;rw[hR];rfl
end Go.Proofs.YtkbfhgcjimfgkaaDoor
