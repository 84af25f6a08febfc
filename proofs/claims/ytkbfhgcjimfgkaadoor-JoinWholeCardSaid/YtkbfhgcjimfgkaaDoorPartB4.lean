/- The walk of node.undo. -/
import Derived.Test.YtkbfhgcjimfgkaaDoorPartB3
import Derived.Test.YtkbfhgcjimfgkaaDoorPartB2
import Derived.Test.YtkbfhgcjimfgkaaDoorPartA2
import Derived.Test.YtkbfhgcjimfgkaaDoorPartA5
import Derived.RangeFuncNested
import Derived.RangeFuncBound
import Derived.RangeFuncCalls
import Derived.RangeFuncLeaves
import Derived.RangeFuncBox
import Derived.Shelf.Abstract
import Derived.Shelf.RegionOpen
import Derived.WalkKit
import Derived.OwnWalkIn
import Derived.TacticsInMore
import Derived.LoopNIn
import Derived.LoopIn
import Derived.RangeFuncFrom
set_option linter.unusedVariables false
set_option linter.unusedSimpArgs false
set_option linter.unusedSimpArgs false
namespace Go.Proofs.YtkbfhgcjimfgkaaDoor
open Go.RowKit
set_option maxRecDepth 100000 in
set_option maxHeartbeats 1000000 in
theorem ndFrames_any (l:List Fr)(a:Option Addr)(n c:Nat)(w:World)(hr:RdS (· <w.heap.size) w l a n c)(hlen:∀f∈l,f.op.length≤1000000000)(hn:n≤1048576):
 Calls Tryd.prog 76 #[.slice a n c] w (RowP l w):=by
 have hnl:=hr.1;have hcm:=hr.2.2.1;have hnc:=hr.2.1;unfold maxLen at hcm;have Hl:=Lib.hid hnl;have Hr:=Lib.hid hr;have Hlen:=Lib.hid hlen;clear hnl hr hlen;obtain⟨i0,hi,hz0,hz1,hz2⟩:=info_parts infoF;have Hi:=Lib.hid hi;have Hz0:=Lib.hid hz0;have Hz1:=Lib.hid hz1;have Hz2:=Lib.hid hz2;have Hpost:Hid (∀v W,OwnO (· <w.heap.size) w.heap.size v l W→Below w.heap.size w W→RowP l w (.returned v) W):=fun v W h1 h2=>⟨v,rfl,h1,h2⟩;generalize RowP l w=RP at*;clear hi hz0 hz1 hz2;go_enter Tryd.func76,Tryd.ntmps76;go_wp2_with fail;go_loopw [3,8] (fun out vi wr=>∃k:Nat,k≤n∧vi=.int .i64 (k:Int)∧OwnO (· <w.heap.size) w.heap.size out (l.take k) wr∧Below w.heap.size w wr) (fun _ vi _=>n-(intOf vi).toNat)
 case atStart=>exact⟨0,by omega,rfl,OwnO.nil,Below.refl _ _⟩
 case round=>
  obtain⟨k,hk,rfl,ho,hb⟩:=hrel;have HO:=Lib.hid ho;have HB:=Lib.hid hb;have hbz:=hb.size;obtain⟨xa,xc,rfl⟩:=own_app HO.out;by_cases hlt:k<n
  ·have hlt':(k:Int)<(n:Int):=by omega
   obtain⟨b,off,rfl,hAb,hbs,hcs⟩:=Hr.out.frame (by omega);have hkl:k<l.length:=by have:=Hl.out;omega
   obtain⟨ak,nk,ck,hrk,hfk,d0,d1,d2,d3,d4⟩:=hcs k hkl;have e0:=(hb.cell (p:=⟨b,off+k*5,none⟩) hbs).trans d0;have e1:=(hb.cell (p:=⟨b,off+k*5+1,none⟩) hbs).trans d1;have e2:=(hb.cell (p:=⟨b,off+k*5+1+1,none⟩) hbs).trans d2;have e3:=(hb.cell (p:=⟨b,off+k*5+1+1+1,none⟩) hbs).trans d3;have e4:=(hb.cell (p:=⟨b,off+k*5+1+1+1+1,none⟩) hbs).trans d4;have Hk:=Lib.hid (take_nextF l k hkl);have hnk:=hrk.1;have hlk:=Hlen.out l[k] (List.getElem_mem hkl);have Hcl:=Lib.hid (fun W hW=>clone_any l[k].op ak nk ck W ((hrk.go hb).go (w':=W) hW) (by omega));have htl:(l.take k).length=k:=by rw[List.length_take];omega
   generalize hol:l[k]=f at*;generalize l.take k=lk at*;have Htl:=Lib.hid htl;have Hfk:=Lib.hid hfk;have hck:(k:Int)<(c:Int):=by omega
   have hkb:k≤1048576:=by omega
   clear hcs hrk hol d0 d1 d2 d3 d4 ho hb htl hnk hlk hfk;go_wp2_with fail;refine abs_run (fun W=>Below wr.heap.size wr W∧Blk wr.heap.size (.cells #[.int .i64 f.kind,.int .i64 f.heard,.int .i64 f.epoch,.slice ak nk ck,.string f.text] 44 (0,0)) W) ⟨(Below.refl _ _).alloc (Nat.le_refl _) _,Blk.new wr _⟩ ?_;rintro w0 ⟨b0,x0⟩;have B0:=Lib.hid b0;have hz0:=b0.size;have hl0:=x0.lt;refine(Hcl.out w0 b0).mono ?_;rintro e w1 ⟨ca,cc,rfl,hrc,b1⟩;have hz1:=b1.size;have X1:=Lib.hid (x0.go b1);have HB1':=Lib.hid (up B0.out b1);have y0:w1.cell? ⟨wr.heap.size,3,none⟩=some _:=X1.out.cell 3;have y1:=X1.out.frozen 3;clear b0 x0 b1 Hcl e0 e1 e2 e3 e4 B0;go_upto_region 6 with fail;refine abs_w (fun W=>Blk wr.heap.size (.cells #[.int .i64 f.kind,.int .i64 f.heard,.int .i64 f.epoch,.slice ca f.op.length cc,.string f.text] 44 (0,0)) W∧Touch (fun z=>z=wr.heap.size) w1 W) ⟨X1.out.set 3 _,Touch.setCell (S:=fun z=>z=wr.heap.size) (Touch.refl _ _) (.inl rfl) _⟩ ?_;rintro w2 ⟨x2,t2⟩;have ht2:=t2.size;obtain⟨k0,k1,k2,k3,k4⟩:=blk_cells5 x2;have b2:Below wr.heap.size wr w2:=HB1'.out.trans (t2.toBelow (by omega) (fun z hz=>by omega));have HO2:=Lib.hid (HO.out.go b2);have HB2:=Lib.hid (up HB.out b2);have HRC2:=Lib.hid (hrc.mono (A':=fun z=>z<(w2.alloc (.cells #[.int .i64 f.kind,.int .i64 f.heard,.int .i64 f.epoch,.slice ca f.op.length cc,.string f.text] 44)).heap.size∧¬z<w.heap.size∧(Value.slice xa lk.length xc).ownBlock≠some z) (w':=w2.alloc (.cells #[.int .i64 f.kind,.int .i64 f.heard,.int .i64 f.epoch,.slice ca f.op.length cc,.string f.text] 44)) (fun z hz=>⟨⟨by rw[alloc_sz];omega,by omega,fun e=>by have:=(HO.out.rowlt z e).2;omega⟩,(((Below.refl w2.heap.size w2).alloc (Nat.le_refl _) _).block z (by omega)).trans (t2.block z hz.2 (by omega))⟩));clear x2 X1 y0 y1 hrc t2 b2;go_wp2_with (at_builtin;refine wpList_append_oneO rfl _ _ _ (by rfl) w.heap.size 44 i0 _ 64 Tryd.underlying68 Hi.out Hz0.out Hz1.out Hz2.out rfl (.slice xa lk.length xc) lk (by rfl) (HO2.out.go ((Below.refl _ w2).alloc (Nat.le_refl _) _)) w2.heap.size 1 _ [.int .i64 f.kind,.int .i64 f.heard,.int .i64 f.epoch,.slice ca f.op.length cc,.string f.text] f (by rfl) (Blk.new w2 _) ⟨ca,_,cc,rfl,HRC2.out,Hfk.out⟩ (by have:=Htl.out;unfold maxLen;omega) (by have:=Htl.out;omega) (by simp;omega) ?_);intro g2 o2 cap w3 hown hgrow hat hlt2;have HO3:=Lib.hid hown;have HB3:=Lib.hid ((HB2.out.alloc (by omega) (.cells #[.int .i64 f.kind,.int .i64 f.heard,.int .i64 f.epoch,.slice ca f.op.length cc,.string f.text] 44)).grown hgrow (by simp;omega) (fun k hk=>(HO2.out.rowlt k hk).1));clear hown hgrow hat;go_wp2_with fail;go_roundw
   case rel=>exact⟨k+1,by omega,by push_cast;rfl,by rw[Hk.out];exact HO3.out,HB3.out⟩
   case measure=>simp[intOf];omega
  ·have hkn:k=l.length:=by have:=Hl.out;omega
   have HE:Hid (l.take k=l):=by unfold Hid;rw[hkn,List.take_length]
   have hlt':¬((k:Int)<(n:Int)):=by omega
   clear ho hb hkn;generalize l.take k=lk at*;go_wp2_with fail;have e:=HE.out;subst e;exact Hpost.out _ _ HO.out HB.out
end Go.Proofs.YtkbfhgcjimfgkaaDoor
set_option linter.unusedSimpArgs false
namespace Go.Proofs.YtkbfhgcjimfgkaaDoor
open Go.RowKit
theorem run_append_zero {P:Program}{w:World}(t ty e:TypeId)(i:TypeInfo)(ht:P.underlying t=some (.slice e))(hi:P.info? e=some i)(a:Option Addr)(n c:Nat)(hnc:n≤c)(hn:a=none→c=0)(pa:Option Addr)(pc:Nat):
 (Builtin.append_ #[t,t] ty #[.slice a n c,.slice pa 0 pc]).run P w=.ok (.slice a n c) w:=by
 cases pa with
 |none=>
  cases a with
  |none=>
   have hc:=hn rfl;subst hc;have hn0:n=0:=by omega
   subst hn0;simp[Builtin.append_,run_underlying ht,sizeOf,typeInfo,hi,Builtin.lenOf,Builtin.firstCells]
  |some b=>
   simp[Builtin.append_,run_underlying ht,sizeOf,typeInfo,hi,Builtin.lenOf,Builtin.firstCells,hnc,storeCells]
 |some ad=>
  have hl:(loadCells ad 0).run P w=.ok #[] w:=by simp[loadCells,loadCellsFrom]
  cases a with
  |none=>
   have hc:=hn rfl;subst hc;have hn0:n=0:=by omega
   subst hn0;simp[Builtin.append_,run_underlying ht,sizeOf,typeInfo,hi,Builtin.lenOf,Builtin.firstCells,hl,Result.andThen,storeCells]
  |some b=>
   simp[Builtin.append_,run_underlying ht,sizeOf,typeInfo,hi,Builtin.lenOf,Builtin.firstCells,hnc,storeCells,hl,Result.andThen]
theorem wpList_append_zero {P:Program}{w:World}{ops:Array Oper}{rest:List Oper}{o:Oper}{a:Act}{Q:Exit→Act→World→Prop}(hgd:o.guard=none)(s x:Operand)(t:TypeId)
 (ho:o.op=.call {callee:=.builtin .append,args:=#[s,x],argTypes:=#[t,t]})
 (e:TypeId) (i:TypeInfo) (ht:P.underlying t=some (.slice e)) (hi:P.info? e=some i)
 (va:Option Addr) (n c:Nat) (hs:a.eval s=.slice va n c) (hnc:n≤c) (hn:va=none→c=0) (pa:Option Addr) (pc:Nat) (hx:a.eval x=.slice pa 0 pc)
 (h:wpList P ops Q rest (a.put o.dst (.slice va n c)) w):wpList P ops Q (o::rest) a w:=by
 refine wpList_plain hgd fun K hK'=>?_;have hrun:=run_append_zero (P:=P) (w:=w) t o.type e i ht hi va n c hnc hn pa pc;unfold Oper.wp;simp[execOp,ho,resolve,invoke,builtin,hs,hx,hrun,Result.andThen];exact hK' _ _ h
end Go.Proofs.YtkbfhgcjimfgkaaDoor
set_option linter.unusedSimpArgs false
namespace Go.Proofs.YtkbfhgcjimfgkaaDoor
open Go.RowKit
theorem infoM:(Tryd.prog.info? 58).map (fun i=>(i.zero,i.size,i.bytes))=some (some (.agg #[.int .i64 0,.int .i64 0]),2,16):=by kernel_rfl
set_option maxRecDepth 100000 in
set_option maxHeartbeats 1000000 in
theorem marks_any (l:List Mk)(a:Option Addr)(n c:Nat)(w:World)(hr:RdS (· <w.heap.size) w l a n c)(hn:n≤1048576):
 Calls Tryd.prog 74 #[.slice a n c] w (RowP l w):=by
 obtain⟨i0,hi,hz0,hz1,hz2⟩:=info_parts infoM;have hnl:=hr.1;have hcm:=hr.2.2.1;have hnc:=hr.2.1;have hca:=hr.2.2.2.1;unfold maxLen at hcm;have Hpost:Hid (∀v W,OwnO (· <w.heap.size) w.heap.size v l W→Below w.heap.size w W→RowP l w (.returned v) W):=fun v W h1 h2=>⟨v,rfl,h1,h2⟩;generalize RowP l w=RP at*;have HN:Hid (OwnO (α:=Mk) (· <w.heap.size) w.heap.size (.slice (some ⟨w.heap.size,0,none⟩) 0 0) [] (w.alloc (.cells #[] 58))):=⟨.inl ⟨_,rfl,rfl,fun k hk=>by
  have:w.heap.size=k:=by simpa[Value.ownBlock]using hk
  subst this;rw[alloc_sz];omega⟩⟩
 by_cases h0:n=0
 ·have ho:l=[]:=List.eq_nil_of_length_eq_zero (by omega);subst ho h0;clear hr hnl;cases a with
  |none=>
   have hc0:c=0:=hca rfl;subst hc0;clear hca;have heq:=fun W:World=>Lib.run_eql_slice_nil (P:=Tryd.prog) W 29 58 none 0 0 0 0 Tryd.underlying29;go_enter Tryd.func74,Tryd.ntmps74;go_wp2_with fail;exact Hpost.out _ _ OwnO.nil (Below.refl _ _)
  |some ad=>
   clear hca;have heq:=fun W:World=>Lib.run_eql_slice_nil (P:=Tryd.prog) W 29 58 (some ad) 0 c 0 0 Tryd.underlying29;go_enter Tryd.func74,Tryd.ntmps74;go_wp2_with (at_builtin;refine wpList_append_zero rfl _ _ _ (by rfl) 58 i0 Tryd.underlying29 hi (some ⟨w.heap.size,0,none⟩) 0 0 (by rfl) (by omega) nofun (some ad) c (by rfl) ?_);exact Hpost.out _ _ HN.out ((Below.refl _ _).alloc (Nat.le_refl _) _)
 ·obtain⟨b,off,rfl,_,hbs,he⟩:=hr.2.2.2.2 (by omega);have He:Hid (∀X:Nat→Prop,Elems X (w.alloc (.cells #[] 58)) b off l):=fun X i x hx=>by
   obtain⟨xs,h1,h2⟩:=he i x hx;exact⟨xs,h1,fun j u hu=>((bcell ((Below.refl w.heap.size w).alloc (Nat.le_refl _) (.cells #[] 58))).1 b _ hbs).trans (h2 j u hu)⟩
  subst hnl;have hpos:0<l.length:=by omega
  clear hr he hca h0;have heq:=fun W:World=>Lib.run_eql_slice_nil (P:=Tryd.prog) W 29 58 (some ⟨b,off,none⟩) l.length c 0 0 Tryd.underlying29;go_enter Tryd.func74,Tryd.ntmps74;go_wp2_with (at_builtin;refine wpList_append_manyO rfl _ _ _ (by rfl) w.heap.size 58 i0 _ 16 Tryd.underlying29 hi hz0 hz1 hz2 rfl (.slice (some ⟨w.heap.size,0,none⟩) 0 0) [] l (by rfl) HN.out b off c (by rfl) (He.out _) hpos (by unfold maxLen;simp;omega) (by simp;omega) (by simp) ?_);intro gg o2 cap w1 hown1 hgrow hat hlt1;have HO:=Lib.hid hown1;have HB:=Lib.hid (((Below.refl w.heap.size w).alloc (Nat.le_refl _) (.cells #[] 58)).grown hgrow (by simp) (fun g hg=>by simp[Value.ownBlock]at hg;omega));clear hown1 hgrow hat;go_wp2_with fail;exact Hpost.out _ _ (by simpa using HO.out) HB.out
end Go.Proofs.YtkbfhgcjimfgkaaDoor
namespace Go.Proofs.YtkbfhgcjimfgkaaDoor
open Go.RowKit
theorem RdS.int {A:Nat→Prop}{w:World}{l:List Int}{a:Option Addr}{n c:Nat}(hr:RdS A w l a n c)(hn:0<n):
 ∃b off,a=some ⟨b,off,none⟩∧A b∧b<w.heap.size∧∀i (h:i<l.length),I64 l[i]∧w.cell? ⟨b,off+i,none⟩=some (.int .i64 l[i]):=by
 obtain⟨b,off,e,hA,hb,he⟩:=hr.2.2.2.2 hn;refine⟨b,off,e,hA,hb,fun i h=>?_⟩;obtain⟨xs,⟨rfl,h1⟩,h4⟩:=he i l[i] (List.getElem?_eq_getElem h);have h5:=h4 0 _ rfl;refine⟨h1,?_⟩;simpa[Rep.n]using h5
def okAt (i:Nat)(p:Int):Prop:=(i=0→p= -1)∧(0<i→0≤p∧p<i)
instance (i:Nat)(p:Int):Decidable (okAt i p):=by unfold okAt;infer_instance
def okTree (l:List Int):Prop:=∀i (h:i<l.length),okAt i l[i]
instance (l:List Int):Decidable (okTree l):=by unfold okTree;infer_instance
def checkTree (l:List Int):Int:=if l.length<1∨7<l.length then 1 else if okTree l then 0 else 4
set_option maxHeartbeats 1000000 in
set_option maxRecDepth 100000 in
theorem checkTree_any (A:Nat→Prop)(a:Option Addr)(n c:Nat)(l:List Int)(w:World)(hr:RdS A w l a n c):
 Calls Tryd.prog 24 #[.slice a n c] w fun e w'=>e=.returned (.int .i64 (checkTree l))∧w=w':=by
 have hl:n=l.length:=hr.1;have hnm:n≤maxLen:=by have h1:=hr.2.1;have h2:=hr.2.2.1;omega
 unfold maxLen at hnm;by_cases h1:l.length<1∨7<l.length
 ·have hfin:checkTree l=1:=by rw[checkTree,if_pos h1]
  rw[hfin];clear hfin;rcases h1 with h1|h1
  all_goals
   rw[←hl]at h1;clear hl;go_enter Tryd.func24,Tryd.ntmps24
   go_wp2
   go_ret
   exact⟨rfl,rfl⟩
 ·obtain⟨b,off,rfl,_,_,hc⟩:=hr.int (by omega);have h2:1≤n:=by omega
  have h3:n≤7:=by omega
  have HF:Hid (checkTree l=if okTree l then 0 else 4):=by unfold Hid;rw[checkTree,if_neg h1]
  have Hl:=Lib.hid hl;have Hc:=Lib.hid hc;clear hl h1 hc hr;go_enter Tryd.func24,Tryd.ntmps24
  go_wp2
  go_loop [15] (fun i=>∃k:Nat,k≤n∧i=.int .i64 k∧∀i (h:i<l.length),i<k→okAt i l[i]) (fun i=>n-(intOf i).toNat)
  case atStart=>exact⟨0,by omega,rfl,fun i _ hi=>absurd hi (by omega)⟩
  case round=>
   obtain⟨k,hk,rfl,hall⟩:=hrel;have HA:=Lib.hid hall;clear hall;by_cases hlt:k<n
   ·have hkl:k<l.length:=by have:=Hl.out;omega
    obtain⟨_,hcell⟩:=Hc.out k hkl;have Hnext:Hid (okAt k l[k]→∀i (h:i<l.length),i<k+1→okAt i l[i]):=by
     unfold Hid;intro h0 i hi hlt2;by_cases he:i=k
     ·subst he;exact h0
     ·exact HA.out i hi (by omega)
    have Hbad:Hid (¬okAt k l[k]→checkTree l=4):=by
     unfold Hid;intro h0;rw[HF.out,if_neg (fun h=>h0 (h k hkl))]
    generalize l[k]=p at*;by_cases hok:okAt k p
    ·have Hn:=Lib.hid (Hnext.out hok);clear Hnext Hbad HF HA;rcases Nat.eq_zero_or_pos k with h0|h0
     ·obtain rfl:=hok.1 h0;subst h0;clear hok;simp only[Nat.add_zero]at hcell
      go_wp2
      go_round
      case rel=>exact⟨1,by omega,by go_num,Hn.out⟩
      case measure=>simp[intOf];omega
     ·obtain⟨g1,g2⟩:=hok.2 h0;have hk0:((k:Int)==0)=false:=by simp;omega
      clear hok
      go_wp2
      go_round
      case rel=>exact⟨k+1,by omega,by go_num,Hn.out⟩
      case measure=>simp[intOf];omega
    ·have Hb:=Lib.hid (Hbad.out hok);clear Hnext Hbad HF HA;have hok':=hok;unfold okAt at hok';rcases Nat.eq_zero_or_pos k with h0|h0
     ·subst h0;have hp:(p != -1)=true:=by simp;intro h;exact hok' ⟨fun _=>h,fun h=>absurd h (by omega)⟩
      clear hok hok';simp only[Nat.add_zero]at hcell
      go_wp2
      go_ret
      exact⟨ret_int Hb.out.symm,rfl⟩
     ·have hk0:((k:Int)==0)=false:=by simp;omega
      have hp:p<0∨(k:Int)≤p:=by
       by_cases h:p<0
       ·exact .inl h
       ·by_cases h':(k:Int)≤p
        ·exact .inr h'
        ·exact absurd ⟨fun h=>absurd h (by omega),fun _=>⟨by omega,by omega⟩⟩ hok'
      clear hok hok';rcases hp with hp|hp
      ·go_wp2
       go_ret
       exact⟨ret_int Hb.out.symm,rfl⟩
      ·go_wp2
       go_ret
       exact⟨ret_int Hb.out.symm,rfl⟩
   ·have hfin:checkTree l=0:=by
     rw[HF.out,if_pos];intro i hi;exact HA.out i hi (by have:=Hl.out;omega)
    have HFF:=Lib.hid hfin;clear hfin HF HA
    go_wp2
    go_ret
    exact⟨ret_int HFF.out.symm,rfl⟩
theorem info3:(Tryd.prog.info? 3).map (fun i=>(i.zero,i.size,i.bytes))=some (some (.int .i64 0),1,8):=by kernel_rfl
end Go.Proofs.YtkbfhgcjimfgkaaDoor
set_option linter.unusedSimpArgs false
namespace Go.Proofs.YtkbfhgcjimfgkaaDoor
open Go.RowKit
def kidsTo (t:List Int)(me:Int)(k:Nat):List Int:=((List.range k).filter (fun i=>t.getD i 0==me)).map Int.ofNat
def nbsAhead (t:List Int)(me:Int):List Int:=if 0<me then [t.getD me.toNat 0]else []
def nbs (t:List Int)(me:Int):List Int:=nbsAhead t me++kidsTo t me t.length
theorem kidsTo_succ (t:List Int)(me:Int)(k:Nat):kidsTo t me (k+1)=kidsTo t me k++(if t.getD k 0==me then [(k:Int)]else []):=by
 unfold kidsTo;rw[List.range_succ,List.filter_append,List.map_append];by_cases h:t.getD k 0==me
 ·rw[if_pos h,List.filter_cons,if_pos h];rfl
 ·rw[if_neg h,List.filter_cons,if_neg h];rfl
theorem kidsTo_len (t:List Int)(me:Int)(k:Nat):(kidsTo t me k).length≤k:=by
 unfold kidsTo;rw[List.length_map];have:=List.length_filter_le (fun i=>t.getD i 0==me) (List.range k);simpa using this
theorem nbsAhead_len (t:List Int)(me:Int):(nbsAhead t me).length≤1:=by unfold nbsAhead;split<;>simp
theorem ints_app {w:World}{base:Nat}{v:Value}{l:List Int}(h:OwnO (fun _=>False) base v l w):∃a c,v=.slice a l.length c:=by
 obtain⟨a,c,hv,-⟩:=h.form;exact⟨a,c,hv⟩
theorem OwnO.rdI {w:World}{base:Nat}{v:Value}{l:List Int}(h:OwnO (fun _=>False) base v l w):∃a c,v=.slice a l.length c∧RdS (· <w.heap.size) w l a l.length c:=h.rd (fun b hb _=>hb) (fun k hk=>(h.rowlt k hk).2)
theorem rd_int {A:Nat→Prop}{w:World}{x:Int}(h:I64 x):Rep.rd A w x [.int .i64 x]:=⟨rfl,h⟩
set_option maxRecDepth 100000 in
set_option maxHeartbeats 1000000 in
theorem nbs_any (t:List Int)(a:Option Addr)(n c:Nat)(m:Nat)(w:World)(hr:RdS (· <w.heap.size) w t a n c)(h1:m<n)(hn:n≤1000):
 Calls Tryd.prog 26 #[.slice a n c,.int .i64 (m:Int)] w fun e w'=>∃v,e=.returned v∧OwnO (fun _=>False) w.heap.size v (nbs t (m:Int)) w'∧Below w.heap.size w w':=by
 obtain⟨g,off,rfl,hg,hgs,hcl⟩:=hr.int (by omega);have hnl:=hr.1;have hnc:=hr.2.1;have hcm:=hr.2.2.1;unfold maxLen at hcm;obtain⟨i0,hi,hz0,hz1,hz2⟩:=info_parts info3;have Hcl:=Lib.hid hcl;have Hi:=Lib.hid hi;have Hz0:=Lib.hid hz0;have Hz1:=Lib.hid hz1;have Hz2:=Lib.hid hz2;have Hnl:=Lib.hid hnl;have hn':(n:Int)≤1000:=by omega
 have hm':(m:Int)<(n:Int):=by omega
 have hm0:(0:Int)≤(m:Int):=by omega
 clear hr hcl hi hz0 hz1 hz2 hnl;go_enter Tryd.func26,Tryd.ntmps26;go_upto_if 9 with fail;obtain⟨z0,hz0⟩:∃z,z=Value.slice none 0 0:=⟨_,rfl⟩;rw[←hz0];have Z0:Hid (∀W,OwnO (fun _=>False) w.heap.size z0 ([]:List Int) W):=fun W=>by rw[hz0];exact OwnO.nil
 have Z1:Hid (z0.ownBlock=none):=by rw[hz0];rfl
 clear hz0;generalize hB:decide (0<m)=B;have HB:=Lib.hid hB;clear hB;go_cut [5]from 10 to 16 (fun out W=>OwnO (fun _=>False) w.heap.size out (nbsAhead t (m:Int)) W∧Below w.heap.size w W)
 case first=>
  cases B with
  |true=>
   have h0:0<m:=by simpa using HB.out
   have h0':(0:Int)<(m:Int):=by omega
   obtain⟨ht64,hc⟩:=Hcl.out m (by have:=Hnl.out;omega);have hE:nbsAhead t (m:Int)=[t[m]'(by have:=Hnl.out;omega)]:=by
    unfold nbsAhead;rw[if_pos h0'];have:m<t.length:=by have:=Hnl.out;omega
    simp[List.getD_eq_getElem?_getD,this]
   generalize t[m]'(by have:=Hnl.out;omega)=x at*;have Hx:=Lib.hid ht64;have HE:=Lib.hid hE;clear hE ht64;go_wp2_with (at_builtin;refine wpList_append_oneO rfl _ _ _ (by rfl) w.heap.size 3 i0 _ 8 Tryd.underlying22 Hi.out Hz0.out Hz1.out Hz2.out rfl z0 ([]:List Int) (by rfl) (Z0.out _) w.heap.size 1 _ [.int .i64 x] x (by rfl) (Blk.new w _) (rd_int Hx.out) (by unfold maxLen;simp) (by simp) (by simp) ?_);intro g2 o2 cap w2 hown hgrow hat hlt;have HO:=Lib.hid hown;have HB:=Lib.hid (((Below.refl w.heap.size w).alloc (Nat.le_refl _) (.cells #[.int .i64 x] 3)).grown hgrow (by simp) (fun k hk=>by rw[Z1.out]at hk;cases hk));clear hown hgrow;go_wp2_with fail;go_meet
   case rel=>rw[HE.out];exact⟨HO.out,HB.out⟩
  |false=>
   have h0':¬(0:Int)<(m:Int):=by have:=HB.out;simp at this;omega
   have hE:nbsAhead t (m:Int)=[]:=by unfold nbsAhead;rw[if_neg h0']
   have HE:=Lib.hid hE;clear hE;go_wp2_with fail;go_meet
   case rel=>rw[HE.out];exact⟨Z0.out _,Below.refl _ _⟩
 case rest=>
  obtain⟨ho,hb⟩:=hcut;have HO:=Lib.hid ho;have HB:=Lib.hid hb;clear ho hb;obtain⟨oa,oc,hov⟩:=ints_app HO.out;have hk0:kidsTo t (m:Int) 0=[]:=rfl;have Hk0:=Lib.hid hk0;have Hov:=Lib.hid hov;clear hov hk0;go_wp2_with fail;go_loopw [5,19] (fun out vi wr=>∃k:Nat,k≤n∧vi=.int .i64 (k:Int)∧OwnO (fun _=>False) w.heap.size out (nbsAhead t (m:Int)++kidsTo t (m:Int) k) wr∧Below w.heap.size w wr) (fun _ vi _=>n-(intOf vi).toNat)
  case atStart=>exact⟨0,by omega,rfl,by rw[Hk0.out,List.append_nil];exact HO.out,HB.out⟩
  case round=>
   obtain⟨k,hk,rfl,ho,hb⟩:=hrel;have HO2:=Lib.hid ho;have HB2:=Lib.hid hb;have hks:=kidsTo_succ t (m:Int) k;have hkl:=kidsTo_len t (m:Int) k;have hal:=nbsAhead_len t (m:Int);obtain⟨xa,xc,rfl⟩:=ints_app HO2.out;have Hkl:Hid ((nbsAhead t (m:Int)++kidsTo t (m:Int) k).length≤k+1):=by unfold Hid;rw[List.length_append];omega
   have Hks:Hid (nbsAhead t (m:Int)++kidsTo t (m:Int) (k+1)=(nbsAhead t (m:Int)++kidsTo t (m:Int) k)++(if t.getD k 0==(m:Int)then [(k:Int)]else [])):=by unfold Hid;rw[hks,List.append_assoc]
   have Hend:Hid (k=n→nbsAhead t (m:Int)++kidsTo t (m:Int) k=nbs t (m:Int)):=by
    intro e;unfold nbs;rw[e,Hnl.out]
   generalize nbsAhead t (m:Int)++kidsTo t (m:Int) k=L at*;clear ho hb hkl hal HO HB hks;by_cases hlt:k<n
   ·have hlt':(k:Int)<(n:Int):=by omega
    have hkt:k<t.length:=by have:=Hnl.out;omega
    obtain⟨hp64,hpc⟩:=Hcl.out k hkt;have hgd:t.getD k 0=t[k]:=by simp[List.getD_eq_getElem?_getD,hkt]
    rw[hgd]at Hks;generalize t[k]=p at*;have hpc2:=(bcell HB2.out).1 g (off+k) hgs;rw[hpc]at hpc2;have hbz:=HB2.out.size;have hk64:I64 (k:Int):=by unfold I64;omega
    have Hk64:=Lib.hid hk64;clear hpc hgd hp64 hk64;by_cases hpm:p=(m:Int)
    ·have hb:(p==(m:Int))=true:=by simpa using hpm
     have HKS:Hid (nbsAhead t (m:Int)++kidsTo t (m:Int) (k+1)=L++[(k:Int)]):=by unfold Hid;rw[Hks.out,if_pos hb]
     subst hpm;go_wp2_with (at_builtin;refine wpList_append_oneO rfl _ _ _ (by rfl) w.heap.size 3 i0 _ 8 Tryd.underlying22 Hi.out Hz0.out Hz1.out Hz2.out rfl (.slice xa L.length xc) L (by rfl) (HO2.out.go ((Below.refl _ wr).alloc (Nat.le_refl _) _)) wr.heap.size 1 _ [.int .i64 (k:Int)] (k:Int) (by rfl) (Blk.new wr _) (rd_int Hk64.out) (by have:=Hkl.out;unfold maxLen;omega) (by have:=Hkl.out;omega) (by simp;omega) ?_);intro g2 o2 cap w2 hown hgrow hat hlt2;have HO3:=Lib.hid hown;have HB3:=Lib.hid ((HB2.out.alloc hbz (.cells #[.int .i64 (k:Int)] 3)).grown hgrow (by simp;omega) (fun k hk=>(HO2.out.rowlt k hk).1));have Hat:=Lib.hid hat;clear hown hgrow hat;go_wp2_with fail;go_roundw
     case rel=>exact⟨k+1,by omega,by push_cast;rfl,by rw[HKS.out];exact HO3.out,HB3.out⟩
     case measure=>simp[intOf];omega
    ·have hb:(p==(m:Int))=false:=by simpa using hpm
     have HKS:Hid (nbsAhead t (m:Int)++kidsTo t (m:Int) (k+1)=L):=by unfold Hid;rw[Hks.out,if_neg (by rw[hb];simp),List.append_nil]
     go_wp2_with fail;go_roundw
     case rel=>exact⟨k+1,by omega,by push_cast;rfl,by rw[HKS.out];exact HO2.out,HB2.out⟩
     case measure=>simp[intOf];omega
   ·have hkn:k=n:=by omega
    have HE:Hid (L=nbs t (m:Int)):=Hend.out hkn;have hlt':¬((k:Int)<(n:Int)):=by omega
    go_wp2_with fail
    go_ret
    exact⟨_,rfl,by rw[←HE.out];exact HO2.out,HB2.out⟩
end Go.Proofs.YtkbfhgcjimfgkaaDoor
set_option linter.unusedSimpArgs false
namespace Go.Proofs.YtkbfhgcjimfgkaaDoor
open Go.RowKit Go.Shelf
attribute [local go_sem] Oper.semAt_some
def upTo {α:Type}(f:Nat→α)(k:Nat):List α:=(List.range k).map f
theorem upTo_succ {α:Type}(f:Nat→α)(k:Nat):upTo f (k+1)=upTo f k++[f k]:=by simp[upTo,List.range_succ]
theorem upTo_length {α:Type}(f:Nat→α)(k:Nat):(upTo f k).length=k:=by simp[upTo]
def KeepB (n₀ Bs:Nat)(W W':World):Prop:=Below n₀ W W'∧W'.heap[Bs]?=W.heap[Bs]?
theorem keepB_t {n₀ Bs:Nat}{A B C:World}(h:KeepB n₀ Bs A B)(k:KeepB n₀ Bs B C):KeepB n₀ Bs A C:=⟨h.1.trans k.1,k.2.trans h.2⟩
theorem keepB_b {n₀ Bs:Nat}{w:World}(hn:n₀≤w.heap.size)(hB:Bs<w.heap.size)(W:World)(l:Nat)(o o':Obj)(hl:w.heap.size≤l)(h:W.heap[l]?=some o)(h1:o.isCells=false)(h2:o.isWalk=false):KeepB n₀ Bs W (W.putObj l o'):=
 ⟨belowK_b hn W l o o' hl h h1 h2,(grownBy_putObj' W l o').block Bs (by have:=(Array.getElem?_eq_some_iff.1 h).1;omega) (by simp;omega)⟩
theorem KeepsOthers.of_below {W W':World}(h:Below W.heap.size W W'):KeepsOthers W W':=⟨h.size,fun k o hk _=>(h.block k (Array.getElem?_eq_some_iff.1 hk).1).trans hk⟩
set_option maxRecDepth 100000 in
set_option maxHeartbeats 2000000 in
theorem back1_in {α:Type}(f:Nat→α)(enc:α→Array Value)(vs:Nat→Value)(F:Fence)(n:Nat)(h7:F.fn 72)(hro:F.round=none)(hn:1≤n)(l Bs n₀ b off len cap:Nat)(hcap:len≤cap)(hreach:cap≤maxLen)(hb:b<n₀)(J Jx:List α→World→Prop)
 (henc:∀k,k<len→enc (f k)=#[.int .i64 ((len-1-k:Nat):Int),vs k])
 (hY:∀pre x W,J pre W→pre.length<len→YieldAt F (n-1) Tryd.prog l (enc x) W fun e W'=>
  (e=.returned (.bool true)∧J (pre++[x]) W'∧KeepB n₀ Bs W W')∨(e=.returned (.bool false)∧Jx (pre++[x]) W'))
 (W:World) (hBs:W.cell? ⟨Bs,0,none⟩=some (.slice (some ⟨b,off,none⟩) len cap)) (hc:∀k,k<len→W.cell? ⟨b,off+(len-1-k),none⟩=some (vs k)) (h0:J [] W):
 CallsIn F n Tryd.prog 72 #[.func (.yield l) #[] #[],.pointer (some ⟨Bs,0,none⟩)] W fun e W'=>(∃v,e=.returned v)∧
  ((∃ys,ys=upTo f len∧J ys W')∨(∃pre,(∃k,k≤len∧pre=upTo f k)∧Jx pre W')):=by
 unfold maxLen at hreach;refine callsIn_of_wp Tryd.func72 rfl h7 ?_ hro;simp only[Tryd.ntmps72,List.size_toArray,List.length_cons,List.length_nil,Nat.reduceAdd,Nat.reduceSub,Array.replicate_succ,Array.replicate_zero,List.push_toArray,List.append_toArray,List.nil_append,List.cons_append]
 gi_wp2
 gi_loopw [3] (fun i wr=>∃k:Nat,k≤len∧i=.int .i64 ((len:Int)-1-(k:Int))∧J (upTo f k) wr∧KeepB n₀ Bs W wr)
  (fun i _=>(intOf i+1).toNat)
 case atStart=>exact⟨0,Nat.zero_le _,by simp,h0,Below.refl _ _,rfl⟩
 case round=>
  obtain⟨k,hk,rfl,hJs,hnx⟩:=hrel;have hbs:=(cell_keep hnx.2).trans hBs;by_cases hlt:k<len
  ·obtain⟨fn,tmps,assign,body,hy,hR⟩:=hY _ (f k) wr hJs (by rw[upTo_length];exact hlt);have hcx':=(hnx.1.cell (p:=⟨b,off+(len-1-k),none⟩) hb).trans (hc k hlt);rw[henc k hlt]at hy;obtain⟨q,hq⟩:∃q:Nat,q=len-1-k:=⟨_,rfl⟩;have hq':(len:Int)-1-(k:Int)=(q:Int):=by omega
   rw[←hq]at hy hcx';rw[hq'];have hq0:(0:Int)≤(q:Int):=by omega
   have hql:(q:Int)<(len:Int):=by omega
   have hqc:(q:Int)<(cap:Int):=by omega
   have hqp:(q:Int)-1=(len:Int)-1-((k+1:Nat):Int):=by omega
   have Hqp:=Lib.hid hqp;have Hq':=Lib.hid hq';have Hq:=Lib.hid hq;clear hqp hq hq'
   gi_wp2
   refine hR.mono ?_;rintro e W3 (⟨rfl,hJ3,hk3⟩|⟨rfl,hJx3⟩)
   ·gi_wp2
    go_roundw
    case rel=>exact⟨k+1,by omega,by rw[Hqp.out],by rw[upTo_succ];exact hJ3,keepB_t hnx hk3⟩
    case measure=>
     have:=Hq'.out;simp[intOf]
   ·gi_wp2
    refine bodyPost_ret (results_none rfl _ _ _) rfl ?_;exact⟨⟨_,rfl⟩,.inr ⟨_,⟨k+1,by omega,(upTo_succ _ _).symm⟩,hJx3⟩⟩
  ·obtain rfl:k=len:=by omega
   have hm:(k:Int)-1-(k:Int)= -1:=by omega
   rw[hm]
   gi_wp2
   go_end0;exact⟨⟨_,rfl⟩,.inl ⟨_,rfl,hJs⟩⟩
set_option maxRecDepth 100000 in
set_option maxHeartbeats 1000000 in
theorem back1_nil_in {α:Type}(F:Fence)(n:Nat)(h7:F.fn 72)(hro:F.round=none)(l Bs:Nat)(a:Option Addr)(cap:Nat)(J:List α→World→Prop)(W:World)(hBs:W.cell? ⟨Bs,0,none⟩=some (.slice a 0 cap))(h0:J [] W):
 CallsIn F n Tryd.prog 72 #[.func (.yield l) #[] #[],.pointer (some ⟨Bs,0,none⟩)] W fun e W'=>(∃v,e=.returned v)∧J [] W':=by
 refine callsIn_of_wp Tryd.func72 rfl h7 ?_ hro;simp only[Tryd.ntmps72,List.size_toArray,List.length_cons,List.length_nil,Nat.reduceAdd,Nat.reduceSub,Array.replicate_succ,Array.replicate_zero,List.push_toArray,List.append_toArray,List.nil_append,List.cons_append]
 gi_wp2
 gi_loopw [3] (fun i wr=>i=.int .i64 (-1)∧J [] wr) (fun _ _=>0)
 case atStart=>exact⟨rfl,h0⟩
 case round=>
  obtain⟨rfl,hJs⟩:=hrel
  gi_wp2
  go_end0;exact⟨⟨_,rfl⟩,hJs⟩
set_option maxHeartbeats 1000000 in
theorem back_in (F:Fence)(n:Nat)(h5:F.fn 52)(hro:F.round=none)(a:Option Addr)(len cap:Nat)(w:World):
 CallsIn F n Tryd.prog 52 #[.slice a len cap] w fun e w'=>e=.returned (.func (.func 72) #[] #[.pointer (some ⟨w.heap.size,0,none⟩)])∧w'=w.alloc (.cells #[.slice a len cap] 28):=by
 refine callsIn_of_wp Tryd.func52 rfl h5 ?_ hro;simp only[Tryd.ntmps52,List.size_toArray,List.length_cons,List.length_nil,Nat.reduceAdd,Nat.reduceSub,Array.replicate_succ,Array.replicate_zero,List.push_toArray,List.append_toArray,List.nil_append,List.cons_append]
 gi_wp2
 go_ret
 exact⟨rfl,rfl⟩
theorem small_nil:Small []:=by unfold Small;simp
structure Seen (w0:World) where
 i:Nat
 o:Op
 a:Option Addr
 c:Nat
 rd:RdS (· <w0.heap.size) w0 o a o.length c
 sm:Small o
def Seen.enc {w0:World}(x:Seen w0):Array Value:=#[.int .i64 (x.i:Int),.slice x.a x.o.length x.c]
theorem back_stops (F:Fence)(n:Nat)(h7:F.fn 72)(hro:F.round=none)(hn:1≤n)(w0 w:World)(Bs:Nat)(l:List Op)(a:Option Addr)(c:Nat)(hr:RdS (· <w0.heap.size) w0 l a l.length c)(hsm:∀o∈l,Small o)(hb:Below w0.heap.size w0 w)(hBs:w0.heap.size≤Bs)(hBw:Bs<w.heap.size)(hc:w.cell? ⟨Bs,0,none⟩=some (.slice a l.length c)):
 SeqStopsK F n Tryd.prog 72 #[.pointer (some ⟨Bs,0,none⟩)] (Seen.enc (w0:=w0)) (KeepB w0.heap.size Bs) (fun ys=>ys.map Seen.o=l.reverse) (fun pre=>pre.map Seen.o<+:l.reverse) l.length w:=fun lb J Jx W hW _ _ hY h0=>by
 have hc':=(hW.cell (p:=⟨Bs,0,none⟩) hBw).trans hc;by_cases hz:l.length=0
 ·have hnil:l=[]:=List.eq_nil_of_length_eq_zero hz;subst hnil;exact(back1_nil_in F n h7 hro lb Bs a c J W hc' h0).mono fun e W' ⟨he,hj⟩=>⟨he,.inl ⟨[],rfl,hj⟩⟩
 ·obtain⟨b,off,rfl,hA,hbl,hcl⟩:=hr.rowO (by omega);have hex:∀k:Nat,∃x:Seen w0,k<l.length→x.i=l.length-1-k∧l[l.length-1-k]?=some x.o∧w0.cell? ⟨b,off+(l.length-1-k),none⟩=some (.slice x.a x.o.length x.c):=by
   intro k;by_cases hk:k<l.length
   ·obtain⟨a',n',c',h1,h2⟩:=hcl (l.length-1-k) (by omega);have h3:=h1.1;subst h3;exact⟨⟨l.length-1-k,l[l.length-1-k],a',c',h1,hsm _ (List.getElem_mem _)⟩,fun _=>⟨rfl,List.getElem?_eq_getElem _,h2⟩⟩
   ·exact⟨⟨0,[],none,0,RdS.nil _ _,small_nil⟩,fun h=>absurd h hk⟩
  have hf:=fun k=>Classical.choose_spec (hex k);generalize hff:(fun k=>Classical.choose (hex k))=f at*;have hf':∀k,k<l.length→(f k).i=l.length-1-k∧l[l.length-1-k]?=some (f k).o∧w0.cell? ⟨b,off+(l.length-1-k),none⟩=some (.slice (f k).a (f k).o.length (f k).c):=fun k hk=>by rw[←hff];exact hf k hk
  have hup:∀k,k≤l.length→(upTo f k).map Seen.o=l.reverse.take k:=by
   intro k
   induction k with
   |zero=>intro _;rfl
   |succ k ih=>
    intro hk;rw[upTo_succ,List.map_append,ih (by omega),List.map_cons,List.map_nil,List.take_succ_eq_append_getElem (by simp;omega)];congr 2;have:=(hf' k (by omega)).2.1;rw[List.getElem_reverse];obtain⟨_,h⟩:=List.getElem?_eq_some_iff.1 this;exact h.symm
  refine(back1_in f Seen.enc (fun k=>.slice (f k).a (f k).o.length (f k).c) F n h7 hro hn lb Bs w0.heap.size b off l.length c hr.2.1 hr.2.2.1 hbl J Jx (fun k hk=>by unfold Seen.enc;rw[(hf' k hk).1]) hY W hc' (fun k hk=>((hW.cell (p:=⟨b,off+(l.length-1-k),none⟩) (Nat.lt_of_lt_of_le hbl hb.size)).trans (hb.cell (p:=⟨b,off+(l.length-1-k),none⟩) hbl)).trans (hf' k hk).2.2) h0).mono ?_;rintro e W' ⟨he,⟨ys,rfl,hj⟩|⟨pre,⟨k,hk,rfl⟩,hj⟩⟩
  ·exact⟨he,.inl ⟨_,by show(upTo f l.length).map Seen.o=_;rw[hup _ (Nat.le_refl _),List.take_of_length_le (by simp)],hj⟩⟩
  ·exact⟨he,.inr ⟨_,by show(upTo f k).map Seen.o<+:_;rw[hup k hk];exact List.take_prefix _ _,hj⟩⟩
end Go.Proofs.YtkbfhgcjimfgkaaDoor
set_option linter.unusedSimpArgs false
namespace Go.Proofs.YtkbfhgcjimfgkaaDoor
open Go.RowKit Go.Shelf
attribute [local go_sem] Oper.semAt_some
def undoFrom (x:Int):List Op→Bool
 |[]=>true
 |o::r=>if check o≠0 then false else if sumF o≠x then false else undoFrom (sumT o) r
def undoOk (n:Nd):Bool:=undoFrom (rc n.text) n.undo.reverse&&decide (n.undo.length≤12)
def undoAt (x:Int):List Op→Int
 |[]=>x
 |o::r=>undoAt (sumT o) r
theorem undoFrom_snoc:∀(l:List Op)(x:Int)(o:Op)(r:List Op),undoFrom x l=true→undoFrom x (l++o::r)=undoFrom (undoAt x l) (o::r)
 |[],_,_,_,_=>rfl
 |p::l,x,o,r,h=>by
  unfold undoFrom at h
  show undoFrom x (p::(l++o::r))=undoFrom (undoAt (sumT p) l) (o::r)
  by_cases h1:check p=0
  ·rw[if_neg (by simpa using h1)]at h;by_cases h2:sumF p=x
   ·rw[if_neg (by simpa using h2)]at h;rw[undoFrom,if_neg (by simpa using h1),if_neg (by simpa using h2)];exact undoFrom_snoc l (sumT p) o r h
   ·rw[if_pos h2]at h;cases h
  ·rw[if_pos h1]at h;cases h
theorem undoAt_snoc:∀(l:List Op)(x:Int)(o:Op),undoAt x (l++[o])=sumT o
 |[],_,_=>rfl
 |p::l,x,o=>undoAt_snoc l (sumT p) o
set_option maxRecDepth 100000 in
set_option maxHeartbeats 4000000 in
theorem undo_any (n:Nd)(a:Option Addr)(c:Nat)(ua:Option Addr)(uc:Nat)(ma:Option Addr)(mc:Nat)(w:World)(hg:Good w)(hn:n.text.size≤strMax)(hr:RdS (· <w.heap.size) w n.undo ua n.undo.length uc)(hsm:∀o∈n.undo,Small o):
 Calls Tryd.prog 29 #[.agg #[.int .i64 n.me,.int .i64 n.epoch,.int .i64 n.up,.bool n.ready,.string n.text,.slice a n.sides.length c,.slice ua n.undo.length uc,.slice ma n.marks.length mc]] w
  fun e w'=>e=.returned (.bool (undoOk n))∧Below w.heap.size w w':=by
 refine(callsIn_wide (n:=5)).1 ?_;refine callsIn_of_wp_marks Tryd.func29 rfl trivial ?_ rfl;simp only[Tryd.ntmps29,List.size_toArray,List.length_cons,List.length_nil,Nat.reduceAdd,Nat.reduceSub,Array.replicate_succ,Array.replicate_zero,List.push_toArray,List.append_toArray,List.nil_append,List.cons_append];have HR:=fun W=>rc_any n.text W hn;obtain⟨cn,hcn⟩:∃cn:Obj,cn=.cells #[.int .i64 n.me,.int .i64 n.epoch,.int .i64 n.up,.bool n.ready,.string n.text,.slice a n.sides.length c,.slice ua n.undo.length uc,.slice ma n.marks.length mc] 31 (0,0):=⟨_,rfl⟩;have U0:Hid (Below w.heap.size w ((w.alloc cn).alloc (.cells #[.bool false] 4))):=by unfold Hid;(repeat (first|exact Below.refl _ _|assumption|(refine Below.drew ?_)|(refine below_drewN ?_ _)|(refine Below.alloc ?_ (by first|(simp;done)|(simp;omega)|omega) _)|(refine Below.setCell ?_ (by first|(simp;done)|(simp;omega)|omega) _)|(refine Below.trans ?_ (Below.mono (by assumption) (by first|(simp;done)|(simp;omega)|omega)))))
 have X0:Hid (Blk w.heap.size cn ((w.alloc cn).alloc (.cells #[.bool false] 4))):=(Blk.new w _).alloc _;have Y0:Hid (Blk (w.heap.size+1) (.cells #[.bool false] 4 (0,0)) ((w.alloc cn).alloc (.cells #[.bool false] 4))):=Blk.at (w.alloc cn) _ _ (by simp)
 gi_wp2
 refine⟨trivial,?_⟩;rw[←hcn];refine(callsIn_wide.2 (HR _)).mono ?_;rintro e w1 ⟨rfl,b1⟩;have B1:Below w.heap.size w w1:=up U0.out b1;have X1:=X0.out.go b1;have Y1:=Y0.out.go b1;rw[hcn]at X1;have q6:w1.cell? ⟨w.heap.size,6,none⟩=some (.slice ua n.undo.length uc):=X1.cell 6;have hx1:=Y1.lt;have hx0:=X1.lt;have HB1:=Lib.hid B1;have HX1:=Lib.hid X1;have HY1:=Lib.hid Y1;clear U0 X0 Y0 b1 B1 X1 Y1
 gi_wp2
 refine⟨trivial,?_⟩;refine(back_in Fence.wide 4 trivial rfl _ _ _ _).mono ?_;rintro e w2 ⟨rfl,hw2⟩;obtain⟨W0,hW0⟩:∃W0,W0=w2:=⟨_,rfl⟩;have hsz:W0.heap.size=w1.heap.size+1+1:=by rw[hW0,hw2];simp
 have hA0:Hid (Blk w1.heap.size (.cells #[.int .i64 (rc n.text)] 3 (0,0)) W0):=by rw[hW0,hw2];exact(Blk.new w1 _).alloc _
 have hC0:Hid (Blk (w1.heap.size+1) (.cells #[.slice ua n.undo.length uc] 28 (0,0)) W0):=by rw[hW0,hw2];exact Blk.at (w1.alloc _) _ _ (by simp)
 have hB01:Below w1.heap.size w1 W0:=by rw[hW0,hw2];exact((Below.refl _ _).alloc (Nat.le_refl _) _).alloc (by simp) _
 have HB0:=Lib.hid (up HB1.out hB01);have HX0:=Lib.hid (HX1.out.go hB01);have HY0:=Lib.hid (HY1.out.go hB01);rw[←hW0];clear hW0 hw2 hB01
 gi_wp2
 refine wpIn_rangeFunc_ownF rfl (by omega) (gf:=72) (lb:=#[.pointer (some ⟨w1.heap.size+1,0,none⟩)]) rfl trivial (enters_of Tryd.func72 (by kernel_rfl) rfl)
  (back_stops Fence.wide 4 trivial rfl (by omega) w W0 (w1.heap.size+1) n.undo ua uc hr hsm HB0.out (by omega) (by omega) (hC0.out.cell 0)) keepB_t (keepB_b HB0.out.size (by omega)) (Below.refl _ _) (fun _=>rfl)
  (fun pre W=>undoFrom (rc n.text) (pre.map Seen.o)=true∧Blk w1.heap.size (.cells #[.int .i64 (undoAt (rc n.text) (pre.map Seen.o))] 3 (0,0)) W∧Touch (fun z=>z=w1.heap.size) W0 W)
  (fun co pre W=>co=.ret∧(∀r,undoFrom (rc n.text) (pre.map Seen.o++r)=false)∧Blk (w.heap.size+1) (.cells #[.bool false] 4 (0,0)) W∧Touch (fun z=>z=w1.heap.size∨z=w.heap.size+1) W0 W)
  ?hI ?hIx ?h0
  (fun x=>{tmps:=#[.agg #[.int .i64 n.me,.int .i64 n.epoch,.int .i64 n.up,.bool n.ready,.string n.text,.slice a n.sides.length c,.slice ua n.undo.length uc,.slice ma n.marks.length mc],.pointer (some ⟨w.heap.size,0,none⟩),.pointer (some ⟨w.heap.size+1,0,none⟩),.pointer (some ⟨w1.heap.size,0,none⟩),undef,.slice x.a x.o.length x.c,undef,undef,.pointer (some ⟨w.heap.size,4,none⟩),.string n.text,.int .i64 (rc n.text),.pointer (some ⟨w.heap.size,6,none⟩),.slice ua n.undo.length uc,.func (.func 72) #[] #[.pointer (some ⟨w1.heap.size+1,0,none⟩)],.int .i64 (x.i:Int),.slice x.a x.o.length x.c,undef,undef,undef,undef,undef,undef,undef,undef,undef,undef,undef,undef,undef,undef,undef,undef,undef,undef],defers:=[]}) ?assign ?body ?done ?stop
 case hI=>
  rintro s W W' row ⟨k1,k2,k3⟩ hg hrow;exact⟨k1,k2.grown hg (fun e=>by have:=(hrow _ e.symm).1;omega),k3.grown hg (fun k e=>.inr (hrow k e).1)⟩
 case hIx=>
  rintro co s W W' row ⟨k0,k1,k2,k3⟩ hg hrow;exact⟨k0,k1,k2.grown hg (fun e=>by have:=(hrow _ e.symm).1;omega),k3.grown hg (fun k e=>.inr (hrow k e).1)⟩
 case h0=>exact⟨rfl,hA0.out,Touch.refl _ _⟩
 case assign=>
  intro l x W K hK;simp only[Seen.enc]
  gi_wp2
  exact hK
 case body=>
  rintro l pre x W ⟨k1,k2,k3⟩ hlt;have hbW:Below w.heap.size w W:=HB0.out.trans (k3.toBelow HB0.out.size (fun z hz=>by omega));have hgW:Good W:=hg.below hbW hg.size;have hsn:=undoFrom_snoc (pre.map Seen.o) (rc n.text) x.o;have hms:(pre++[x]).map Seen.o=pre.map Seen.o++[x.o]:=by simp
  have hat:=undoAt_snoc (pre.map Seen.o) (rc n.text) x.o;generalize undoAt (rc n.text) (pre.map Seen.o)=A1 at*;have hrx:=Lib.hid x.rd;have hsx:=Lib.hid x.sm;have HK1:=Lib.hid k1;have HK2:=Lib.hid k2;have HK3:=Lib.hid k3;have HW:=Lib.hid hbW;have HGW:=Lib.hid hgW;have Hsn:=Lib.hid hsn;have Hms:=Lib.hid hms;have Hat:=Lib.hid hat;have hz0:=k2.lt;clear k1 k2 k3 hbW hgW hsn hms hat
  gi_wp2
  refine⟨trivial,?_⟩;refine(CallsIn.inRound l (callsIn_wide.2 (lengths_any (· <W.heap.size) x.o x.a _ x.c W (hrx.out.go HW.out) hsx.out))).mono ?_;rintro e W2 ⟨rfl,b2⟩;have hW2:=Lib.hid (up HW.out b2);have B2:=Lib.hid b2;clear b2
  gi_wp2
  refine⟨trivial,?_⟩;refine(CallsIn.inRound l (callsIn_wide.2 (check_any (· <W2.heap.size) x.o x.a _ x.c W2 (HGW.out.go B2.out) (fun _ h=>h) (hrx.out.go hW2.out)))).mono ?_;rintro e W3 ⟨rfl,b3⟩;have B3:=Lib.hid (up B2.out b3);have X3:Blk w1.heap.size (.cells #[.int .i64 A1] 3 (0,0)) W3:=HK2.out.go B3.out;have T3:Hid (Touch (fun z=>z=w1.heap.size) W0 W3):=HK3.out.trans (Touch.of_below B3.out);have Y3:Blk (w.heap.size+1) (.cells #[.bool false] 4 (0,0)) W3:=HY0.out.touch T3.out (by omega);have p3:W3.cell? ⟨w1.heap.size,0,none⟩=some (.int .i64 A1):=X3.cell 0;have f3:W3.frozen? ⟨w1.heap.size,0,none⟩=false:=X3.frozen 0;have hz3:=X3.lt;have r3:W3.cell? ⟨w.heap.size+1,0,none⟩=some (.bool false):=Y3.cell 0;have g3:W3.frozen? ⟨w.heap.size+1,0,none⟩=false:=Y3.frozen 0;have hy3:=Y3.lt;have HX3:=Lib.hid X3;have HY3:=Lib.hid Y3;have KO:Hid (KeepsOthers W W3):=KeepsOthers.of_below B3.out;clear b3 X3 Y3;by_cases hc0:check x.o=0
  ·by_cases hc1:sumF x.o=A1
   ·have hb1:(sumF x.o==A1)=true:=by simpa using hc1
    have hb1':(sumF x.o !=A1)=false:=by simpa using hc1
    have hun:undoFrom (rc n.text) ((pre++[x]).map Seen.o)=true:=by
     rw[Hms.out,Hsn.out [] HK1.out];unfold undoFrom;rw[if_neg (by simpa using hc0),if_neg (by simpa using hc1)];rfl
    have Hun:=Lib.hid hun;have HN:Hid (KeepsOthers W (W3.setCell ⟨w1.heap.size,0,none⟩ (.int .i64 (sumT x.o)))∧KeepB w.heap.size (w1.heap.size+1) W (W3.setCell ⟨w1.heap.size,0,none⟩ (.int .i64 (sumT x.o)))∧Blk w1.heap.size (.cells #[.int .i64 (undoAt (rc n.text) ((pre++[x]).map Seen.o))] 3 (0,0)) (W3.setCell ⟨w1.heap.size,0,none⟩ (.int .i64 (sumT x.o)))∧Touch (fun z=>z=w1.heap.size) W0 (W3.setCell ⟨w1.heap.size,0,none⟩ (.int .i64 (sumT x.o)))):=by
     have ht:=touch1 (w:=W3) (g:=w1.heap.size) (i:=0) (.int .i64 (sumT x.o));refine⟨KO.out.trans (KeepsOthers.setCell _ _ _),⟨?_,?_⟩,?_,T3.out.trans ht⟩
     ·exact(Touch.of_below (S:=fun z=>w.heap.size≤z) B3.out|>.trans (ht.mono fun z _ hz=>by omega)).toBelow (by have:=HW.out.size;omega) (fun z hz=>hz)
     ·have hC:=hC0.out.touch HK3.out (by omega);have hC3:=hC.go B3.out;exact((ht.block _ hC3.lt (by omega)).trans hC3).trans hC.symm
     ·rw[Hms.out,Hat.out];exact HX3.out.set 0 _
    clear hun hc1
    gi_wp2
    exact⟨HN.out.1,HN.out.2.1,Hun.out,HN.out.2.2⟩
   ·have hb1:(sumF x.o==A1)=false:=by simpa using hc1
    have hb1':(sumF x.o !=A1)=true:=by simpa using hc1
    have hr4:=touch1 (w:=W3) (g:=w.heap.size+1) (i:=0) (.bool false);have HX:Hid (KeepsOthers W (W3.setCell ⟨w.heap.size+1,0,none⟩ (.bool false))∧(∀r,undoFrom (rc n.text) ((pre++[x]).map Seen.o++r)=false)∧Blk (w.heap.size+1) (.cells #[.bool false] 4 (0,0)) (W3.setCell ⟨w.heap.size+1,0,none⟩ (.bool false))∧Touch (fun z=>z=w1.heap.size∨z=w.heap.size+1) W0 (W3.setCell ⟨w.heap.size+1,0,none⟩ (.bool false))):=by
     refine⟨KO.out.trans (KeepsOthers.setCell _ _ _),fun r=>?_,HY3.out.set 0 _,(T3.out.mono fun z _ hz=>.inl hz).trans (hr4.mono fun z _ hz=>.inr hz)⟩;rw[Hms.out,List.append_assoc,List.singleton_append,Hsn.out r HK1.out];unfold undoFrom;rw[if_neg (by simpa using hc0),if_pos hc1]
    clear hr4;clear hc1
    gi_wp2
    exact⟨HX.out.1,rfl,HX.out.2⟩
  ·have hb0:(check x.o !=0)=true:=by simpa using hc0
   have hr4:=touch1 (w:=W3) (g:=w.heap.size+1) (i:=0) (.bool false);have HX:Hid (KeepsOthers W (W3.setCell ⟨w.heap.size+1,0,none⟩ (.bool false))∧(∀r,undoFrom (rc n.text) ((pre++[x]).map Seen.o++r)=false)∧Blk (w.heap.size+1) (.cells #[.bool false] 4 (0,0)) (W3.setCell ⟨w.heap.size+1,0,none⟩ (.bool false))∧Touch (fun z=>z=w1.heap.size∨z=w.heap.size+1) W0 (W3.setCell ⟨w.heap.size+1,0,none⟩ (.bool false))):=by
    refine⟨KO.out.trans (KeepsOthers.setCell _ _ _),fun r=>?_,HY3.out.set 0 _,(T3.out.mono fun z _ hz=>.inl hz).trans (hr4.mono fun z _ hz=>.inr hz)⟩;rw[Hms.out,List.append_assoc,List.singleton_append,Hsn.out r HK1.out];unfold undoFrom;rw[if_pos hc0]
   clear hr4;clear hc0
   gi_wp2
   exact⟨HX.out.1,rfl,HX.out.2⟩
 case done=>
  rintro D ys W hD hys ⟨k1,k2,k3⟩ hK;have hys':ys.map Seen.o=n.undo.reverse:=hys;rw[hys']at k1;have X3:=HX0.out.touch k3 (by omega);have Y3:=HY0.out.touch k3 (by omega);have x6:W.cell? ⟨w.heap.size,6,none⟩=some (.slice ua n.undo.length uc):=X3.cell 6;have r3:W.cell? ⟨w.heap.size+1,0,none⟩=some (.bool false):=Y3.cell 0;have g3:W.frozen? ⟨w.heap.size+1,0,none⟩=false:=Y3.frozen 0;have hy3:=Y3.lt;have hOk:undoOk n=decide ((n.undo.length:Int)≤12):=by
   unfold undoOk;rw[k1,Bool.true_and];by_cases h:n.undo.length≤12
   ·rw[decide_eq_true h,decide_eq_true (by omega)]
   ·rw[decide_eq_false h,decide_eq_false (by omega)]
  have HOk:=Lib.hid hOk;have HK3:=Lib.hid k3;have HY3:=Lib.hid Y3;have Hx6:=Lib.hid hK;clear k1 k2 k3 X3 Y3 hOk hys hys'
  gi_wp2
  have hK':=(KeepsOthers.setCell W ⟨w.heap.size+1,0,none⟩ (.bool (decide ((n.undo.length:Int)≤12)))).same D _ Hx6.out rfl;refine⟨by simp,.inl ⟨_,_,rfl,run_takeDeferred hK',?_⟩⟩;have hc5:=cell_kept ((HY3.out.set 0 (.bool (decide ((n.undo.length:Int)≤12)))).cell 0) (grownBy_putObj' _ D (.deferred none)) (fun r e=>by cases e;exact⟨_,hK',rfl⟩);have hB:Below w.heap.size w W:=HB0.out.trans (HK3.out.toBelow HB0.out.size (fun z hz=>by omega));refine⟨.bool (decide ((n.undo.length:Int)≤12)),?_,by rw[HOk.out],(hB.setCell (p:=⟨w.heap.size+1,0,none⟩) (by simp) _).trans (belowK_b (w:=w) (Nat.le_refl _) _ D _ _ (by omega) hK' rfl rfl)⟩;simp only[List.setIfInBounds_toArray,List.set_cons_zero,List.getElem?_toArray,List.getElem?_cons_zero]at hc5;simp[results,Tryd.results29,go_sem,hc5]
 case stop=>
  rintro D co pre W hD hpre ⟨rfl,k1,k2,k3⟩ hK;have hU:undoOk n=false:=by
   obtain⟨r,hr2⟩:=hpre;unfold undoOk;rw[←hr2,k1 r];rfl
  have HU:=Lib.hid hU;have HK2:=Lib.hid k2;have HK3:=Lib.hid k3;clear hU k1 k2 k3 hpre
  gi_wp2
  refine⟨by simp,.inl ⟨_,_,rfl,run_takeDeferred hK,?_⟩⟩;have hc5:=cell_kept (HK2.out.cell 0) (grownBy_putObj' _ D (.deferred none)) (fun r e=>by cases e;exact⟨_,hK,rfl⟩);have hB:Below w.heap.size w W:=HB0.out.trans (HK3.out.toBelow HB0.out.size (fun z hz=>by omega));refine⟨.bool false,?_,by rw[HU.out],hB.trans (belowK_b (w:=w) (Nat.le_refl _) W D _ _ (by omega) hK rfl rfl)⟩;simp[results,Tryd.results29,go_sem,hc5]
end Go.Proofs.YtkbfhgcjimfgkaaDoor
