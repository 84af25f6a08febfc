/- The walk of edge.Check. -/
import Derived.Test.YtkbfhgcjimfgkaaDoorPartA6
import Derived.Outline
set_option linter.unusedVariables false
set_option linter.unusedSimpArgs false
set_option linter.unusedSimpArgs false
namespace Go.Proofs.YtkbfhgcjimfgkaaDoor
open Go.RowKit
theorem RdS.row {α:Type} [Rep α] {A:Nat→Prop}{w:World}{ls:List (List α)}{a:Option Addr}{n c:Nat}(hr:RdS A w ls a n c)(hn:0<n):
 ∃b off,a=some ⟨b,off,none⟩∧A b∧b<w.heap.size∧∀i (h:i<ls.length),∃a' n' c',RdS A w ls[i] a' n' c'∧w.cell? ⟨b,off+i,none⟩=some (.slice a' n' c'):=by
 obtain⟨b,off,e,hA,hb,he⟩:=hr.2.2.2.2 hn;refine⟨b,off,e,hA,hb,fun i h=>?_⟩;obtain⟨xs,⟨a',n',c',rfl,h1⟩,h4⟩:=he i ls[i] (List.getElem?_eq_getElem h);have h5:=h4 0 _ rfl;refine⟨a',n',c',h1,?_⟩;have e1:off+i*Rep.n (List α)+0=off+i:=by show off+i*1+0=off+i;omega
 rw[e1]at h5;exact h5
def chainFrom:Option Int→List Op→Bool
 |_,[]=>true
 |q,o::r=>decide (check o=0)&&(match q with|some t=>decide (sumF o=t)|none=>true)&&chainFrom (some (sumT o)) r
def edgeOdd (s h:Int)(l:List Op):Prop:=s<0∨1048576<s∨h<0∨1048576<h∨s<l.length
instance (s h:Int)(l:List Op):Decidable (edgeOdd s h l):=by unfold edgeOdd;infer_instance
def edgeCheck (s h:Int)(l:List Op):Int:=if edgeOdd s h l then 9 else if chainFrom none l=true then 0 else 9
def aheadT (l:List Op):Nat→Option Int
 |0=>none
 |k+1=>(l[k]?).map sumT
theorem chain_bad {q:Option Int}{o:Op}{r:List Op}(h:check o≠0):chainFrom q (o::r)=false:=by simp[chainFrom,h]
theorem chain_off {t:Int}{o:Op}{r:List Op}(h:sumF o≠t):chainFrom (some t) (o::r)=false:=by simp[chainFrom,h]
theorem chain_none {o:Op}{r:List Op}(h:check o=0):chainFrom none (o::r)=chainFrom (some (sumT o)) r:=by simp[chainFrom,h]
theorem chain_on {t:Int}{o:Op}{r:List Op}(h:check o=0)(h2:sumF o=t):chainFrom (some t) (o::r)=chainFrom (some (sumT o)) r:=by simp[chainFrom,h,h2]
theorem edge_odd (s h:Int)(l:List Op)(a:Option Addr)(n c:Nat)(w:World)(hr:RdS (· <w.heap.size) w l a n c)(hs:I64 s)(hh:I64 h)(ho:edgeOdd s h l):
 Calls Tryd.prog 53 #[.agg #[.int .i64 s,.int .i64 h,.slice a n c]] w fun e w'=>e=.returned (.int .i64 9)∧Below w.heap.size w w':=by
 have hn:=hr.1;have hnm:n≤maxLen:=by have h1:=hr.2.1;have h2:=hr.2.2.1;omega
 unfold maxLen at hnm;unfold I64 at hs hh;clear hr;unfold edgeOdd at ho;rw[←hn]at ho;clear hn;by_cases h1:s<0
 ·clear ho;go_enter Tryd.func53,Tryd.ntmps53;go_wp2_with fail
  go_ret
  exact⟨rfl,by(repeat (first|exact Below.refl _ _|assumption|(refine Below.drew ?_)|(refine below_drewN ?_ _)|(refine Below.alloc ?_ (by first|(simp;done)|(simp;omega)|omega) _)|(refine Below.setCell ?_ (by first|(simp;done)|(simp;omega)|omega) _)|(refine Below.trans ?_ (Below.mono (by assumption) (by first|(simp;done)|(simp;omega)|omega)))))⟩
 by_cases h2:1048576<s
 ·clear ho;go_enter Tryd.func53,Tryd.ntmps53;go_wp2_with fail
  go_ret
  exact⟨rfl,by(repeat (first|exact Below.refl _ _|assumption|(refine Below.drew ?_)|(refine below_drewN ?_ _)|(refine Below.alloc ?_ (by first|(simp;done)|(simp;omega)|omega) _)|(refine Below.setCell ?_ (by first|(simp;done)|(simp;omega)|omega) _)|(refine Below.trans ?_ (Below.mono (by assumption) (by first|(simp;done)|(simp;omega)|omega)))))⟩
 by_cases h3:h<0
 ·clear ho;go_enter Tryd.func53,Tryd.ntmps53;go_wp2_with fail
  go_ret
  exact⟨rfl,by(repeat (first|exact Below.refl _ _|assumption|(refine Below.drew ?_)|(refine below_drewN ?_ _)|(refine Below.alloc ?_ (by first|(simp;done)|(simp;omega)|omega) _)|(refine Below.setCell ?_ (by first|(simp;done)|(simp;omega)|omega) _)|(refine Below.trans ?_ (Below.mono (by assumption) (by first|(simp;done)|(simp;omega)|omega)))))⟩
 by_cases h4:1048576<h
 ·clear ho;go_enter Tryd.func53,Tryd.ntmps53;go_wp2_with fail
  go_ret
  exact⟨rfl,by(repeat (first|exact Below.refl _ _|assumption|(refine Below.drew ?_)|(refine below_drewN ?_ _)|(refine Below.alloc ?_ (by first|(simp;done)|(simp;omega)|omega) _)|(refine Below.setCell ?_ (by first|(simp;done)|(simp;omega)|omega) _)|(refine Below.trans ?_ (Below.mono (by assumption) (by first|(simp;done)|(simp;omega)|omega)))))⟩
 have h5:s<n:=by omega
 clear ho;go_enter Tryd.func53,Tryd.ntmps53;go_wp2_with fail
 go_ret
 exact⟨rfl,by(repeat (first|exact Below.refl _ _|assumption|(refine Below.drew ?_)|(refine below_drewN ?_ _)|(refine Below.alloc ?_ (by first|(simp;done)|(simp;omega)|omega) _)|(refine Below.setCell ?_ (by first|(simp;done)|(simp;omega)|omega) _)|(refine Below.trans ?_ (Below.mono (by assumption) (by first|(simp;done)|(simp;omega)|omega)))))⟩
set_option maxHeartbeats 2000000 in
theorem edge_any (s h:Int)(l:List Op)(a:Option Addr)(n c:Nat)(w:World)(hg:Good w)(hr:RdS (· <w.heap.size) w l a n c)(hs:I64 s)(hh:I64 h):
 Calls Tryd.prog 53 #[.agg #[.int .i64 s,.int .i64 h,.slice a n c]] w fun e w'=>e=.returned (.int .i64 (edgeCheck s h l))∧Below w.heap.size w w':=by
 by_cases ho:edgeOdd s h l
 ·unfold edgeCheck;rw[if_pos ho];exact edge_odd s h l a n c w hr hs hh ho
 ·unfold edgeCheck;rw[if_neg ho];generalize hR:(if chainFrom none l=true then(0:Int)else 9)=R;have HR:=Lib.hid hR;clear hR;unfold edgeOdd at ho;have hn:=hr.1;have h1:¬s<0:=by omega
  have h2:¬1048576<s:=by omega
  have h3:¬h<0:=by omega
  have h4:¬1048576<h:=by omega
  have h5:¬s<n:=by omega
  have h6:n≤1048576:=by omega
  have Hl:=Lib.hid hn;have Hr:=Lib.hid hr;clear hn hr ho hs hh;go_enter Tryd.func53,Tryd.ntmps53;go_wp2_with fail;have hz:w.heap.size<(w.alloc (.cells #[.int .i64 s,.int .i64 h,.slice a n c] 67)).heap.size:=by simp
  have hbx:(w.alloc (.cells #[.int .i64 s,.int .i64 h,.slice a n c] 67)).cell? ⟨w.heap.size,2,none⟩=some (.slice a n c):=by rw[cell_of_row _ _ _ _ _ _ (heap_alloc_new w _)];rfl
  have Hbw:=Lib.hid (p:=Below w.heap.size w (w.alloc (.cells #[.int .i64 s,.int .i64 h,.slice a n c] 67))) ((Below.refl _ _).alloc (Nat.le_refl _) _);have Hr1:=Lib.hid (Hr.out.go Hbw.out);have hg1:=hg.below' Hbw.out;generalize (w.alloc (.cells #[.int .i64 s,.int .i64 h,.slice a n c] 67))=w1 at*;clear Hr h1 h2 h3 h4 h5;go_loopw [38] (fun i wr=>∃k:Nat,k≤n∧i=.int .i64 k∧chainFrom none l=chainFrom (aheadT l k) (l.drop k)∧(∀o∈l.take k,check o=0)∧Below w1.heap.size w1 wr) (fun i _=>n-(intOf i).toNat)
  case atStart=>exact⟨0,by omega,rfl,rfl,by simp,Below.refl _ _⟩
  case round=>
   obtain⟨k,hk,rfl,hcf,hall,hb⟩:=hrel;have Hcf:=Lib.hid hcf;have Hall:=Lib.hid hall;clear hcf hall;have hzr:=hb.size;have hbr:wr.cell? ⟨w.heap.size,2,none⟩=some (.slice a n c):=(hb.cell (p:=⟨w.heap.size,2,none⟩) hz).trans hbx;have hgr:=hg1.below' hb;have Hb:=Lib.hid hb;by_cases hlt:k<n
   ·have hrr:=Hr1.out.go hb;obtain⟨b,off,rfl,hAb,hbs,hcs⟩:=hrr.row (by omega);have hkl:k<l.length:=by have:=Hl.out;omega
    obtain⟨ak,nk,ck,hrk,dk⟩:=hcs k hkl;have Hd:=Lib.hid (List.drop_eq_getElem_cons hkl);have Htk:=Lib.hid (take_next l k hkl);have Hck:=Lib.hid (check_go l[k] ak nk ck _ hgr hrk);have Hrk:=Lib.hid hrk;by_cases hc:check l[k]=0
    ·have Hall2:Hid (∀o∈l.take (k+1),check o=0):=by
      unfold Hid;rw[Htk.out];intro o ho;rcases List.mem_append.1 ho with h|h
      ·exact Hall.out o h
      ·simp at h;rw[h];exact hc
     have Hah:Hid (aheadT l (k+1)=some (sumT l[k])):=by unfold Hid;simp only[aheadT];rw[List.getElem?_eq_getElem hkl];rfl
     rw[hc]at Hck;cases k with
     |zero=>
      have Hst:Hid (chainFrom none l=chainFrom (aheadT l (0+1)) (l.drop (0+1))):=by
       unfold Hid;rw[Hcf.out,Hd.out];rw[Hah.out];exact chain_none hc
      clear Hd Htk Hah Hcf Hall hc hcs hrk hrr hb;simp only[Nat.add_zero]at dk;go_wp2_with fail;refine Hck.out.mono ?_;rintro e w2 ⟨rfl,hb2⟩;have Hb2:=Lib.hid (Hb.out.trans (hb2.mono hzr));clear hb2 Hb;go_wp2_with fail;go_roundw
      case rel=>exact⟨1,by omega,by go_num,Hst.out,Hall2.out,Hb2.out⟩
      case measure=>simp[intOf];omega
     |succ j=>
      obtain⟨aj,nj,cj,hrj,dj⟩:=hcs j (by omega);have hah:aheadT l (j+1)=some (sumT l[j]):=by simp only[aheadT];rw[List.getElem?_eq_getElem (by omega)];rfl
      have hcj:check l[j]=0:=Hall.out l[j] (by rw[List.mem_take_iff_getElem];exact⟨j,by omega,rfl⟩);have Hlj:=Lib.hid (fun W (hW:Below wr.heap.size wr W)=>lengths_go l[j] aj nj cj W (hrj.go hW) hcj);have Hlk:=Lib.hid (fun W (hW:Below wr.heap.size wr W)=>lengths_go l[j+1] ak nk ck W (hrk.go hW) hc);have hbj:∀W,Below wr.heap.size wr W→W.cell? ⟨w.heap.size,2,none⟩=some (.slice (some ⟨b,off,none⟩) n c)∧W.cell? ⟨b,off+j,none⟩=some (.slice aj nj cj):=fun W hW=>
       ⟨(hW.cell (p:=⟨w.heap.size,2,none⟩) (show w.heap.size<wr.heap.size by omega)).trans hbr,(hW.cell (p:=⟨b,off+j,none⟩) hbs).trans dj⟩
      have Hbj:=Lib.hid hbj;by_cases heq:sumF l[j+1]=sumT l[j]
      ·have Hst:Hid (chainFrom none l=chainFrom (aheadT l (j+1+1)) (l.drop (j+1+1))):=by
        unfold Hid;rw[Hcf.out,Hd.out];rw[Hah.out,hah];exact chain_on hc heq
       have hne:(sumF l[j+1] !=sumT l[j])=false:=by simp[heq]
       clear Hd Htk Hah Hcf Hall hc hcs hrk hrr hb hah hcj hrj dj hbj heq;have hp0:0<j+1:=by omega
       have hjn:j<n:=by omega
       go_wp2_with fail;refine Hck.out.mono ?_;rintro e w2 ⟨rfl,hb2⟩;have Hb2:=Lib.hid hb2;obtain⟨e2,ej⟩:=Hbj.out _ hb2;clear hb2;go_wp2_with fail;refine(Hlj.out _ Hb2.out).mono ?_;rintro e w3 ⟨rfl,hb3⟩;have Hb3:=Lib.hid (Hb2.out.trans (hb3.mono Hb2.out.size));clear hb3 Hb2;go_wp2_with fail;refine(Hlk.out _ Hb3.out).mono ?_;rintro e w4 ⟨rfl,hb4⟩;have Hb4:=Lib.hid (Hb.out.trans ((Hb3.out.trans (hb4.mono Hb3.out.size)).mono hzr));clear hb4 Hb3;go_wp2_with fail;go_roundw
       case rel=>exact⟨j+1+1,by omega,by go_num,Hst.out,Hall2.out,Hb4.out⟩
       case measure=>simp[intOf];omega
      ·have Hst:Hid (chainFrom none l=false):=by
        unfold Hid;rw[Hcf.out,Hd.out];rw[hah];exact chain_off heq
       have hne:(sumF l[j+1] !=sumT l[j])=true:=by simpa using heq
       clear Hd Htk Hah Hcf Hall hc hcs hrk hrr hb hah hcj hrj dj hbj heq;have hp0:0<j+1:=by omega
       have hjn:j<n:=by omega
       go_wp2_with fail;refine Hck.out.mono ?_;rintro e w2 ⟨rfl,hb2⟩;have Hb2:=Lib.hid hb2;obtain⟨e2,ej⟩:=Hbj.out _ hb2;clear hb2;go_wp2_with fail;refine(Hlj.out _ Hb2.out).mono ?_;rintro e w3 ⟨rfl,hb3⟩;have Hb3:=Lib.hid (Hb2.out.trans (hb3.mono Hb2.out.size));clear hb3 Hb2;go_wp2_with fail;refine(Hlk.out _ Hb3.out).mono ?_;rintro e w4 ⟨rfl,hb4⟩;have Hb4:=Lib.hid (Hbw.out.trans ((Hb.out.trans ((Hb3.out.trans (hb4.mono Hb3.out.size)).mono hzr)).mono Hbw.out.size));clear hb4 Hb3;go_wp2_with fail
       go_ret
       exact⟨ret_int (by rw[←HR.out,Hst.out];rfl),Hb4.out⟩
    ·have Hst:Hid (chainFrom none l=false):=by
      unfold Hid;rw[Hcf.out,Hd.out];exact chain_bad hc
     have hne:(check l[k] !=0)=true:=by simpa using hc
     clear Hd Htk Hcf Hall hc hcs hrk hrr hb;go_wp2_with fail;refine Hck.out.mono ?_;rintro e w2 ⟨rfl,hb2⟩;have Hb2:=Lib.hid (Hbw.out.trans ((Hb.out.trans (hb2.mono hzr)).mono Hbw.out.size));clear hb2;go_wp2_with fail
     go_ret
     exact⟨ret_int (by rw[←HR.out,Hst.out];rfl),Hb2.out⟩
   ·have hkn:k=l.length:=by have:=Hl.out;omega
    have Hst:Hid (chainFrom none l=true):=by
     unfold Hid;rw[Hcf.out,hkn,List.drop_length];cases aheadT l l.length<;>rfl
    have Hb2:=Lib.hid (Hbw.out.trans (hb.mono Hbw.out.size));clear Hcf Hall hkn hb;go_wp2_with fail
    go_ret
    exact⟨ret_int (by rw[←HR.out,Hst.out];rfl),Hb2.out⟩
end Go.Proofs.YtkbfhgcjimfgkaaDoor
