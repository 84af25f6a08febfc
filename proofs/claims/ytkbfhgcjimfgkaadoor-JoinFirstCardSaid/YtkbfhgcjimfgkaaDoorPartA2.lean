/- The walks of wire.number and wire.CheckFrame. -/
import Derived.Test.YtkbfhgcjimfgkaaDoorRows
import Derived.Test.YtkbfhgcjimfgkaaDoorPartA0
import Derived.Test.YtkbfhgcjimfgkaaDoorShelf
import Derived.Lib.RuneCount
import Derived.Lib.ValidLaws
import Derived.BigQuiet
import Derived.Deep.QuietTactic
import Derived.Lib.Hide
import Derived.OwnWalk
import Derived.WalkSmall
set_option linter.unusedVariables false
set_option linter.unusedSimpArgs false
namespace Go.Proofs.YtkbfhgcjimfgkaaDoor
open Go.RowKit
def valid (s:Str):Bool:=Lib.validD s.data.toList
def rc (s:Str):Int:=Lib.runeCount s
def checkText (s:Str):Int:=if valid s=false then 4 else if 4000<rc s then 1 else 0
theorem valid_any (s:Str)(w:World)(hg:Good w)(hs:s.size≤strMax):
 Calls Tryd.prog 48 #[.string s] w fun e w'=>e=.returned (.bool (valid s))∧Below w.heap.size w w':=
 Tryd.utf8_ValidString s w (by unfold strMax at hs;omega) hg.tabs
theorem rc_any (s:Str)(w:World)(hs:s.size≤strMax):
 Calls Tryd.prog 31 #[.string s] w fun e w'=>e=.returned (.int .i64 (rc s))∧Below w.heap.size w w':=by
 refine(Tryd.utf8_RuneCountInString s w (by unfold strMax at hs;omega)).mono ?_;rintro e w' ⟨rfl,pos,rfl⟩;exact⟨rfl,by unfold World.iter;(repeat (first|exact Below.refl _ _|assumption|(refine Below.drew ?_)|(refine below_drewN ?_ _)|(refine Below.alloc ?_ (by first|(simp;done)|(simp;omega)|omega) _)|(refine Below.setCell ?_ (by first|(simp;done)|(simp;omega)|omega) _)|(refine Below.trans ?_ (Below.mono (by assumption) (by first|(simp;done)|(simp;omega)|omega)))))⟩
theorem rc_nonneg (s:Str):0≤rc s:=by unfold rc;omega
theorem rc_le (s:Str):rc s≤s.size:=by unfold rc;have:=Lib.runeCount_le s;omega
set_option maxHeartbeats 400000 in
theorem length_any (s:Str)(w:World)(hg:Good w)(hs:s.size≤strMax):
 Calls Tryd.prog 49 #[.string s] w fun e w'=>e=.returned (.tuple #[.int .i64 (rc s),.bool (valid s&&decide (rc s≤4000))])∧Below w.heap.size w w':=by
 have hv:=fun W hW=>valid_any s W hW hs;have hrn:=rc_nonneg s;have hrl:=rc_le s;have hr:=fun W=>rc_any s W hs;unfold strMax at hs;have Hv:=Lib.hid hv;have Hr:=Lib.hid hr;clear hv hr;generalize valid s=v at*;generalize rc s=r at*;cases v
 all_goals
  go_enter Tryd.func49,Tryd.ntmps49;go_wp2_with fail;refine(Hr.out _).mono ?_;rintro e w1 ⟨rfl,hb1⟩;go_wp2_with fail;refine(Hv.out _ (hg.below' hb1)).mono ?_;rintro e w2 ⟨rfl,hb2⟩;go_wp2_with fail
  go_ret2
  exact⟨by simp,hb1.trans (hb2.mono hb1.size)⟩
set_option maxHeartbeats 400000 in
theorem checkText_any (s:Str)(w:World)(hg:Good w)(hs:s.size≤strMax):
 Calls Tryd.prog 25 #[.string s] w fun e w'=>e=.returned (.int .i64 (checkText s))∧Below w.heap.size w w':=by
 have hv:=fun W hW=>valid_any s W hW hs;have hr:=fun W hW=>length_any s W hW hs;have Hv:=Lib.hid hv;have Hr:=Lib.hid hr;clear hv hr;unfold checkText;generalize valid s=v at*;generalize rc s=r at*;cases v
 ·go_enter Tryd.func25,Tryd.ntmps25;go_wp2_with fail;refine(Hv.out _ hg).mono ?_;rintro e w1 ⟨rfl,hb1⟩;go_wp2_with fail
  go_ret
  exact⟨by simp,hb1⟩
 ·by_cases h:4000<r
  ·have hd:decide (r≤4000)=false:=by simp;omega
   rw[hd]at Hr;go_enter Tryd.func25,Tryd.ntmps25;go_wp2_with fail;refine(Hv.out _ hg).mono ?_;rintro e w1 ⟨rfl,hb1⟩;go_wp2_with fail;refine(Hr.out _ (hg.below' hb1)).mono ?_;rintro e w2 ⟨rfl,hb2⟩;go_wp2_with fail
   go_ret
   exact⟨rfl,hb1.trans (hb2.mono hb1.size)⟩
  ·have hd:decide (r≤4000)=true:=by simp;omega
   rw[hd]at Hr;go_enter Tryd.func25,Tryd.ntmps25;go_wp2_with fail;refine(Hv.out _ hg).mono ?_;rintro e w1 ⟨rfl,hb1⟩;go_wp2_with fail;refine(Hr.out _ (hg.below' hb1)).mono ?_;rintro e w2 ⟨rfl,hb2⟩;go_wp2_with fail
   go_ret
   exact⟨rfl,hb1.trans (hb2.mono hb1.size)⟩
end Go.Proofs.YtkbfhgcjimfgkaaDoor
namespace Go.Proofs.YtkbfhgcjimfgkaaDoor
open Go.RowKit
def partOk (p:Part):Int:=
 if p.kind=1∨p.kind=3 then(if p.n<1∨4000<p.n then 2 else if emptyS p.text=false then 4 else 0)
 else if p.kind=2 then(if checkText p.text≠0 then checkText p.text else if emptyS p.text=true∨p.n≠0 then 4 else 0)
 else 3
set_option maxHeartbeats 400000 in
theorem part_any (p:Part)(w:World)(hg:Good w)(h1:I64 p.kind)(h2:I64 p.n)(h3:p.text.size≤strMax):
 Calls Tryd.prog 68 #[.agg #[.int .i64 p.kind,.int .i64 p.n,.string p.text]] w fun e w'=>e=.returned (.int .i64 (partOk p))∧Below w.heap.size w w':=by
 obtain⟨k,n,t⟩:=p;unfold I64 at h1 h2;simp only at h1 h2 h3⊢;go_enter Tryd.func68,Tryd.ntmps68;go_wp2_with (go_at_call 25;refine(checkText_any t _ (hg.below' ?hb) h3).mono ?_;(case hb=>(repeat (first|exact Below.refl _ _|assumption|(refine Below.drew ?_)|(refine below_drewN ?_ _)|(refine Below.alloc ?_ (by first|(simp;done)|(simp;omega)|omega) _)|(refine Below.setCell ?_ (by first|(simp;done)|(simp;omega)|omega) _)|(refine Below.trans ?_ (Below.mono (by assumption) (by first|(simp;done)|(simp;omega)|omega))))));rintro e w1 ⟨rfl,hb1⟩;obtain⟨hc1,hf1⟩:=bcell hb1)
 all_goals go_ret
 all_goals refine⟨ret_int ?_,?_⟩
 all_goals first
  |(repeat (first|exact Below.refl _ _|assumption|(refine Below.drew ?_)|(refine below_drewN ?_ _)|(refine Below.alloc ?_ (by first|(simp;done)|(simp;omega)|omega) _)|(refine Below.setCell ?_ (by first|(simp;done)|(simp;omega)|omega) _)|(refine Below.trans ?_ (Below.mono (by assumption) (by first|(simp;done)|(simp;omega)|omega)))));done
  |(simp_all[partOk,emptyS];done)
  |(simp_all[partOk,emptyS];omega)
def lenF (p:Part):Int:=if p.kind=1∨p.kind=3 then p.n else 0
def lenT (p:Part):Int:=if p.kind=1 then p.n else if p.kind=2 then rc p.text else 0
def sumF (l:Op):Int:=(l.map lenF).sum
def sumT (l:Op):Int:=(l.map lenT).sum
theorem take_next {α:Type}(l:List α)(k:Nat)(h:k<l.length):l.take (k+1)=l.take k++[l[k]]:=by
 rw[List.take_succ_eq_append_getElem h]
theorem sumF_next (l:Op)(k:Nat)(h:k<l.length):sumF (l.take (k+1))=sumF (l.take k)+lenF l[k]:=by
 unfold sumF;rw[take_next l k h,List.map_append,List.sum_append];simp
theorem sumT_next (l:Op)(k:Nat)(h:k<l.length):sumT (l.take (k+1))=sumT (l.take k)+lenT l[k]:=by
 unfold sumT;rw[take_next l k h,List.map_append,List.sum_append];simp
def Small (l:Op):Prop:=l.length≤2147483648∧∀p∈l,0≤lenF p∧lenF p≤2147483648∧0≤lenT p∧lenT p≤2147483648
theorem Small.bound {l:Op}(h:Small l):∀k,k≤l.length→0≤sumF (l.take k)∧sumF (l.take k)≤k*2147483648∧0≤sumT (l.take k)∧sumT (l.take k)≤k*2147483648:=by
 intro k
 induction k with
 |zero=>intro _;simp[sumF,sumT]
 |succ k ih=>
  intro hk;have h1:=ih (by omega);have h2:=h.2 l[k] (List.getElem_mem (by omega));rw[sumF_next l k (by omega),sumT_next l k (by omega)];refine⟨by omega,by push_cast;omega,by omega,by push_cast;omega⟩
set_option maxHeartbeats 1000000 in
theorem lengths_any (A:Nat→Prop)(l:Op)(a:Option Addr)(n c:Nat)(w:World)(hr:RdS A w l a n c)(hs:Small l):
 Calls Tryd.prog 45 #[.slice a n c] w fun e w'=>e=.returned (.tuple #[.int .i64 (sumF l),.int .i64 (sumT l)])∧Below w.heap.size w w':=by
 have hnl:n=l.length:=hr.1;have hn2:n≤2147483648:=by have:=hs.1;omega
 have Hp:Hid (0<n→∃b off,a=some ⟨b,off,none⟩∧A b∧b<w.heap.size∧∀i (h:i<l.length),I64 l[i].kind∧I64 l[i].n∧l[i].text.size≤strMax∧
  w.cell? ⟨b,off+i*3,none⟩=some (.int .i64 l[i].kind)∧w.cell? ⟨b,off+i*3+1,none⟩=some (.int .i64 l[i].n)∧w.cell? ⟨b,off+i*3+2,none⟩=some (.string l[i].text)):=fun h=>hr.part h
 clear hr;have Hl:=Lib.hid hnl;clear hnl;go_enter Tryd.func45,Tryd.ntmps45;go_wp2_with fail;go_loopw [2,3,8] (fun f t i wr=>∃k:Nat,k≤n∧i=.int .i64 k∧f=.int .i64 (sumF (l.take k))∧t=.int .i64 (sumT (l.take k))∧Below w.heap.size w wr) (fun _ _ i _=>n-(intOf i).toNat)
 case atStart=>exact⟨0,by omega,rfl,rfl,rfl,Below.refl _ _⟩
 case round=>
  obtain⟨k,hk,rfl,rfl,rfl,hb⟩:=hrel;by_cases hlt:k<n
  ·obtain⟨b,off,rfl,_,hbs,hcs⟩:=Hp.out (by omega);have hkl:k<l.length:=by have:=Hl.out;omega
   obtain⟨_,hn64,ht,c0,c1,c2⟩:=hcs k hkl;clear hcs;have hbd:=hs.bound k (by omega);have hbd':=hs.2 l[k] (List.getElem_mem hkl);have HF:=Lib.hid (sumF_next l k hkl);have HT:=Lib.hid (sumT_next l k hkl);have hz:=hb.size;unfold I64 at hn64;obtain⟨hcb,hfb⟩:=bcell hb;generalize l[k]=p at*;obtain⟨pk,pn,pt⟩:=p;simp only at*;rcases Int.decEq pk 1 with h1|rfl
   ·rcases Int.decEq pk 2 with h2|rfl
    ·rcases Int.decEq pk 3 with h3|rfl
     ·have g1:(pk==1)=false:=by simp[h1]
      have g2:(pk==2)=false:=by simp[h2]
      have g3:(pk==3)=false:=by simp[h3]
      have e1:lenF ⟨pk,pn,pt⟩=0:=by simp[lenF,h1,h3]
      have e2:lenT ⟨pk,pn,pt⟩=0:=by simp[lenT,h1,h2]
      rw[e1]at HF;rw[e2]at HT;clear e1 e2 h1 h2 h3 hbd';go_wp2_with fail;go_roundw
      case rel=>exact⟨k+1,by omega,by go_num,by rw[HF.out];go_num,by rw[HT.out];go_num,by(repeat (first|exact Below.refl _ _|assumption|(refine Below.drew ?_)|(refine below_drewN ?_ _)|(refine Below.alloc ?_ (by first|(simp;done)|(simp;omega)|omega) _)|(refine Below.setCell ?_ (by first|(simp;done)|(simp;omega)|omega) _)|(refine Below.trans ?_ (Below.mono (by assumption) (by first|(simp;done)|(simp;omega)|omega)))))⟩
      case measure=>simp[intOf];omega
     ·have e1:lenF ⟨3,pn,pt⟩=pn:=by simp[lenF]
      have e2:lenT ⟨3,pn,pt⟩=0:=by simp[lenT]
      rw[e1]at HF hbd';rw[e2]at HT hbd';clear e1 e2 h1 h2;go_wp2_with fail;go_roundw
      case rel=>exact⟨k+1,by omega,by go_num,by rw[HF.out],by rw[HT.out];go_num,by(repeat (first|exact Below.refl _ _|assumption|(refine Below.drew ?_)|(refine below_drewN ?_ _)|(refine Below.alloc ?_ (by first|(simp;done)|(simp;omega)|omega) _)|(refine Below.setCell ?_ (by first|(simp;done)|(simp;omega)|omega) _)|(refine Below.trans ?_ (Below.mono (by assumption) (by first|(simp;done)|(simp;omega)|omega)))))⟩
      case measure=>simp[intOf];omega
    ·have e1:lenF ⟨2,pn,pt⟩=0:=by simp[lenF]
     have e2:lenT ⟨2,pn,pt⟩=rc pt:=by simp[lenT]
     rw[e1]at HF hbd';rw[e2]at HT hbd';clear e1 e2 h1;go_wp2_with (go_at_call 31;refine(rc_any pt _ ht).mono ?_;rintro e w1 ⟨rfl,hb1⟩;obtain⟨hc1,hf1⟩:=bcell hb1);go_roundw
     case rel=>exact⟨k+1,by omega,by go_num,by rw[HF.out];go_num,by rw[HT.out],by(repeat (first|exact Below.refl _ _|assumption|(refine Below.drew ?_)|(refine below_drewN ?_ _)|(refine Below.alloc ?_ (by first|(simp;done)|(simp;omega)|omega) _)|(refine Below.setCell ?_ (by first|(simp;done)|(simp;omega)|omega) _)|(refine Below.trans ?_ (Below.mono (by assumption) (by first|(simp;done)|(simp;omega)|omega)))))⟩
     case measure=>simp[intOf];omega
   ·have e1:lenF ⟨1,pn,pt⟩=pn:=by simp[lenF]
    have e2:lenT ⟨1,pn,pt⟩=pn:=by simp[lenT]
    rw[e1]at HF hbd';rw[e2]at HT hbd';clear e1 e2;go_wp2_with fail;go_quiet (fail);go_wp2_with fail;go_roundw
    case rel=>exact⟨k+1,by omega,by go_num,by rw[HF.out],by rw[HT.out],by(repeat (first|exact Below.refl _ _|assumption|(refine Below.drew ?_)|(refine below_drewN ?_ _)|(refine Below.alloc ?_ (by first|(simp;done)|(simp;omega)|omega) _)|(refine Below.setCell ?_ (by first|(simp;done)|(simp;omega)|omega) _)|(refine Below.trans ?_ (Below.mono (by assumption) (by first|(simp;done)|(simp;omega)|omega)))))⟩
    case measure=>simp[intOf];omega
  ·have hkn:k=l.length:=by have:=Hl.out;omega
   subst hkn;clear Hp hs;go_wp2_with fail
   go_ret2
   exact⟨by simp,hb⟩
end Go.Proofs.YtkbfhgcjimfgkaaDoor
namespace Go.Proofs.YtkbfhgcjimfgkaaDoor
open Go.RowKit
def clash (q r:Int):Bool:=decide (q=r∨q=3∧r=2)
def checkFrom:Option Int→Op→Int
 |_,[]=>0
 |q,p::r=>if partOk p≠0 then partOk p else if(match q with|some q=>clash q p.kind|none=>false)=true then 4 else checkFrom (some p.kind) r
def check (l:Op):Int:=if 8001<l.length then 1 else if checkFrom none l≠0 then checkFrom none l else if 4000<sumF l∨4000<sumT l then 1 else 0
theorem partOk_small {p:Part}(h:partOk p=0):0≤lenF p∧lenF p≤4000∧0≤lenT p∧lenT p≤4000:=by
 obtain⟨k,n,t⟩:=p;have hr0:0≤rc t:=by unfold rc;omega
 unfold partOk at h;unfold lenF lenT;simp only at h⊢;by_cases h1:k=1∨k=3
 ·rw[if_pos h1]at h;by_cases h2:n<1∨4000<n
  ·rw[if_pos h2]at h;omega
  ·rcases h1 with h1|h1<;>simp[h1]<;>omega
 ·rw[if_neg h1]at h;by_cases h2:k=2
  ·rw[if_pos h2]at h;subst h2;have h3:checkText t=0:=by
    by_cases h4:checkText t=0
    ·exact h4
    ·rw[if_pos h4]at h;exact h
   unfold checkText at h3;have h5:rc t≤4000:=by
    by_cases h5:valid t=false
    ·rw[if_pos h5]at h3;omega
    ·rw[if_neg h5]at h3;by_cases h6:4000<rc t
     ·rw[if_pos h6]at h3;omega
     ·omega
   simp;omega
  ·rw[if_neg h2]at h;omega
theorem checkFrom_drop (q:Option Int)(p:Part)(l:Op)(h1:partOk p=0)(h2:(match q with|some q=>clash q p.kind|none=>false)=false):checkFrom q (p::l)=checkFrom (some p.kind) l:=by
 cases q<;>simp only[checkFrom,h1,h2]<;>simp_all
theorem checkFrom_clash (q:Option Int)(p:Part)(l:Op)(h1:partOk p=0)(h2:(match q with|some q=>clash q p.kind|none=>false)=true):checkFrom q (p::l)=4:=by
 cases q<;>simp only[checkFrom,h1,h2]<;>simp_all
def ahead (l:Op):Nat→Option Int
 |0=>none
 |k+1=>(l[k]?).map (·.kind)
set_option maxHeartbeats 1000000 in
theorem check_any (A:Nat→Prop)(l:Op)(a:Option Addr)(n c:Nat)(w:World)(hg:Good w)(hA:∀b,A b→b<w.heap.size)(hr:RdS A w l a n c):
 Calls Tryd.prog 44 #[.slice a n c] w fun e w'=>e=.returned (.int .i64 (check l))∧Below w.heap.size w w':=by
 have hnl:n=l.length:=hr.1;have hnm:n≤maxLen:=by have h1:=hr.2.1;have h2:=hr.2.2.1;omega
 unfold maxLen at hnm;have Hl:=Lib.hid hnl;by_cases h8:8001<n
 ·have hfin:check l=1:=by unfold check;rw[if_pos (by omega)]
  rw[hfin];clear hfin hnl hr;go_enter Tryd.func44,Tryd.ntmps44;go_wp2_with fail
  go_ret
  exact⟨rfl,Below.refl _ _⟩
 ·have Hr:=Lib.hid hr;have HF:Hid (check l=if checkFrom none l≠0 then checkFrom none l else if 4000<sumF l∨4000<sumT l then 1 else 0):=by unfold Hid check;rw[if_neg (by omega)]
  clear hr hnl;have h8':n≤8001:=by omega
  clear h8;go_enter Tryd.func44,Tryd.ntmps44;go_wp2_with fail;go_loopw [13] (fun i wr=>∃k:Nat,k≤n∧i=.int .i64 k∧checkFrom none l=checkFrom (ahead l k) (l.drop k)∧(∀p∈l.take k,partOk p=0)∧Below w.heap.size w wr) (fun i _=>n-(intOf i).toNat)
  case atStart=>exact⟨0,by omega,rfl,rfl,by simp,Below.refl _ _⟩
  case round=>
   obtain⟨k,hk,rfl,hcf,hall,hb⟩:=hrel;have Hcf:=Lib.hid hcf;have Hall:=Lib.hid hall;clear hcf hall;by_cases hlt:k<n
   ·have hrw:=Hr.out.below hA hb;obtain⟨b,off,rfl,hAb,hbs,hcs⟩:=hrw.part (by omega);have hkl:k<l.length:=by have:=Hl.out;omega
    obtain⟨hk64,hn64,ht,c0,c1,c2⟩:=hcs k hkl;have Hd:=Lib.hid (List.drop_eq_getElem_cons hkl);have hgw:Good wr:=hg.below' hb;have hbz:=hb.size;have Hah:Hid (ahead l (k+1)=some l[k].kind):=by unfold Hid;simp only[ahead];rw[List.getElem?_eq_getElem hkl];rfl
    have Htk:=Lib.hid (take_next l k hkl);by_cases hpo:partOk l[k]=0
    ·have Hall2:Hid (∀p∈l.take (k+1),partOk p=0):=by
      unfold Hid;rw[Htk.out];intro p hp;rcases List.mem_append.1 hp with h|h
      ·exact Hall.out p h
      ·simp at h;rw[h];exact hpo
     have Hst:Hid ((match ahead l k with|some q=>clash q l[k].kind|none=>false)=false→checkFrom none l=checkFrom (ahead l (k+1)) (l.drop (k+1))):=by
      unfold Hid;intro h;rw[Hcf.out,Hd.out,Hah.out,checkFrom_drop _ _ _ hpo h]
     have Hbad:Hid ((match ahead l k with|some q=>clash q l[k].kind|none=>false)=true→check l=4):=by
      unfold Hid;intro h;have h1:checkFrom none l=4:=by rw[Hcf.out,Hd.out,checkFrom_clash _ _ _ hpo h]
      rw[HF.out,h1];rfl
     have hpart:=fun W (hW:Good W)=>part_any l[k] W hW hk64 hn64 ht;rw[hpo]at hpart;have Hpart:=Lib.hid hpart;clear hpart HF Hcf Hd Hah Htk Hall;cases k with
     |zero=>
      have Hst2:=Lib.hid (Hst.out rfl);clear Hst Hbad hcs hrw;simp only[Nat.zero_mul,Nat.add_zero]at c0 c1 c2;generalize l[0]=p at*;obtain⟨pk,pn,pt⟩:=p;simp only at*;go_wp2_with (go_at_call 68;refine(Hpart.out _ (hgw.below' ?hb)).mono ?_;(case hb=>(repeat (first|exact Below.refl _ _|assumption|(refine Below.drew ?_)|(refine below_drewN ?_ _)|(refine Below.alloc ?_ (by first|(simp;done)|(simp;omega)|omega) _)|(refine Below.setCell ?_ (by first|(simp;done)|(simp;omega)|omega) _)|(refine Below.trans ?_ (Below.mono (by assumption) (by first|(simp;done)|(simp;omega)|omega))))));rintro e w1 ⟨rfl,hb1⟩;obtain⟨hc1,hf1⟩:=bcell hb1);go_quiet (fail);go_wp2_with fail;go_roundw
      case rel=>exact⟨1,by omega,by go_num,Hst2.out,Hall2.out,by(repeat (first|exact Below.refl _ _|assumption|(refine Below.drew ?_)|(refine below_drewN ?_ _)|(refine Below.alloc ?_ (by first|(simp;done)|(simp;omega)|omega) _)|(refine Below.setCell ?_ (by first|(simp;done)|(simp;omega)|omega) _)|(refine Below.trans ?_ (Below.mono (by assumption) (by first|(simp;done)|(simp;omega)|omega)))))⟩
      case measure=>simp[intOf];omega
     |succ j=>
      obtain⟨_,_,_,d0,_,_⟩:=hcs j (by omega);have hah:ahead l (j+1)=some l[j].kind:=by simp only[ahead];rw[List.getElem?_eq_getElem (by omega)];rfl
      rw[hah]at Hst Hbad;clear hah hcs hrw;generalize l[j+1]=p at*;generalize l[j]=q at*;obtain⟨pk,pn,pt⟩:=p;obtain⟨qk,qn,qt⟩:=q;simp only at*;have hp0:0<j+1:=by omega
      cases hqp:(qk==pk)with
      |true=>
       have Hbad2:=Lib.hid (Hbad.out (by simp only[clash];simp at hqp;simp[hqp]));clear Hst Hbad;go_wp2_with (go_at_call 68;refine(Hpart.out _ (hgw.below' ?hb)).mono ?_;(case hb=>(repeat (first|exact Below.refl _ _|assumption|(refine Below.drew ?_)|(refine below_drewN ?_ _)|(refine Below.alloc ?_ (by first|(simp;done)|(simp;omega)|omega) _)|(refine Below.setCell ?_ (by first|(simp;done)|(simp;omega)|omega) _)|(refine Below.trans ?_ (Below.mono (by assumption) (by first|(simp;done)|(simp;omega)|omega))))));rintro e w1 ⟨rfl,hb1⟩;obtain⟨hc1,hf1⟩:=bcell hb1);go_quiet (fail);go_wp2_with fail
       go_ret
       exact⟨ret_int Hbad2.out.symm,by(repeat (first|exact Below.refl _ _|assumption|(refine Below.drew ?_)|(refine below_drewN ?_ _)|(refine Below.alloc ?_ (by first|(simp;done)|(simp;omega)|omega) _)|(refine Below.setCell ?_ (by first|(simp;done)|(simp;omega)|omega) _)|(refine Below.trans ?_ (Below.mono (by assumption) (by first|(simp;done)|(simp;omega)|omega)))))⟩
      |false=>
       cases hq3:(qk==3)with
       |true=>
        cases hp2:(pk==2)with
        |true=>
         have Hbad2:=Lib.hid (Hbad.out (by simp only[clash];simp at hq3 hp2;simp[hq3,hp2]));clear Hst Hbad;go_wp2_with (go_at_call 68;refine(Hpart.out _ (hgw.below' ?hb)).mono ?_;(case hb=>(repeat (first|exact Below.refl _ _|assumption|(refine Below.drew ?_)|(refine below_drewN ?_ _)|(refine Below.alloc ?_ (by first|(simp;done)|(simp;omega)|omega) _)|(refine Below.setCell ?_ (by first|(simp;done)|(simp;omega)|omega) _)|(refine Below.trans ?_ (Below.mono (by assumption) (by first|(simp;done)|(simp;omega)|omega))))));rintro e w1 ⟨rfl,hb1⟩;obtain⟨hc1,hf1⟩:=bcell hb1);go_quiet (fail);go_wp2_with fail
         go_ret
         exact⟨ret_int Hbad2.out.symm,by(repeat (first|exact Below.refl _ _|assumption|(refine Below.drew ?_)|(refine below_drewN ?_ _)|(refine Below.alloc ?_ (by first|(simp;done)|(simp;omega)|omega) _)|(refine Below.setCell ?_ (by first|(simp;done)|(simp;omega)|omega) _)|(refine Below.trans ?_ (Below.mono (by assumption) (by first|(simp;done)|(simp;omega)|omega)))))⟩
        |false=>
         have Hst2:=Lib.hid (Hst.out (by simp only[clash];simp at hqp hp2;simp[hqp,hp2]));clear Hst Hbad;go_wp2_with (go_at_call 68;refine(Hpart.out _ (hgw.below' ?hb)).mono ?_;(case hb=>(repeat (first|exact Below.refl _ _|assumption|(refine Below.drew ?_)|(refine below_drewN ?_ _)|(refine Below.alloc ?_ (by first|(simp;done)|(simp;omega)|omega) _)|(refine Below.setCell ?_ (by first|(simp;done)|(simp;omega)|omega) _)|(refine Below.trans ?_ (Below.mono (by assumption) (by first|(simp;done)|(simp;omega)|omega))))));rintro e w1 ⟨rfl,hb1⟩;obtain⟨hc1,hf1⟩:=bcell hb1);go_quiet (fail);go_wp2_with fail;go_roundw
         case rel=>exact⟨j+1+1,by omega,by go_num,Hst2.out,Hall2.out,by(repeat (first|exact Below.refl _ _|assumption|(refine Below.drew ?_)|(refine below_drewN ?_ _)|(refine Below.alloc ?_ (by first|(simp;done)|(simp;omega)|omega) _)|(refine Below.setCell ?_ (by first|(simp;done)|(simp;omega)|omega) _)|(refine Below.trans ?_ (Below.mono (by assumption) (by first|(simp;done)|(simp;omega)|omega)))))⟩
         case measure=>simp[intOf];omega
       |false=>
        have Hst2:=Lib.hid (Hst.out (by simp only[clash];simp at hqp hq3;simp[hqp,hq3]));clear Hst Hbad;go_wp2_with (go_at_call 68;refine(Hpart.out _ (hgw.below' ?hb)).mono ?_;(case hb=>(repeat (first|exact Below.refl _ _|assumption|(refine Below.drew ?_)|(refine below_drewN ?_ _)|(refine Below.alloc ?_ (by first|(simp;done)|(simp;omega)|omega) _)|(refine Below.setCell ?_ (by first|(simp;done)|(simp;omega)|omega) _)|(refine Below.trans ?_ (Below.mono (by assumption) (by first|(simp;done)|(simp;omega)|omega))))));rintro e w1 ⟨rfl,hb1⟩;obtain⟨hc1,hf1⟩:=bcell hb1);go_quiet (fail);go_wp2_with fail;go_roundw
        case rel=>exact⟨j+1+1,by omega,by go_num,Hst2.out,Hall2.out,by(repeat (first|exact Below.refl _ _|assumption|(refine Below.drew ?_)|(refine below_drewN ?_ _)|(refine Below.alloc ?_ (by first|(simp;done)|(simp;omega)|omega) _)|(refine Below.setCell ?_ (by first|(simp;done)|(simp;omega)|omega) _)|(refine Below.trans ?_ (Below.mono (by assumption) (by first|(simp;done)|(simp;omega)|omega)))))⟩
        case measure=>simp[intOf];omega
    ·have hfin:checkFrom none l=partOk l[k]:=by rw[Hcf.out,Hd.out];cases ahead l k<;>rw[checkFrom,if_pos hpo]
     rw[hfin,if_pos hpo]at HF;clear hfin Hd Hcf Hah Htk hcs hrw;generalize l[k]=p at*;obtain⟨pk,pn,pt⟩:=p;simp only at*;have hpb:(partOk ⟨pk,pn,pt⟩ !=0)=true:=by simpa using hpo
     clear hpo;have hpart:=fun W (hW:Good W)=>part_any ⟨pk,pn,pt⟩ W hW hk64 hn64 ht;simp only at hpart;generalize partOk ⟨pk,pn,pt⟩=r at*;have Hpart:=Lib.hid hpart;clear hpart;go_wp2_with (go_at_call 68;refine(Hpart.out _ (hgw.below' ?hb)).mono ?_;(case hb=>(repeat (first|exact Below.refl _ _|assumption|(refine Below.drew ?_)|(refine below_drewN ?_ _)|(refine Below.alloc ?_ (by first|(simp;done)|(simp;omega)|omega) _)|(refine Below.setCell ?_ (by first|(simp;done)|(simp;omega)|omega) _)|(refine Below.trans ?_ (Below.mono (by assumption) (by first|(simp;done)|(simp;omega)|omega))))));rintro e w1 ⟨rfl,hb1⟩;obtain⟨hc1,hf1⟩:=bcell hb1)
     go_ret
     exact⟨ret_int HF.out.symm,by(repeat (first|exact Below.refl _ _|assumption|(refine Below.drew ?_)|(refine below_drewN ?_ _)|(refine Below.alloc ?_ (by first|(simp;done)|(simp;omega)|omega) _)|(refine Below.setCell ?_ (by first|(simp;done)|(simp;omega)|omega) _)|(refine Below.trans ?_ (Below.mono (by assumption) (by first|(simp;done)|(simp;omega)|omega)))))⟩
   ·have hkn:k=l.length:=by have:=Hl.out;omega
    have hall2:∀p∈l,partOk p=0:=by have h:=Hall.out;rw[hkn,List.take_length]at h;exact h
    have h0:checkFrom none l=0:=by rw[Hcf.out,hkn,List.drop_length];cases ahead l l.length<;>rfl
    have hsm:Small l:=⟨by omega,fun p hp=>by have:=partOk_small (hall2 p hp);omega⟩;have HF2:Hid (check l=if 4000<sumF l∨4000<sumT l then 1 else 0):=by unfold Hid;rw[HF.out,h0];rfl
    have Hlen:=Lib.hid (fun W h=>lengths_any A l a n c W h hsm);have hbd:=hsm.bound l.length (by omega);rw[List.take_length]at hbd;clear h0 hsm hall2 HF Hcf Hall;have Hrw:=Lib.hid (Hr.out.below hA hb);generalize sumF l=x at*;generalize sumT l=y at*;clear hkn;by_cases hx:4000<x
    ·go_wp2_with (go_at_call 45;refine(Hlen.out _ Hrw.out).mono ?_;rintro e w1 ⟨rfl,hb1⟩)
     go_ret
     exact⟨ret_int (by rw[HF2.out,if_pos (.inl hx)]),hb.trans (hb1.mono hb.size)⟩
    ·by_cases hy:4000<y
     ·go_wp2_with (go_at_call 45;refine(Hlen.out _ Hrw.out).mono ?_;rintro e w1 ⟨rfl,hb1⟩)
      go_ret
      exact⟨ret_int (by rw[HF2.out,if_pos (.inr hy)]),hb.trans (hb1.mono hb.size)⟩
     ·go_wp2_with (go_at_call 45;refine(Hlen.out _ Hrw.out).mono ?_;rintro e w1 ⟨rfl,hb1⟩)
      go_ret
      exact⟨ret_int (by rw[HF2.out,if_neg (by omega)]),hb.trans (hb1.mono hb.size)⟩
end Go.Proofs.YtkbfhgcjimfgkaaDoor
namespace Go.Proofs.YtkbfhgcjimfgkaaDoor
open Go.RowKit
def partCells (p:Part):List Value:=[.int .i64 p.kind,.int .i64 p.n,.string p.text]
def flat (l:Op):List Value:=l.flatMap partCells
theorem flat_len (l:Op):(flat l).length=l.length*3:=by
 induction l with
 |nil=>rfl
 |cons p l ih=>simp only[flat,List.flatMap_cons,List.length_append,List.length_cons]at ih⊢;rw[ih];simp[partCells];omega
theorem flat_append (a b:Op):flat (a++b)=flat a++flat b:=by simp[flat]
theorem flat_one (p:Part):flat [p]=partCells p:=by simp[flat]
theorem flat_at (l:Op)(i:Nat)(p:Part)(h:l[i]?=some p):(flat l)[i*3]?=some (.int .i64 p.kind)∧(flat l)[i*3+1]?=some (.int .i64 p.n)∧(flat l)[i*3+2]?=some (.string p.text):=by
 induction l generalizing i with
 |nil=>simp at h
 |cons q l ih=>
  cases i with
  |zero=>simp at h;subst h;simp[flat,partCells]
  |succ i=>
   simp at h;obtain⟨h1,h2,h3⟩:=ih i h;have e:flat (q::l)=partCells q++flat l:=by simp[flat]
   rw[e];have e2:(partCells q).length=3:=rfl;refine⟨?_,?_,?_⟩
   ·rw[List.getElem?_append_right (by rw[e2];omega),e2,show(i+1)*3-3=i*3 from by omega];exact h1
   ·rw[List.getElem?_append_right (by rw[e2];omega),e2,show(i+1)*3+1-3=i*3+1 from by omega];exact h2
   ·rw[List.getElem?_append_right (by rw[e2];omega),e2,show(i+1)*3+2-3=i*3+2 from by omega];exact h3
theorem flat_snoc (p:Part)(r:List Part):flat (p::r).reverse=flat r.reverse++partCells p:=by rw[List.reverse_cons,flat_append,flat_one]
theorem flat_set (p q:Part)(r:List Part)(hk:p.kind=q.kind):((flat (q::r).reverse).set (r.length*3+1) (.int .i64 p.n)).set (r.length*3+2) (.string p.text)=flat (p::r).reverse:=by
 rw[flat_snoc,flat_snoc,List.set_append_right _ _ (by rw[flat_len];simp),List.set_append_right _ _ (by rw[flat_len];simp),flat_len];simp[partCells,hk]
theorem flat_one' (l:Op):∀v∈flat l,v.oneCell'=true:=by
 intro v hv;simp only[flat,List.mem_flatMap]at hv;obtain⟨p,_,hp⟩:=hv;simp only[partCells,List.mem_cons,List.not_mem_nil,or_false]at hp;rcases hp with rfl|rfl|rfl<;>rfl
theorem ownsRow_drewN {w:World}{B e size n:Nat}{v:Value}{xs:List Value}(h:w.ownsRow B e size v n xs)(k:Nat):(w.drewN k).ownsRow B e size v n xs:=h
theorem ownsRow_drew {w:World}{B e size n:Nat}{v:Value}{xs:List Value}(h:w.ownsRow B e size v n xs):w.drew.ownsRow B e size v n xs:=h
theorem heap_new_at (w:World)(o:Obj)(H:Nat)(h:w.heap.size=H):(w.alloc o).heap[H]?=some o:=by subst h;exact heap_alloc_new w o
theorem news_at {w:World}{H t:Nat}{l:List Value}(h:w.heap[H]?=some (.cells l.toArray t (0,0))):∀j u,l[j]?=some u→w.cell? ((⟨H,0,none⟩:Addr).add j)=some u:=by
 intro j u hu;have e:(⟨H,0,none⟩:Addr).add j=⟨H,j,none⟩:=by
  unfold Addr.add;split
  ·rename_i h0;rw[h0]
  ·simp
 rw[e,cell_of_row w H j _ t (0,0) h];simpa using hu
structure Touch (S:Nat→Prop) (w w':World):Prop where
 os:w'.os=w.os
 tape:w'.tape=w.tape
 output:w'.output=w.output
 size:w.heap.size≤w'.heap.size
 block:∀k,k<w.heap.size→¬S k→w'.heap[k]?=w.heap[k]?
theorem Touch.refl (S:Nat→Prop)(w:World):Touch S w w:=⟨rfl,rfl,rfl,Nat.le_refl _,fun _ _ _=>rfl⟩
theorem Touch.trans {S:Nat→Prop}{a b c:World}(h:Touch S a b)(k:Touch S b c):Touch S a c:=
 ⟨k.os.trans h.os,k.tape.trans h.tape,k.output.trans h.output,Nat.le_trans h.size k.size,fun i hi hs=>(k.block i (Nat.lt_of_lt_of_le hi h.size) hs).trans (h.block i hi hs)⟩
theorem Touch.mono {S S':Nat→Prop}{a b:World}(h:Touch S a b)(hs:∀k,k<a.heap.size→S k→S' k):Touch S' a b:=
 ⟨h.os,h.tape,h.output,h.size,fun i hi hn=>h.block i hi (fun hh=>hn (hs i hi hh))⟩
theorem Touch.then_ {S S':Nat→Prop}{a b c:World}(h:Touch S a b)(k:Touch S' b c)(hs:∀i,i<a.heap.size→S' i→S i):Touch S a c:=
 ⟨k.os.trans h.os,k.tape.trans h.tape,k.output.trans h.output,Nat.le_trans h.size k.size,fun i hi hn=>(k.block i (Nat.lt_of_lt_of_le hi h.size) (fun hh=>hn (hs i hi hh))).trans (h.block i hi hn)⟩
theorem Touch.drew {S:Nat→Prop}{a w:World}(h:Touch S a w):Touch S a w.drew:=⟨h.os,h.tape,h.output,h.size,h.block⟩
theorem Touch.drewN {S:Nat→Prop}{a w:World}(h:Touch S a w)(n:Nat):Touch S a (w.drewN n):=⟨h.os,h.tape,h.output,h.size,h.block⟩
theorem Touch.alloc {S:Nat→Prop}{a w:World}(h:Touch S a w)(o:Obj):Touch S a (w.alloc o):=
 ⟨h.os,h.tape,h.output,Nat.le_trans h.size (by simp),fun i hi hs=>(Below.heap_alloc w o i (Nat.lt_of_lt_of_le hi h.size)).trans (h.block i hi hs)⟩
theorem Touch.setCell {S:Nat→Prop}{a w:World}(h:Touch S a w){p:Addr}(hp:S p.block∨a.heap.size≤p.block)(u:Value):Touch S a (w.setCell p u):=
 ⟨h.os,h.tape,h.output,by simpa[World.setCell]using h.size,fun i hi hs=>(Below.heap_setCell w p u i (by
  rintro rfl;rcases hp with hp|hp
  ·exact hs hp
  ·omega)).trans (h.block i hi hs)⟩
theorem Touch.grown {S:Nat→Prop}{a w w':World}{row:Option Nat}(h:Touch S a w)(hg:w.grownBy w' row)(hr:∀k,row=some k→S k∨a.heap.size≤k):Touch S a w':=
 ⟨hg.os.trans h.os,hg.tape.trans h.tape,hg.output.trans h.output,Nat.le_trans h.size hg.size,fun i hi hs=>(hg.block i (Nat.lt_of_lt_of_le hi h.size) (fun e=>by
  rcases hr i e.symm with hh|hh
  ·exact hs hh
  ·omega)).trans (h.block i hi hs)⟩
theorem Touch.below {S:Nat→Prop}{a w w':World}{B:Nat}(h:Touch S a w)(hb:Below B w w')(hB:a.heap.size≤B):Touch S a w':=
 ⟨hb.os.trans h.os,hb.tape.trans h.tape,hb.output.trans h.output,Nat.le_trans h.size hb.size,fun i hi hs=>(hb.block i (by omega)).trans (h.block i hi hs)⟩
theorem Touch.toBelow {S:Nat→Prop}{w w':World}{B:Nat}(h:Touch S w w')(hB:B≤w.heap.size)(hs:∀k,S k→B≤k):Below B w w':=
 ⟨h.os,h.tape,h.output,h.size,fun k hk=>h.block k (by omega) (fun hh=>by have:=hs k hh;omega)⟩
theorem Touch.of_below {S:Nat→Prop}{w w':World}(h:Below w.heap.size w w'):Touch S w w':=⟨h.os,h.tape,h.output,h.size,fun k hk _=>h.block k hk⟩
theorem Touch.cell {S:Nat→Prop}{w w':World}(h:Touch S w w'){b o:Nat}(hb:b<w.heap.size)(hs:¬S b):w'.cell? ⟨b,o,none⟩=w.cell? ⟨b,o,none⟩:=cell_keep (h.block b hb hs)
structure Bag (T:TypeId) (B b:Nat) (v:Value) (ex:List Value) (l:Op) (w:World):Prop where
 base:B≤b
 blk:w.heap[b]?=some (.cells (v::ex).toArray T (0,0))
 own:w.ownsRow B 53 3 v l.length (flat l)
 ne:v.ownBlock≠some b
def Bag.S (b:Nat)(v:Value):Nat→Prop:=fun k=>k=b∨v.ownBlock=some k
section
variable {T:TypeId} {B b:Nat} {v:Value} {ex:List Value} {l:Op} {w w':World}
theorem Bag.lt (h:Bag T B b v ex l w):b<w.heap.size:=(Array.getElem?_eq_some_iff.1 h.blk).1
theorem Bag.cell (h:Bag T B b v ex l w)(i:Nat):w.cell? ⟨b,i,none⟩=(v::ex)[i]?:=by
 rw[cell_of_row w b i _ T (0,0) h.blk];simp
theorem Bag.frozen (h:Bag T B b v ex l w)(i:Nat):w.frozen? ⟨b,i,none⟩=false:=frozen_of_row w b i _ T h.blk
theorem Bag.form (h:Bag T B b v ex l w):∃a c,v=.slice a l.length c:=by
 rcases h.own.2 with⟨hv,h0⟩|⟨g,cap,cur,hv,_⟩
 ·exact⟨none,0,by rw[hv,h0]⟩
 ·exact⟨_,_,hv⟩
theorem Bag.rowlt (h:Bag T B b v ex l w):∀k,v.ownBlock=some k→B≤k∧k<w.heap.size:=h.own.lt
theorem Bag.keep (h:Bag T B b v ex l w)(hk:∀k,(k=b∨v.ownBlock=some k)→w'.heap[k]?=w.heap[k]?):Bag T B b v ex l w':=by
 refine⟨h.base,(hk b (.inl rfl)).trans h.blk,?_,h.ne⟩;refine⟨h.own.1,?_⟩;rcases h.own.2 with hn|⟨g,cap,cur,hv,hb,hg,rest⟩
 ·exact .inl hn
 ·exact .inr ⟨g,cap,cur,hv,hb,(hk g (.inr (by rw[hv];rfl))).trans hg,rest⟩
theorem Bag.below (h:Bag T B b v ex l w)(hb:Below w.heap.size w w'):Bag T B b v ex l w':=h.keep fun k hk=>hb.block k (by
 rcases hk with rfl|hk
 ·exact h.lt
 ·exact(h.rowlt k hk).2)
theorem Bag.touch {S:Nat→Prop}(h:Bag T B b v ex l w)(ht:Touch S w w')(hs:∀k,(k=b∨v.ownBlock=some k)→¬S k):Bag T B b v ex l w':=h.keep fun k hk=>ht.block k (by
 rcases hk with rfl|hk
 ·exact h.lt
 ·exact(h.rowlt k hk).2) (hs k hk)
theorem Bag.alloc (h:Bag T B b v ex l w)(o:Obj):Bag T B b v ex l (w.alloc o):=h.below ((Below.refl _ _).alloc (Nat.le_refl _) _)
theorem Bag.put {v':Value}{l':Op}(hB:B≤b)(hb:w.heap[b]?=some (.cells (v::ex).toArray T (0,0)))(hown:w.ownsRow B 53 3 v' l'.length (flat l'))(hT:T≠53):
 Bag T B b v' ex l' (w.setCell ⟨b,0,none⟩ v'):=by
 have hne:v'.ownBlock≠some b:=by
  rcases hown.2 with⟨hv,_⟩|⟨g,cap,cur,hv,_,hg,_⟩
  ·rw[hv];simp[Value.ownBlock]
  ·rw[hv];simp only[Value.ownBlock];intro e;have e2:g=b:=by injection e
   rw[e2,hb]at hg;injection hg with hg;injection hg with _ ht;exact hT ht
 refine⟨hB,?_,?_,hne⟩
 ·simp[World.setCell,Array.getElem?_modify,hb]
 ·exact hown.kept (row:=some b) ⟨rfl,rfl,rfl,by simp[World.setCell],fun k _ hk=>Below.heap_setCell _ _ _ _ (fun e=>hk (by simp[e]))⟩ (.inr hne)
theorem ownsRow_cut {w:World}{B e size:Nat}{a:Option Addr}{n c:Nat}{xs:List Value}(h:w.ownsRow B e size (.slice a n c) n xs)(m:Nat)(hm:m<n):w.ownsRow B e size (.slice a m c) m (xs.take (m*size)):=by
 rcases h.2 with⟨_,h0⟩|⟨g,cap,cur,hv,hg,hh,hnc,hcm,hcs,ht⟩
 ·omega
 ·have hle:m*size≤n*size:=Nat.mul_le_mul_right _ (by omega);injection hv with hv1 hv2 hv3;subst hv1 hv3;refine⟨by rw[List.length_take,h.1];omega,.inr ⟨g,c,cur,rfl,hg,hh,by omega,hcm,hcs,?_⟩⟩;rw[←ht,List.take_take,Nat.min_eq_left hle]
theorem Bag.last {q:Part}{r:List Part}{a:Option Addr}{n c:Nat}(h:Bag T B b v ex (q::r).reverse w)(hv:v=.slice a n c):
 ∃g,a=some ⟨g,0,none⟩∧v.ownBlock=some g∧w.cell? ⟨g,r.length*3,none⟩=some (.int .i64 q.kind)∧w.cell? ⟨g,r.length*3+1,none⟩=some (.int .i64 q.n)∧w.cell? ⟨g,r.length*3+2,none⟩=some (.string q.text):=by
 have hown:=h.own;have hq:=flat_at (q::r).reverse r.length q (by simp);simp only[List.length_reverse,List.length_cons]at hown;rcases hown.2 with⟨_,h0⟩|⟨g,cap,cur,hv2,_⟩
 ·omega
 ·rw[hv2]at hown hv;injection hv with h1 h2 h3;refine⟨g,h1.symm,by rw[hv2];rfl,?_,?_,?_⟩
  ·rw[hown.cellAt _ (by omega)];exact hq.1
  ·rw[hown.cellAt _ (by omega)];exact hq.2.1
  ·rw[hown.cellAt _ (by omega)];exact hq.2.2
theorem Bag.rd (h:Bag T B b v ex l w)(hp:∀p∈l,I64 p.kind∧I64 p.n∧p.text.size≤strMax){A:Nat→Prop}(hA:∀k,v.ownBlock=some k→A k):∃a c,v=.slice a l.length c∧RdS A w l a l.length c:=by
 obtain⟨a,n,c,hv,hr⟩:=RdS.of_row (α:=Part) h.own hA (fun i x hx=>⟨partCells x,⟨rfl,hp x (List.mem_of_getElem? hx)⟩,fun j u hu=>by
  obtain⟨h1,h2,h3⟩:=flat_at l i x hx;simp only[Rep.n]
  match j,hu with
  |0,hu=>simp[partCells]at hu;rw[←hu];exact h1
  |1,hu=>simp[partCells]at hu;rw[←hu];exact h2
  |2,hu=>simp[partCells]at hu;rw[←hu];exact h3⟩)
 have hn:=hr.1;subst hn;exact⟨a,c,hv,hr⟩
end
end Go.Proofs.YtkbfhgcjimfgkaaDoor
set_option linter.unusedSimpArgs false
namespace Go.Proofs.YtkbfhgcjimfgkaaDoor
open Go.RowKit
def num (x:Int):Bool:=decide (0≤x)&&decide (x≤1048576)
theorem number_any (x:Int)(w:World)(_:I64 x):
 Calls Tryd.prog 63 #[.int .i64 x] w fun e w'=>e=.returned (.bool (num x))∧w=w':=by
 unfold num;by_cases h0:0≤x
 ·by_cases h1:x≤1048576
  ·have d0:decide (0≤x)=true:=by simpa using h0
   have d1:decide (x≤1048576)=true:=by simpa using h1
   go_enter Tryd.func63,Tryd.ntmps63;go_wp2_with fail
   go_ret
   exact⟨by simp[d0,d1],rfl⟩
  ·have d0:decide (0≤x)=true:=by simpa using h0
   have d1:decide (x≤1048576)=false:=by simpa using h1
   go_enter Tryd.func63,Tryd.ntmps63;go_wp2_with fail
   go_ret
   exact⟨by simp[d0,d1],rfl⟩
 ·have d0:decide (0≤x)=false:=by simpa using h0
  go_enter Tryd.func63,Tryd.ntmps63;go_wp2_with fail
  go_ret
  exact⟨by simp[d0],rfl⟩
def frameOdd (k h e:Int)(n:Nat)(t:Str):Bool:=((k==1)==decide (0<e))||(!(k==1)&&decide (0<n))||((k==3)&&decide (0<h))||(!(k==3)&&!(emptyS t))
def checkFrame (k h e:Int)(o:Op)(t:Str):Int:=
 if k<1∨3<k then 3 else if num h=false∨num e=false then 2 else if check o≠0 then check o else if checkText t≠0 then checkText t else if frameOdd k h e o.length t=true then 4 else 0
set_option maxRecDepth 100000 in
set_option maxHeartbeats 2000000 in
theorem checkFrame_any (A:Nat→Prop)(k h e:Int)(o:Op)(t:Str)(a:Option Addr)(n c:Nat)(w:World)(hg:Good w)(hA:∀b,A b→b<w.heap.size)(hr:RdS A w o a n c)(hk:I64 k)(hh:I64 h)(he:I64 e)(ht:t.size≤strMax):
 Calls Tryd.prog 65 #[.agg #[.int .i64 k,.int .i64 h,.int .i64 e,.slice a n c,.string t]] w fun ee w'=>ee=.returned (.int .i64 (checkFrame k h e o t))∧Below w.heap.size w w':=by
 have hn:o.length=n:=hr.1.symm;have hn2:n≤maxLen:=Nat.le_trans hr.2.1 hr.2.2.1;unfold maxLen at hn2;generalize hu:checkFrame k h e o t=u;unfold checkFrame at hu;rw[hn]at hu;have HC:=Lib.hid (fun W (hb:Below w.heap.size w W)=>check_any A o a n c W (hg.below' hb) (fun b hb'=>Nat.lt_of_lt_of_le (hA b hb') hb.size) (hr.below hA hb));have HT:=Lib.hid (fun W (hb:Below w.heap.size w W)=>checkText_any t W (hg.below' hb) ht);have HH:=Lib.hid (fun W=>number_any h W hh);have HE:=Lib.hid (fun W=>number_any e W he);clear hr hn ht;unfold I64 at hk hh he;generalize check o=co at*;generalize checkText t=ct at*;generalize num h=nh at*;generalize num e=ne at*;have Hu:=Lib.hid hu;clear hu;by_cases k1:k<1
 ·have d:decide (k<1)=true:=by simpa using k1
  have hu:=Hu.out;rw[if_pos (.inl k1)]at hu;subst hu;clear Hu;go_enter Tryd.func65,Tryd.ntmps65;go_wp2_with fail
  go_ret
  exact⟨rfl,by(repeat (first|exact Below.refl _ _|assumption|(refine Below.drew ?_)|(refine below_drewN ?_ _)|(refine Below.alloc ?_ (by first|(simp;done)|(simp;omega)|omega) _)|(refine Below.setCell ?_ (by first|(simp;done)|(simp;omega)|omega) _)|(refine Below.trans ?_ (Below.mono (by assumption) (by first|(simp;done)|(simp;omega)|omega)))))⟩
 by_cases k3:3<k
 ·have d:decide (k<1)=false:=by simpa using k1
  have d3:decide (3<k)=true:=by simpa using k3
  have hu:=Hu.out;rw[if_pos (.inr k3)]at hu;subst hu;clear Hu;go_enter Tryd.func65,Tryd.ntmps65;go_wp2_with fail
  go_ret
  exact⟨rfl,by(repeat (first|exact Below.refl _ _|assumption|(refine Below.drew ?_)|(refine below_drewN ?_ _)|(refine Below.alloc ?_ (by first|(simp;done)|(simp;omega)|omega) _)|(refine Below.setCell ?_ (by first|(simp;done)|(simp;omega)|omega) _)|(refine Below.trans ?_ (Below.mono (by assumption) (by first|(simp;done)|(simp;omega)|omega)))))⟩
 have d:decide (k<1)=false:=by simpa using k1
 have d3:decide (3<k)=false:=by simpa using k3
 have hu:=Hu.out;rw[if_neg (by omega)]at hu;clear Hu;have Hu:=Lib.hid hu;clear hu;go_enter Tryd.func65,Tryd.ntmps65;go_wp2_with fail;refine(HH.out _).mono ?_;rintro ee w1 ⟨rfl,rfl⟩;cases nh with
 |false=>
  have hu:=Hu.out;rw[if_pos (.inl rfl)]at hu;subst hu;clear Hu;go_wp2_with fail
  go_ret
  exact⟨rfl,by(repeat (first|exact Below.refl _ _|assumption|(refine Below.drew ?_)|(refine below_drewN ?_ _)|(refine Below.alloc ?_ (by first|(simp;done)|(simp;omega)|omega) _)|(refine Below.setCell ?_ (by first|(simp;done)|(simp;omega)|omega) _)|(refine Below.trans ?_ (Below.mono (by assumption) (by first|(simp;done)|(simp;omega)|omega)))))⟩
 |true=>
 go_wp2_with fail;refine(HE.out _).mono ?_;rintro ee w1 ⟨rfl,rfl⟩;cases ne with
 |false=>
  have hu:=Hu.out;rw[if_pos (.inr rfl)]at hu;subst hu;clear Hu;go_wp2_with fail
  go_ret
  exact⟨rfl,by(repeat (first|exact Below.refl _ _|assumption|(refine Below.drew ?_)|(refine below_drewN ?_ _)|(refine Below.alloc ?_ (by first|(simp;done)|(simp;omega)|omega) _)|(refine Below.setCell ?_ (by first|(simp;done)|(simp;omega)|omega) _)|(refine Below.trans ?_ (Below.mono (by assumption) (by first|(simp;done)|(simp;omega)|omega)))))⟩
 |true=>
 have hu:=Hu.out;rw[if_neg (by simp)]at hu;clear Hu;go_wp2_with fail;refine(HC.out _ (by(repeat (first|exact Below.refl _ _|assumption|(refine Below.drew ?_)|(refine below_drewN ?_ _)|(refine Below.alloc ?_ (by first|(simp;done)|(simp;omega)|omega) _)|(refine Below.setCell ?_ (by first|(simp;done)|(simp;omega)|omega) _)|(refine Below.trans ?_ (Below.mono (by assumption) (by first|(simp;done)|(simp;omega)|omega))))))).mono ?_;rintro ee w1 ⟨rfl,hb1⟩;obtain⟨hc1,hf1⟩:=bcell hb1;have hB1:Below w.heap.size w w1:=by(repeat (first|exact Below.refl _ _|assumption|(refine Below.drew ?_)|(refine below_drewN ?_ _)|(refine Below.alloc ?_ (by first|(simp;done)|(simp;omega)|omega) _)|(refine Below.setCell ?_ (by first|(simp;done)|(simp;omega)|omega) _)|(refine Below.trans ?_ (Below.mono (by assumption) (by first|(simp;done)|(simp;omega)|omega)))))
 have hz1:w.heap.size+1≤w1.heap.size:=by have:=hb1.size;simpa using this
 by_cases hco:co=0
 case neg=>
  rw[if_pos hco]at hu;subst hu;have d4:(co !=0)=true:=by simpa using hco
  clear hco;go_wp2_with fail
  go_ret
  exact⟨rfl,by(repeat (first|exact Below.refl _ _|assumption|(refine Below.drew ?_)|(refine below_drewN ?_ _)|(refine Below.alloc ?_ (by first|(simp;done)|(simp;omega)|omega) _)|(refine Below.setCell ?_ (by first|(simp;done)|(simp;omega)|omega) _)|(refine Below.trans ?_ (Below.mono (by assumption) (by first|(simp;done)|(simp;omega)|omega)))))⟩
 subst hco;rw[if_neg (by simp)]at hu;go_wp2_with fail;refine(HT.out _ (by(repeat (first|exact Below.refl _ _|assumption|(refine Below.drew ?_)|(refine below_drewN ?_ _)|(refine Below.alloc ?_ (by first|(simp;done)|(simp;omega)|omega) _)|(refine Below.setCell ?_ (by first|(simp;done)|(simp;omega)|omega) _)|(refine Below.trans ?_ (Below.mono (by assumption) (by first|(simp;done)|(simp;omega)|omega))))))).mono ?_;rintro ee w2 ⟨rfl,hb2⟩;obtain⟨hc2,hf2⟩:=bcell hb2;have hB2:=hB1.trans (hb2.mono hB1.size);by_cases hct:ct=0
 case neg=>
  rw[if_pos hct]at hu;subst hu;have d4:(ct !=0)=true:=by simpa using hct
  clear hct;go_wp2_with fail
  go_ret
  exact⟨rfl,hB2⟩
 subst hct;rw[if_neg (by simp)]at hu;have Hu:=Lib.hid hu;clear hu;have hrow:w2.heap[w.heap.size]?=some (.cells #[.int .i64 k,.int .i64 h,.int .i64 e,.slice a n c,.string t] 44 (0,0)):=
  (hb2.block _ (by omega)).trans ((hb1.block _ (by simp)).trans (heap_new_at _ _ _ rfl))
 have q0:w2.cell? ⟨w.heap.size,0,none⟩=some (.int .i64 k):=by rw[cell_of_row _ _ _ _ _ _ hrow];rfl
 have q1:w2.cell? ⟨w.heap.size,1,none⟩=some (.int .i64 h):=by rw[cell_of_row _ _ _ _ _ _ hrow];rfl
 have q2:w2.cell? ⟨w.heap.size,2,none⟩=some (.int .i64 e):=by rw[cell_of_row _ _ _ _ _ _ hrow];rfl
 have q3:w2.cell? ⟨w.heap.size,3,none⟩=some (.slice a n c):=by rw[cell_of_row _ _ _ _ _ _ hrow];rfl
 have q4:w2.cell? ⟨w.heap.size,4,none⟩=some (.string t):=by rw[cell_of_row _ _ _ _ _ _ hrow];rfl
 clear hrow hc1 hf1 hc2 hf2 hb1;have Hb2:=Lib.hid hB2;clear hb2;clear hB2 hB1 HC HT HH HE hk hh he;have hk3:k=1∨k=2∨k=3:=by omega
 clear k1 k3 d d3;rcases hk3 with rfl|rfl|rfl
 ·by_cases de:0<e
  ·have d5:decide (0<e)=true:=by simpa using de
   have hu:=Hu.out;rw[show frameOdd 1 h e n t=true by simp[frameOdd, *]]at hu;rw[if_pos rfl]at hu;subst hu;clear Hu;go_wp2_with fail
   go_ret
   exact⟨rfl,Hb2.out⟩
  ·have d5:decide (0<e)=false:=by simpa using de
   cases em:emptyS t with
   |true=>
    have d6:t.toList.isEmpty=true:=em;have hu:=Hu.out;rw[show frameOdd 1 h e n t=false by simp[frameOdd, *]]at hu;rw[if_neg (by decide)]at hu;subst hu;clear Hu;go_wp2_with fail
    go_ret
    exact⟨rfl,Hb2.out⟩
   |false=>
    have d6:t.toList.isEmpty=false:=em;have hu:=Hu.out;rw[show frameOdd 1 h e n t=true by simp[frameOdd, *]]at hu;rw[if_pos rfl]at hu;subst hu;clear Hu;go_wp2_with fail
    go_ret
    exact⟨rfl,Hb2.out⟩
 ·by_cases de:0<e
  ·have d5:decide (0<e)=true:=by simpa using de
   by_cases dn:0<n
   ·have d7:decide (0<n)=true:=by simpa using dn
    have hu:=Hu.out;rw[show frameOdd 2 h e n t=true by simp[frameOdd, *]]at hu;rw[if_pos rfl]at hu;subst hu;clear Hu;go_wp2_with fail
    go_ret
    exact⟨rfl,Hb2.out⟩
   ·have d7:decide (0<n)=false:=by simpa using dn
    cases em:emptyS t with
    |true=>
     have d6:t.toList.isEmpty=true:=em;have hu:=Hu.out;rw[show frameOdd 2 h e n t=false by simp[frameOdd, *]]at hu;rw[if_neg (by decide)]at hu;subst hu;clear Hu;go_wp2_with fail
     go_ret
     exact⟨rfl,Hb2.out⟩
    |false=>
     have d6:t.toList.isEmpty=false:=em;have hu:=Hu.out;rw[show frameOdd 2 h e n t=true by simp[frameOdd, *]]at hu;rw[if_pos rfl]at hu;subst hu;clear Hu;go_wp2_with fail
     go_ret
     exact⟨rfl,Hb2.out⟩
  ·have d5:decide (0<e)=false:=by simpa using de
   have hu:=Hu.out;rw[show frameOdd 2 h e n t=true by simp[frameOdd, *]]at hu;rw[if_pos rfl]at hu;subst hu;clear Hu;go_wp2_with fail
   go_ret
   exact⟨rfl,Hb2.out⟩
 ·by_cases de:0<e
  ·have d5:decide (0<e)=true:=by simpa using de
   by_cases dn:0<n
   ·have d7:decide (0<n)=true:=by simpa using dn
    have hu:=Hu.out;rw[show frameOdd 3 h e n t=true by simp[frameOdd, *]]at hu;rw[if_pos rfl]at hu;subst hu;clear Hu;go_wp2_with fail
    go_ret
    exact⟨rfl,Hb2.out⟩
   ·have d7:decide (0<n)=false:=by simpa using dn
    by_cases dh:0<h
    ·have d8:decide (0<h)=true:=by simpa using dh
     have hu:=Hu.out;rw[show frameOdd 3 h e n t=true by simp[frameOdd, *]]at hu;rw[if_pos rfl]at hu;subst hu;clear Hu;go_wp2_with fail
     go_ret
     exact⟨rfl,Hb2.out⟩
    ·have d8:decide (0<h)=false:=by simpa using dh
     have hu:=Hu.out;rw[show frameOdd 3 h e n t=false by simp[frameOdd, *]]at hu;rw[if_neg (by decide)]at hu;subst hu;clear Hu;go_wp2_with fail
     go_ret
     exact⟨rfl,Hb2.out⟩
  ·have d5:decide (0<e)=false:=by simpa using de
   have hu:=Hu.out;rw[show frameOdd 3 h e n t=true by simp[frameOdd, *]]at hu;rw[if_pos rfl]at hu;subst hu;clear Hu;go_wp2_with fail
   go_ret
   exact⟨rfl,Hb2.out⟩
end Go.Proofs.YtkbfhgcjimfgkaaDoor
