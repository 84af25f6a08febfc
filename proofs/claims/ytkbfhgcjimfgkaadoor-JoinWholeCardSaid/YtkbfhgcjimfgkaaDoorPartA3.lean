/- What stays as a call goes on: words for worlds, blocks, and what reads as data. No condition. -/
import Derived.Test.YtkbfhgcjimfgkaaDoorPartA2
import Derived.Test.YtkbfhgcjimfgkaaDoorRows
import Derived.BigQuiet
import Derived.Deep.QuietTactic
import Derived.Deep.RegionHeld3
import Derived.Deep.AppendLies
import Derived.Deep.RegionLaw
import Derived.BigRegion
import Derived.Deep.DeepFit
import Derived.Test.YtkbfhgcjimfgkaaDoorPartA0
import Derived.Lib.Builder
import Derived.Lib.AppendStr
import Derived.Lib.UnsafeStr
import Derived.Laws.Externs
import Derived.Deep.RegionWith
set_option linter.unusedVariables false
set_option linter.unusedSimpArgs false
namespace Go.Proofs.YtkbfhgcjimfgkaaDoor
open Go.RowKit
def lt (c:Nat):Nat:=if c%8=6 then 224+c/8 else if c%8=7 then 128512+c/8 else 97+c/8
def lets (s:Str)(most:Nat):List Nat:=(s.data.toList.take most).map fun c=>lt c.toNat
def letters (s:Str)(most:Nat):Str:=Uni.enc (lets s most)
theorem lt_vr (c:Nat)(h:c<256):Uni.vr (lt c):=by
 unfold lt Uni.vr;(repeat' split)<;>omega
theorem take_next' (s:Str)(k:Nat)(h:k<s.size):s.data.toList.take (k+1)=s.data.toList.take k++[s[k]]:=by
 rw[List.take_succ_eq_append_getElem (by simpa using h)];rfl
theorem lets_vr (s:Str)(m:Nat):∀r∈lets s m,Uni.vr r:=by
 intro r hr;simp only[lets,List.mem_map]at hr;obtain⟨c,_,rfl⟩:=hr;exact lt_vr _ c.toNat_lt
theorem lets_len (s:Str)(m:Nat):(lets s m).length=min m s.size:=by
 simp[lets]
theorem rc_enc (rs:List Nat)(h:∀r∈rs,Uni.vr r):rc (Uni.enc rs)=rs.length:=by
 unfold rc Uni.enc;rw[Uni.count_dec];simp only;rw[Uni.dec_enc_all rs h]
theorem valid_enc (rs:List Nat)(h:∀r∈rs,Uni.vr r):valid (Uni.enc rs)=true:=by
 unfold valid Uni.enc;exact Uni.valid_encL rs h
theorem encL_size (rs:List Nat)(h:∀r∈rs,Uni.vr r):(Uni.encL rs).length≤rs.length*4:=by
 induction rs with
 |nil=>simp[Uni.encL]
 |cons r rs ih=>
  rw[Uni.encL_cons,List.length_append,List.length_cons];have h1:=Uni.encR_len r (h r (by simp));have h2:=ih fun x hx=>h x (by simp[hx]);omega
theorem enc_size (rs:List Nat)(h:∀r∈rs,Uni.vr r):(Uni.enc rs).size≤rs.length*4:=by
 have:=encL_size rs h
 show(Uni.encL rs).toArray.size≤_
 simpa using this
set_option maxRecDepth 100000 in
theorem runesBytes_enc (rs:List Nat):runesBytes (rs.map fun r:Nat=>(r:Int))=Uni.enc rs:=by
 have key:∀(rs:List Nat)(s:ByteArray),(rs.map fun r:Nat=>(r:Int)).foldl (fun s n=>s++Utf8.encode n) s=s++Uni.enc rs:=by
  intro rs
  induction rs with
  |nil=>intro s;apply ByteArray.ext;simp[Uni.enc,Uni.encL]
  |cons r rs ih=>
   intro s;simp only[List.map_cons,List.foldl_cons];rw[ih];apply ByteArray.ext;apply Array.ext';simp[Uni.enc,Uni.encL_cons,Uni.encR,ByteArray.data_append]
 unfold runesBytes;rw[key];apply ByteArray.ext;simp
theorem infoR:(Tryd.prog.info? 21).map (fun i=>(i.zero,i.size,i.bytes))=some (some (.int .i32 0),1,4):=by kernel_rfl
theorem lets_next (s:Str)(k:Nat)(h:k<s.size):lets s (k+1)=lets s k++[lt s[k].toNat]:=by
 unfold lets;rw[take_next' s k h,List.map_append];rfl
theorem conv_own {W:World}{B k c:Nat}{a:Option Addr}{rs:List Nat}(h:W.ownsRow B 21 1 (.slice a k c) k (rs.map fun r:Nat=>.int .i32 (r:Int))):
 (convert 86 9 (.slice a k c)).run Tryd.prog W=.ok (.string (Uni.enc rs)) W:=by
 have hk:rs.length=k:=by have:=h.1;simpa using this
 rcases h.2 with⟨hv,h0⟩|⟨g,cap,cur,hv,_⟩
 ·have h1:a=none:=(Value.slice.injEq .. ▸hv:a=none∧k=0∧c=0).1;subst h1;have hr:rs=[]:=List.eq_nil_of_length_eq_zero (by omega);subst hr;have e:Uni.enc []=ByteArray.empty:=rfl;rw[e];exact run_convert_runes_nil W _ _ _ _ _ Tryd.underlying86 Tryd.underlying21 Tryd.underlying9
 ·have hc:=h.cells (g:=g) (by rw[hv];rfl);have h1:a=some ⟨g,0,none⟩:=(Value.slice.injEq .. ▸hv:a=some ⟨g,0,none⟩∧k=k∧c=cap).1;subst h1;have hz:∀j,j<(rs.map fun r:Nat=>(r:Int)).length→W.cell? ((⟨g,0,none⟩:Addr).add j)=some (.int .i32 ((rs.map fun r:Nat=>(r:Int)).getD j 0)):=by
   intro j hj;refine hc j _ ?_;simp only[List.length_map]at hj;simp[List.getD,List.getElem?_eq_getElem hj]
  have hr:=run_convert_runes W _ _ _ _ k c (rs.map fun r:Nat=>(r:Int)) (by simp;omega) Tryd.underlying86 Tryd.underlying21 Tryd.underlying9 hz;rw[List.take_of_length_le (by simp;omega),runesBytes_enc]at hr;exact hr
set_option maxRecDepth 100000 in
set_option maxHeartbeats 2000000 in
theorem letters_any (s:Str)(m:Nat)(w:World)(hs:s.size≤maxLen)(hm:m≤1000000):
 Calls Tryd.prog 13 #[.string s,.int .i64 m] w fun e w'=>e=.returned (.string (letters s m))∧Below w.heap.size w w':=by
 obtain⟨i0,hi,hz0,hz1,hz2⟩:=info_parts infoR;unfold maxLen at hs;go_enter Tryd.func13,Tryd.ntmps13;go_wp2_with fail;go_loopw [5,6] (fun v i wr=>∃k:Nat,k≤s.size∧k≤m∧i=.int .i64 k∧wr.ownsRow w.heap.size 21 1 v k ((lets s k).map fun r:Nat=>.int .i32 (r:Int))∧Below w.heap.size w wr) (fun _ i _=>s.size-(intOf i).toNat)
 case atStart=>exact⟨0,by omega,by omega,rfl,World.ownsRow_nil _ _ _ _,Below.refl _ _⟩
 case round=>
  obtain⟨k,hk,hkm,rfl,hown,hb⟩:=hrel;obtain⟨ta,tc,rfl⟩:∃ta tc,u5=.slice ta k tc:=by
   rcases hown.2 with⟨h,h0⟩|⟨g,cap,cur,hv,_⟩
   ·exact⟨none,0,by rw[h,h0]⟩
   ·exact⟨_,_,hv⟩
  by_cases hgo:k<s.size∧k<m
  ·obtain⟨hlt,hltm⟩:=hgo;have hnx:=lets_next s k hlt;have Hb8:=Lib.hid s[k].toNat_lt;have Hnx:=Lib.hid hnx;clear hnx;by_cases h6:s[k].toNat%8=6
   ·have b6:((s[k].toNat:Int)%8==6)=true:=by simp;omega
    have Hval:Hid (224+(s[k].toNat:Int)/8%256=((lt s[k].toNat:Nat):Int)):=by unfold Hid;have h8:=Hb8.out;unfold lt;rw[if_pos h6];omega
    clear h6;go_wp2_with (at_builtin;refine wpList_append_own _ rfl _ _ 86 rfl w.heap.size 21 i0 (.int .i32 0) 1 4 Tryd.underlying86 hi hz0 hz1 hz2 rfl (by decide) _ _ _ rfl (hown.alloc _) ⟨wr.heap.size,0,none⟩ 1 1 [.int .i32 (224+(s[k].toNat:Int)/8%256)] rfl rfl ?c1 ?c2 ?c3 ?c4 ?c5 ?_)
    case c1=>exact cell_one_new _ _ _
    case c2=>intro u hu;simp at hu;subst hu;rfl
    case c3=>unfold maxLen;omega
    case c4=>omega
    case c5=>have:=hb.size;simp;omega
    intro v' w1 hown' hgrow _
    go_wp2
    go_roundw
    case rel=>
     refine⟨k+1,by omega,by omega,by go_num,?_,?_⟩
     ·rw[Hnx.out,List.map_append,List.map_cons,List.map_nil,←Hval.out];exact hown'
     ·exact(hb.alloc hb.size _).grown hgrow (by have:=hb.size;simp;omega) (fun g hg=>(hown.lt g hg).1)
    case measure=>simp[intOf];omega
   ·by_cases h7:s[k].toNat%8=7
    ·have b6:((s[k].toNat:Int)%8==6)=false:=by simp;omega
     have b7:((s[k].toNat:Int)%8==7)=true:=by simp;omega
     have Hval:Hid (128512+(s[k].toNat:Int)/8%256=((lt s[k].toNat:Nat):Int)):=by unfold Hid;have h8:=Hb8.out;unfold lt;rw[if_neg h6,if_pos h7];omega
     clear h6 h7;go_wp2_with (at_builtin;refine wpList_append_own _ rfl _ _ 86 rfl w.heap.size 21 i0 (.int .i32 0) 1 4 Tryd.underlying86 hi hz0 hz1 hz2 rfl (by decide) _ _ _ rfl (hown.alloc _) ⟨wr.heap.size,0,none⟩ 1 1 [.int .i32 (128512+(s[k].toNat:Int)/8%256)] rfl rfl ?c1 ?c2 ?c3 ?c4 ?c5 ?_)
     case c1=>exact cell_one_new _ _ _
     case c2=>intro u hu;simp at hu;subst hu;rfl
     case c3=>unfold maxLen;omega
     case c4=>omega
     case c5=>have:=hb.size;simp;omega
     intro v' w1 hown' hgrow _
     go_wp2
     go_roundw
     case rel=>
      refine⟨k+1,by omega,by omega,by go_num,?_,?_⟩
      ·rw[Hnx.out,List.map_append,List.map_cons,List.map_nil,←Hval.out];exact hown'
      ·exact(hb.alloc hb.size _).grown hgrow (by have:=hb.size;simp;omega) (fun g hg=>(hown.lt g hg).1)
     case measure=>simp[intOf];omega
    ·have b6:((s[k].toNat:Int)%8==6)=false:=by simp;omega
     have b7:((s[k].toNat:Int)%8==7)=false:=by simp;omega
     have Hval:Hid (97+(s[k].toNat:Int)/8%256=((lt s[k].toNat:Nat):Int)):=by unfold Hid;have h8:=Hb8.out;unfold lt;rw[if_neg h6,if_neg h7];omega
     clear h6 h7;go_wp2_with (at_builtin;refine wpList_append_own _ rfl _ _ 86 rfl w.heap.size 21 i0 (.int .i32 0) 1 4 Tryd.underlying86 hi hz0 hz1 hz2 rfl (by decide) _ _ _ rfl (hown.alloc _) ⟨wr.heap.size,0,none⟩ 1 1 [.int .i32 (97+(s[k].toNat:Int)/8%256)] rfl rfl ?c1 ?c2 ?c3 ?c4 ?c5 ?_)
     case c1=>exact cell_one_new _ _ _
     case c2=>intro u hu;simp at hu;subst hu;rfl
     case c3=>unfold maxLen;omega
     case c4=>omega
     case c5=>have:=hb.size;simp;omega
     intro v' w1 hown' hgrow _
     go_wp2
     go_roundw
     case rel=>
      refine⟨k+1,by omega,by omega,by go_num,?_,?_⟩
      ·rw[Hnx.out,List.map_append,List.map_cons,List.map_nil,←Hval.out];exact hown'
      ·exact(hb.alloc hb.size _).grown hgrow (by have:=hb.size;simp;omega) (fun g hg=>(hown.lt g hg).1)
     case measure=>simp[intOf];omega
  ·have hk2:k=min m s.size:=by omega
   have hfin:lets s k=lets s m:=by
    unfold lets;rw[hk2,List.take_eq_take_iff.2];have:s.data.toList.length=s.size:=by simp
    omega
   rw[hfin]at hown;have hcv:=conv_own hown;have Hfin:Hid (Ending.returned (.string (Uni.enc (lets s m)))=Ending.returned (.string (letters s m))):=rfl;clear hfin hown hk2;generalize Uni.enc (lets s m)=T at*;by_cases hlt:k<s.size
   ·have hltm:¬k<m:=fun h=>hgo ⟨hlt,h⟩;clear hgo;go_wp2_with fail
    go_ret
    exact⟨Hfin.out,hb⟩
   ·clear hgo;go_wp2_with fail
    go_ret
    exact⟨Hfin.out,hb⟩
end Go.Proofs.YtkbfhgcjimfgkaaDoor
namespace Go.Proofs.YtkbfhgcjimfgkaaDoor
open Go.RowKit
theorem infoP:(Tryd.prog.info? 53).map (fun i=>(i.zero,i.size,i.bytes))=some (some (.agg #[.int .i64 0,.int .i64 0,.string ByteArray.empty]),3,32):=by kernel_rfl
end Go.Proofs.YtkbfhgcjimfgkaaDoor
namespace Go.Proofs.YtkbfhgcjimfgkaaDoor
open Go.RowKit
def noText:Str:=⟨#[]⟩
theorem noText_size:noText.size=0:=rfl
theorem letters_size (s:Str)(m:Nat):(letters s m).size≤m*4:=by
 have h1:=enc_size (lets s m) (lets_vr s m);have h2:=lets_len s m;unfold letters;omega
end Go.Proofs.YtkbfhgcjimfgkaaDoor
set_option linter.unusedSimpArgs false
namespace Go.Proofs.YtkbfhgcjimfgkaaDoor
open Go.RowKit
structure Fr where
 kind:Int
 heard:Int
 epoch:Int
 op:Op
 text:Str
instance:Rep Fr where
 n:=5
 rd:=fun A w f cs=>∃a n c,cs=[.int .i64 f.kind,.int .i64 f.heard,.int .i64 f.epoch,.slice a n c,.string f.text]∧RdS A w f.op a n c∧I64 f.kind∧I64 f.heard∧I64 f.epoch∧f.text.size≤strMax
 len:=fun⟨_,_,_,h,_⟩=>by rw[h];rfl
 mono:=fun h ⟨a,n,c,e,hr,h2⟩=>⟨a,n,c,e,hr.mono h,h2⟩
 one:=fun⟨_,_,_,h,_⟩=>by rw[h];simp[Value.oneCell']
 pos:=by decide
def Fr.check (f:Fr):Int:=checkFrame f.kind f.heard f.epoch f.op f.text
def Fr.fits (f:Fr):Prop:=I64 f.kind∧I64 f.heard∧I64 f.epoch∧f.text.size≤strMax
structure Pkt where
 epoch:Int
 number:Int
 bare:Bool
 ack:Int
 f:Fr
def bareFr:Fr:=⟨0,0,0,[],noText⟩
instance:Rep Pkt where
 n:=9
 rd:=fun A w p cs=>∃a n c,cs=[.int .i64 p.epoch,.int .i64 p.number,.bool p.bare,.int .i64 p.ack,.int .i64 p.f.kind,.int .i64 p.f.heard,.int .i64 p.f.epoch,.slice a n c,.string p.f.text]∧RdS A w p.f.op a n c∧I64 p.epoch∧I64 p.number∧I64 p.ack∧p.f.fits
 len:=fun⟨_,_,_,h,_⟩=>by rw[h];rfl
 mono:=fun h ⟨a,n,c,e,hr,h2⟩=>⟨a,n,c,e,hr.mono h,h2⟩
 one:=fun⟨_,_,_,h,_⟩=>by rw[h];simp[Value.oneCell']
 pos:=by decide
structure Lk where
 epoch:Int
 next:Int
 sent:List Fr
 queue:List Fr
 heard:Int
structure Ed where
 sent:Int
 heard:Int
 pending:List Op
theorem RdS.frame {A:Nat→Prop}{w:World}{l:List Fr}{a:Option Addr}{n c:Nat}(hr:RdS A w l a n c)(hn:0<n):
 ∃b off,a=some ⟨b,off,none⟩∧A b∧b<w.heap.size∧∀i (h:i<l.length),∃a' n' c',RdS A w l[i].op a' n' c'∧l[i].fits∧w.cell? ⟨b,off+i*5,none⟩=some (.int .i64 l[i].kind)∧w.cell? ⟨b,off+i*5+1,none⟩=some (.int .i64 l[i].heard)∧
  w.cell? ⟨b,off+i*5+1+1,none⟩=some (.int .i64 l[i].epoch)∧w.cell? ⟨b,off+i*5+1+1+1,none⟩=some (.slice a' n' c')∧w.cell? ⟨b,off+i*5+1+1+1+1,none⟩=some (.string l[i].text):=by
 obtain⟨b,off,e,hA,hb,he⟩:=hr.2.2.2.2 hn;refine⟨b,off,e,hA,hb,fun i h=>?_⟩;obtain⟨xs,⟨a',n',c',rfl,h1,h2⟩,h4⟩:=he i l[i] (List.getElem?_eq_getElem h);exact⟨a',n',c',h1,h2,h4 0 _ rfl,h4 1 _ rfl,h4 2 _ rfl,h4 3 _ rfl,h4 4 _ rfl⟩
theorem RdS.rowO {α:Type} [Rep α] {A:Nat→Prop}{w:World}{ls:List (List α)}{a:Option Addr}{n c:Nat}(hr:RdS A w ls a n c)(hn:0<n):
 ∃b off,a=some ⟨b,off,none⟩∧A b∧b<w.heap.size∧∀i (h:i<ls.length),∃a' n' c',RdS A w ls[i] a' n' c'∧w.cell? ⟨b,off+i,none⟩=some (.slice a' n' c'):=by
 obtain⟨b,off,e,hA,hb,he⟩:=hr.2.2.2.2 hn;refine⟨b,off,e,hA,hb,fun i h=>?_⟩;obtain⟨xs,⟨a',n',c',rfl,h1⟩,h4⟩:=he i ls[i] (List.getElem?_eq_getElem h);have h5:=h4 0 _ rfl;refine⟨a',n',c',h1,?_⟩;have e1:off+i*Rep.n (List α)+0=off+i:=by show off+i*1+0=off+i;omega
 rw[e1]at h5;exact h5
end Go.Proofs.YtkbfhgcjimfgkaaDoor
namespace Go.Proofs.YtkbfhgcjimfgkaaDoor
open Go.RowKit
structure Rec where
 epoch:Int
 op:Op
instance:Rep Rec where
 n:=2
 rd:=fun A w x cs=>∃(a:Option Addr)(n c:Nat),cs=[.int .i64 x.epoch,.slice a n c]∧I64 x.epoch∧RdS A w x.op a n c
 len:=fun⟨_,_,_,h,_⟩=>by rw[h];rfl
 mono:=fun h ⟨a,n,c,e,hi,hr⟩=>⟨a,n,c,e,hi,hr.mono h⟩
 one:=fun⟨_,_,_,h,_⟩=>by rw[h];simp[Value.oneCell']
 pos:=by decide
end Go.Proofs.YtkbfhgcjimfgkaaDoor
namespace Go.Proofs.YtkbfhgcjimfgkaaDoor
open Go.RowKit
theorem bytes_ext {a b:ByteArray}(h:a.data.toList=b.data.toList):a=b:=by
 apply ByteArray.ext;exact Array.ext' h
theorem enc_dec_str (s:Str)(h:valid s=true):Uni.enc (Uni.dec s.data.toList)=s∧∀r∈Uni.dec s.data.toList,Uni.vr r:=by
 obtain⟨h1,h2⟩:=Uni.enc_dec_all s.data.toList h;refine⟨bytes_ext ?_,h2⟩;unfold Uni.enc;simp only;exact h1
theorem loop_len (s:ByteArray):∀(n i:Nat)(r:List UInt8),s.size-i≤n→(ByteArray.toList.loop s i r).length=r.length+(s.size-i):=by
 intro n
 induction n with
 |zero=>
  intro i r h;unfold ByteArray.toList.loop;rw[if_neg (by omega),List.length_reverse];omega
 |succ n ih=>
  intro i r h;unfold ByteArray.toList.loop;split
  ·rw[ih _ _ (by omega),List.length_cons];omega
  ·rw[List.length_reverse];omega
theorem emptyS_iff (s:Str):emptyS s=true↔s.size=0:=by
 unfold emptyS;rw[List.isEmpty_iff,←List.length_eq_zero_iff];unfold ByteArray.toList;rw[loop_len s s.size 0 [] (by omega)];simp
theorem emptyS_noText:emptyS noText=true:=by rw[emptyS_iff];rfl
theorem eq_noText {s:Str}(h:emptyS s=true):s=noText:=by
 rw[emptyS_iff]at h;apply bytes_ext;have:s.data.toList.length=0:=by simpa using h
 rw[List.eq_nil_of_length_eq_zero this];rfl
def Solid (p:Part):Prop:=((p.kind=1∨p.kind=3)∧1≤p.n∧p.text=noText)∨(p.kind=2∧p.n=0∧valid p.text=true∧emptyS p.text=false)
def Canon:List Part→Prop
 |[]=>True
 |[p]=>Solid p
 |p::q::r=>Solid p∧clash q.kind p.kind=false∧Canon (q::r)
theorem letters_valid (s:Str)(m:Nat):valid (letters s m)=true:=valid_enc _ (lets_vr s m)
theorem letters_rc (s:Str)(m:Nat):rc (letters s m)=min m s.size:=by
 unfold letters;rw[rc_enc _ (lets_vr s m),lets_len]
end Go.Proofs.YtkbfhgcjimfgkaaDoor
namespace Go.Proofs.YtkbfhgcjimfgkaaDoor
inductive P where
 |k (n:Nat)
 |i (l:List Nat)
 |d (n:Nat)
def P.F:P→Nat
 |.k n=>n
 |.i _=>0
 |.d n=>n
def P.T:P→Nat
 |.k n=>n
 |.i l=>l.length
 |.d _=>0
def P.z:P→Nat
 |.k n=>n
 |.i l=>l.length
 |.d n=>n
def P.cut:P→Nat→P
 |.k m,n=>.k (m-n)
 |.i l,n=>.i (l.drop n)
 |.d m,n=>.d (m-n)
def P.ok:P→Prop
 |.k n=>1≤n
 |.i l=>l≠[]∧∀r∈l,Uni.vr r
 |.d n=>1≤n
def P.part:P→Part
 |.k n=>⟨1,n,noText⟩
 |.i l=>⟨2,0,Uni.enc l⟩
 |.d n=>⟨3,n,noText⟩
def FS:List P→Nat
 |[]=>0
 |p::r=>p.F+FS r
def TS:List P→Nat
 |[]=>0
 |p::r=>p.T+TS r
def ZS:List P→Nat
 |[]=>0
 |p::r=>p.z+ZS r
theorem FS_app (a b:List P):FS (a++b)=FS a+FS b:=by
 induction a with
 |nil=>simp[FS]
 |cons p a ih=>simp only[List.cons_append,FS,ih];omega
theorem TS_app (a b:List P):TS (a++b)=TS a+TS b:=by
 induction a with
 |nil=>simp[TS]
 |cons p a ih=>simp only[List.cons_append,TS,ih];omega
theorem FS_rev (a:List P):FS a.reverse=FS a:=by
 induction a with
 |nil=>rfl
 |cons p a ih=>simp only[List.reverse_cons,FS_app,FS,ih];omega
theorem TS_rev (a:List P):TS a.reverse=TS a:=by
 induction a with
 |nil=>rfl
 |cons p a ih=>simp only[List.reverse_cons,TS_app,TS,ih];omega
def app:List Nat→List P→List Nat
 |_,[]=>[]
 |t,.k n::r=>t.take n++app (t.drop n) r
 |t,.i l::r=>l++app t r
 |t,.d n::r=>app (t.drop n) r
theorem app_app (a b:List P):∀t,app t (a++b)=app t a++app (t.drop (FS a)) b:=by
 induction a with
 |nil=>intro t;simp[app,FS]
 |cons p a ih=>
  intro t;cases p with
  |k n=>simp only[List.cons_append,app,ih,FS,P.F,List.drop_drop,List.append_assoc]
  |i l=>simp only[List.cons_append,app,ih,FS,P.F,List.append_assoc,Nat.zero_add]
  |d n=>simp only[List.cons_append,app,ih,FS,P.F,List.drop_drop]
theorem app_len (a:List P):∀t:List Nat,FS a≤t.length→(app t a).length=TS a:=by
 induction a with
 |nil=>intro t _;rfl
 |cons p a ih=>
  intro t h;cases p with
  |k n=>
   simp only[FS,P.F]at h;simp only[app,TS,P.T,List.length_append,List.length_take];rw[ih _ (by simp;omega)];omega
  |i l=>
   simp only[FS,P.F]at h;simp only[app,TS,P.T,List.length_append];rw[ih _ (by omega)]
  |d n=>
   simp only[FS,P.F]at h;simp only[app,TS,P.T];rw[ih _ (by simp;omega)];omega
theorem app_vr (a:List P):∀t:List Nat,(∀r∈t,Uni.vr r)→(∀p∈a,p.ok)→∀r∈app t a,Uni.vr r:=by
 induction a with
 |nil=>intro t _ _ r hr;cases hr
 |cons p a ih=>
  intro t ht ha r hr;have hta:∀n,∀r∈t.drop n,Uni.vr r:=fun n r h=>ht r (List.mem_of_mem_drop h);have ha':∀p∈a,p.ok:=fun p h=>ha p (List.mem_cons_of_mem _ h);cases p with
  |k n=>
   simp only[app,List.mem_append]at hr;rcases hr with h|h
   ·exact ht r (List.mem_of_mem_take h)
   ·exact ih _ (hta n) ha' r h
  |i l=>
   simp only[app,List.mem_append]at hr;rcases hr with h|h
   ·exact(ha (.i l) (List.mem_cons_self ..)).2 r h
   ·exact ih _ ht ha' r h
  |d n=>exact ih _ (hta n) ha' r hr
def addP:List P→P→List P
 |r,.k n=>if n=0 then r else match r with
  |.k m::r'=>.k (m+n)::r'
  |r'=>.k n::r'
 |r,.d n=>if n=0 then r else match r with
  |.d m::r'=>.d (m+n)::r'
  |r'=>.d n::r'
 |[],.i l=>if l=[]then []else [.i l]
 |.k m::r,.i l=>if l=[]then .k m::r else .i l::.k m::r
 |.i m::r,.i l=>if l=[]then .i m::r else .i (m++l)::r
 |.d m::r,.i l=>if l=[]then .d m::r else .d m::addP r (.i l)
theorem FS_addP (p:P):∀r,FS (addP r p)=FS r+p.F:=by
 cases p with
 |k n=>
  intro r;unfold addP;split
  ·simp[P.F];omega
  ·split
   ·simp only[FS,P.F];omega
   ·simp only[FS,P.F];omega
 |d n=>
  intro r;unfold addP;split
  ·simp[P.F];omega
  ·split
   ·simp only[FS,P.F];omega
   ·simp only[FS,P.F];omega
 |i l=>
  intro r
  induction r with
  |nil=>unfold addP;split<;>simp[FS,P.F]
  |cons q r ih=>
   cases q with
   |k m=>unfold addP;split<;>simp[FS,P.F]
   |i m=>unfold addP;split<;>simp[FS,P.F]
   |d m=>
    unfold addP;split
    ·simp[FS,P.F]
    ·simp only[FS,P.F]at ih⊢;omega
theorem TS_addP (p:P):∀r,TS (addP r p)=TS r+p.T:=by
 cases p with
 |k n=>
  intro r;unfold addP;split
  ·simp[P.T];omega
  ·split
   ·simp only[TS,P.T];omega
   ·simp only[TS,P.T];omega
 |d n=>
  intro r;unfold addP;split
  ·simp[P.T]
  ·split
   ·simp only[TS,P.T];omega
   ·simp only[TS,P.T];omega
 |i l=>
  intro r
  induction r with
  |nil=>unfold addP;split<;>simp_all[TS,P.T]
  |cons q r ih=>
   cases q with
   |k m=>unfold addP;split<;>simp_all[TS,P.T];omega
   |i m=>unfold addP;split<;>simp_all[TS,P.T];omega
   |d m=>
    unfold addP;split
    ·simp_all[TS,P.T]
    ·simp only[TS,P.T]at ih⊢;omega
theorem app_addP (p:P):∀(r:List P)(t:List Nat),app t (addP r p).reverse=app t (p::r).reverse:=by
 have two:∀(x y z:P)(r:List P)(h:∀u,app u [x,y]=app u [z])(hF:FS [x,y]=FS [z])(t:List Nat),app t (z::r).reverse=app t (y::x::r).reverse:=by
  intro x y z r h hF t;simp only[List.reverse_cons,List.append_assoc,List.cons_append,List.nil_append];rw[app_app,app_app,h]
 cases p with
 |k n=>
  intro r t;unfold addP;split
  ·rename_i h;subst h;simp[app_app,app]
  ·split
   ·rename_i m r';exact two (.k m) (.k n) (.k (m+n)) r' (fun u=>by simp[app,List.take_add]) (by simp[FS,P.F]) t
   ·rfl
 |d n=>
  intro r t;unfold addP;split
  ·rename_i h;subst h;simp[app_app,app]
  ·split
   ·rename_i m r';exact two (.d m) (.d n) (.d (m+n)) r' (fun u=>by simp[app]) (by simp[FS,P.F]) t
   ·rfl
 |i l=>
  intro r
  induction r with
  |nil=>intro t;unfold addP;split<;>simp_all[app]
  |cons q r ih=>
   intro t;cases q with
   |k m=>unfold addP;split<;>simp_all[app,app_app]
   |i m=>
    unfold addP;split
    ·simp_all[app,app_app]
    ·exact two (.i m) (.i l) (.i (m++l)) r (fun u=>by simp[app]) (by simp[FS,P.F]) t
   |d m=>
    unfold addP;split
    ·simp_all[app,app_app]
    ·have hF:=FS_addP (.i l) r;rw[List.reverse_cons,app_app,ih t,FS_rev,hF];simp only[List.reverse_cons,app_app,app,List.append_assoc,List.append_nil,List.nil_append]
def P.clash:P→P→Bool
 |.k _,.k _=>true
 |.i _,.i _=>true
 |.d _,.d _=>true
 |.d _,.i _=>true
 |_,_=>false
def Can:List P→Prop
 |[]=>True
 |[p]=>p.ok
 |p::q::r=>p.ok∧q.clash p=false∧Can (q::r)
theorem Can.tail {p:P}{r:List P}(h:Can (p::r)):Can r:=by
 cases r with
 |nil=>trivial
 |cons q r=>exact h.2.2
theorem Can.head {p:P}{r:List P}(h:Can (p::r)):p.ok:=by
 cases r with
 |nil=>exact h
 |cons q r=>exact h.1
theorem Can.all {r:List P}(h:Can r):∀p∈r,p.ok:=by
 induction r with
 |nil=>simp
 |cons q r ih=>
  intro p hp;rcases List.mem_cons.1 hp with rfl|hp
  ·exact h.head
  ·exact ih h.tail p hp
theorem Can.cons {p:P}{r:List P}(h:Can r)(hp:p.ok)(hc:∀q,r.head?=some q→q.clash p=false):Can (p::r):=by
 cases r with
 |nil=>exact hp
 |cons q r=>exact⟨hp,hc q rfl,h⟩
theorem Can.next {p q:P}{r:List P}(h:Can (p::r))(hq:r.head?=some q):q.clash p=false:=by
 cases r with
 |nil=>cases hq
 |cons x r=>simp at hq;subst hq;exact h.2.1
theorem addP_can (p:P)(hp:∀l,p=.i l→∀r∈l,Uni.vr r):∀r:List P,Can r→Can (addP r p):=by
 cases p with
 |k n=>
  intro r hr;unfold addP;split
  ·exact hr
  ·rename_i h0;split
   ·rename_i m r';refine hr.tail.cons (by have:=hr.head;unfold P.ok at*;omega) (fun q hq=>?_);have:=hr.next hq
    cases q<;>simp_all[P.clash]
   ·rename_i hne;refine hr.cons (by unfold P.ok;omega) (fun q hq=>?_);cases q with
    |k m=>
     cases r with
     |nil=>cases hq
     |cons x r=>simp at hq;subst hq;exact absurd rfl (hne m r)
    |i m=>rfl
    |d m=>rfl
 |d n=>
  intro r hr;unfold addP;split
  ·exact hr
  ·rename_i h0;split
   ·rename_i m r';refine hr.tail.cons (by have:=hr.head;unfold P.ok at*;omega) (fun q hq=>?_);have:=hr.next hq
    cases q<;>simp_all[P.clash]
   ·rename_i hne;refine hr.cons (by unfold P.ok;omega) (fun q hq=>?_);cases q with
    |d m=>
     cases r with
     |nil=>cases hq
     |cons x r=>simp at hq;subst hq;exact absurd rfl (hne m r)
    |i m=>rfl
    |k m=>rfl
 |i l=>
  have hl:=hp l rfl;have key:∀r:List P,Can r→Can (addP r (.i l))∧(∀q,(∀x,r.head?=some x→x.clash q=false)→(∃m,q=.d m)→∀x,(addP r (.i l)).head?=some x→x.clash q=false):=by
   intro r
   induction r with
   |nil=>
    intro _;unfold addP;split
    ·exact⟨trivial,fun q _ _ x hx=>by cases hx⟩
    ·rename_i h0;exact⟨⟨h0,hl⟩,fun q _ ⟨m,hm⟩ x hx=>by simp at hx;subst hx hm;rfl⟩
   |cons y r ih=>
    intro hr;cases y with
    |k m=>
     unfold addP;split
     ·exact⟨hr,fun q hq _ x hx=>hq x hx⟩
     ·rename_i h0;exact⟨hr.cons ⟨h0,hl⟩ (fun q hq=>by simp at hq;subst hq;rfl),fun q _ ⟨m,hm⟩ x hx=>by simp at hx;subst hx hm;rfl⟩
    |i m=>
     unfold addP;split
     ·exact⟨hr,fun q hq _ x hx=>hq x hx⟩
     ·rename_i h0;refine⟨hr.tail.cons ?_ (fun q hq=>?_),fun q _ ⟨m,hm⟩ x hx=>by simp at hx;subst hx hm;rfl⟩
      ·refine⟨by simp[h0],fun r' hr'=>?_⟩;rcases List.mem_append.1 hr' with h|h
       ·exact hr.head.2 r' h
       ·exact hl r' h
      ·have:=hr.next hq
       cases q<;>simp_all[P.clash]
    |d m=>
     unfold addP;split
     ·exact⟨hr,fun q hq _ x hx=>hq x hx⟩
     ·have h1:=ih hr.tail;refine⟨h1.1.cons hr.head (fun q hq=>h1.2 (.d m) (fun x hx=>hr.next hx) ⟨m,rfl⟩ q hq),fun q hq hm x hx=>hq x (by simpa using hx)⟩
  exact fun r hr=>(key r hr).1
end Go.Proofs.YtkbfhgcjimfgkaaDoor
set_option linter.unusedSimpArgs false
namespace Go.Proofs.YtkbfhgcjimfgkaaDoor
open Go.RowKit
theorem checkFrom_all:∀(l:Op)(q:Option Int),checkFrom q l=0→∀p∈l,partOk p=0
 |[],_,_,p,hp=>by cases hp
 |p::l,q,h,p',hp'=>by
  have h0:partOk p=0:=by
   by_cases h0:partOk p=0
   ·exact h0
   ·have e:checkFrom q (p::l)=partOk p:=by cases q<;>rw[checkFrom,if_pos h0]
    rw[e]at h;exact absurd h h0
  have h1:checkFrom (some p.kind) l=0:=by
   cases hc:(match q with|some q=>clash q p.kind|none=>false)with
   |false=>rwa[checkFrom_drop q p l h0 hc]at h
   |true=>rw[checkFrom_clash q p l h0 hc]at h;exact absurd h (by decide)
  rcases List.mem_cons.1 hp' with rfl|hp'
  ·exact h0
  ·exact checkFrom_all l _ h1 p' hp'
theorem check_zero {l:Op}(h:check l=0):l.length≤8001∧(∀p∈l,partOk p=0)∧sumF l≤4000∧sumT l≤4000:=by
 unfold check at h;split at h
 ·exact absurd h (by decide)
 ·split at h
  ·rename_i h1;exact absurd h h1
  ·split at h
   ·exact absurd h (by decide)
   ·rename_i h1 h2 h3;exact⟨by omega,checkFrom_all l none (by simpa using h2),by omega,by omega⟩
theorem check_small {l:Op}(h:check l=0):Small l:=by
 obtain⟨h1,h2,_,_⟩:=check_zero h;exact⟨by omega,fun p hp=>by have:=partOk_small (h2 p hp);omega⟩
theorem sum_parts (f:Part→Int)(l:Op)(k:Nat)(h:∀p∈l,0≤f p):((l.take k).map f).sum≤(l.map f).sum∧0≤((l.take k).map f).sum:=by
 induction l generalizing k with
 |nil=>simp
 |cons p l ih=>
  have hp:=h p (by simp);cases k with
  |zero=>
   have:=(ih l.length (fun p hp=>h p (by simp[hp]))).2;rw[List.take_length]at this;simp;omega
  |succ k=>
   have:=ih k (fun p hp=>h p (by simp[hp]));simp only[List.take_succ_cons,List.map_cons,List.sum_cons];omega
theorem partOk_kind {p:Part}(h:partOk p=0):(p.kind=1∧1≤p.n∧p.n≤4000)∨(p.kind=2∧p.n=0∧0≤rc p.text)∨(p.kind=3∧1≤p.n∧p.n≤4000):=by
 have hs:=partOk_small h;unfold partOk at h;by_cases h1:p.kind=1
 ·left;simp only[h1,true_or,if_true]at h;split at h
  ·exact absurd h (by decide)
  ·exact⟨h1,by omega,by omega⟩
 ·by_cases h3:p.kind=3
  ·right;right;simp only[h3,or_true,if_true]at h;split at h
   ·exact absurd h (by decide)
   ·exact⟨h3,by omega,by omega⟩
  ·by_cases h2:p.kind=2
   ·right;left;rw[if_neg (by omega),if_pos h2]at h;split at h
    ·rename_i h4;exact absurd h h4
    ·split at h
     ·exact absurd h (by decide)
     ·rename_i h5;refine⟨h2,?_,?_⟩
      ·by_cases h6:p.n=0
       ·exact h6
       ·exact absurd (.inr h6) h5
      ·have:=hs.2.2.1;simpa[lenT,h2]using this
   ·rw[if_neg (by omega),if_neg h2]at h;exact absurd h (by decide)
theorem i12:((1:Int)=2)=False:=by simp
theorem i32:((3:Int)=2)=False:=by simp
theorem i31:((3:Int)=1)=False:=by simp
def mv (push:Bool):Op→Int→Int→Int→Int
 |[],_,_,new=>new
 |p::l,a,old,new=>
  if p.kind=2 then(if old=a∧push=false then new+a-old else mv push l a old (new+rc p.text))
  else if p.kind=1 then(if a<old+p.n then new+a-old else mv push l a (old+p.n) (new+p.n))
  else mv push l (if a<old+p.n then old+p.n else a) (old+p.n) new
theorem sumF_cons (p:Part)(l:Op):sumF (p::l)=lenF p+sumF l:=by simp[sumF]
theorem sumT_cons (p:Part)(l:Op):sumT (p::l)=lenT p+sumT l:=by simp[sumT]
theorem sumT_nonneg (l:Op)(h:∀p∈l,partOk p=0):0≤sumT l:=by
 have:=(sum_parts lenT l l.length (fun p hp=>(partOk_small (h p hp)).2.2.1)).2;rwa[List.take_length]at this
theorem mv_bound (push:Bool)(l:Op)(h:∀p∈l,partOk p=0):∀(a old new:Int),old≤a→new≤mv push l a old new∧mv push l a old new≤new+sumT l:=by
 induction l with
 |nil=>intro a old new _;simp[mv,sumT]
 |cons p l ih=>
  intro a old new ha;have ih2:=ih (fun p hp=>h p (by simp[hp]));have hT:=sumT_nonneg l (fun p hp=>h p (by simp[hp]));rw[sumT_cons];rcases partOk_kind (h p (by simp))with⟨k,n1,n2⟩|⟨k,n1,n2⟩|⟨k,n1,n2⟩
  ·have e:lenT p=p.n:=by simp[lenT,k]
   simp only[mv,k,e,i12,i32,i31,if_false,if_true];split
   ·omega
   ·have:=ih2 a (old+p.n) (new+p.n) (by omega);omega
  ·have e:lenT p=rc p.text:=by simp[lenT,k]
   simp only[mv,k,e,i12,i32,i31,if_false,if_true];split
   ·omega
   ·have:=ih2 a old (new+rc p.text) ha;omega
  ·have e:lenT p=0:=by simp[lenT,k]
   simp only[mv,k,e,i12,i32,i31,if_false,if_true];have:=ih2 (if a<old+p.n then old+p.n else a) (old+p.n) new (by split<;>omega);omega
end Go.Proofs.YtkbfhgcjimfgkaaDoor
namespace Go.Proofs.YtkbfhgcjimfgkaaDoor
open Go.RowKit
def rns (s:Str):List Nat:=Uni.dec s.data.toList
theorem rc_rns (s:Str):rc s=(rns s).length:=by unfold rc rns;rw[Uni.count_dec]
theorem rns_enc {l:List Nat}(h:∀r∈l,Uni.vr r):rns (Uni.enc l)=l:=by unfold rns Uni.enc;exact Uni.dec_enc_all l h
theorem enc_rns {s:Str}(h:valid s=true):Uni.enc (rns s)=s:=(enc_dec_str s h).1
theorem rns_vr {s:Str}(h:valid s=true):∀r∈rns s,Uni.vr r:=(enc_dec_str s h).2
def toP (p:Part):P:=if p.kind=1 then .k p.n.toNat else if p.kind=2 then .i (rns p.text)else .d p.n.toNat
def opP (o:Op):List P:=o.map toP
theorem part_toP {p:P}(h:p.ok):toP p.part=p:=by
 cases p with
 |k n=>simp[toP,P.part]
 |i l=>simp only[toP,P.part];rw[if_neg (by decide),if_true,rns_enc h.2]
 |d n=>simp[toP,P.part]
theorem toP_part {p:Part}(h:Solid p):(toP p).part=p∧(toP p).ok:=by
 obtain⟨k,n,t⟩:=p;rcases h with⟨hk,hn,ht⟩|⟨hk,hn,hv,he⟩
 ·simp only at hk hn ht;subst ht;rcases hk with rfl|rfl
  ·simp only[toP,if_true,P.part,P.ok];exact⟨by congr;omega,by omega⟩
  ·simp only[toP,P.part,P.ok];rw[if_neg (by decide),if_neg (by decide)];exact⟨by simp only;congr;omega,by simp only;omega⟩
 ·simp only at hk hn hv he;subst hk hn;simp only[toP];rw[if_neg (by decide),if_true];refine⟨by simp only[P.part,enc_rns hv],?_,rns_vr hv⟩;intro h0;have:Uni.enc (rns t)=t:=enc_rns hv;rw[h0]at this;rw[←this]at he;have h2:emptyS (Uni.enc [])=true:=by rw[emptyS_iff];rfl
  rw[h2]at he;cases he
theorem solid_of_ok {p:Part}(h:partOk p=0):Solid p:=by
 obtain⟨k,n,t⟩:=p;unfold partOk at h;simp only at h;by_cases h1:k=1∨k=3
 ·rw[if_pos h1]at h;by_cases h2:n<1∨4000<n
  ·rw[if_pos h2]at h;omega
  ·rw[if_neg h2]at h;cases he:emptyS t with
   |false=>rw[he]at h;simp at h
   |true=>exact .inl ⟨h1,by simp only;omega,eq_noText he⟩
 ·rw[if_neg h1]at h;by_cases h2:k=2
  ·rw[if_pos h2]at h;by_cases h3:checkText t=0
   ·rw[if_neg (by simpa using h3)]at h;have hv:valid t=true:=by
     unfold checkText at h3;cases hv:valid t with
     |true=>rfl
     |false=>rw[hv]at h3;simp at h3
    cases he:emptyS t with
    |true=>rw[he]at h;simp at h
    |false=>
     rw[he]at h;by_cases h0:n=0
     ·exact .inr ⟨h2,h0,hv,he⟩
     ·rw[if_pos (.inr h0)]at h;omega
   ·rw[if_pos h3]at h;omega
  ·rw[if_neg h2]at h;omega
theorem part_F (p:P):lenF p.part=p.F:=by cases p<;>simp[lenF,P.part,P.F]
theorem part_T {p:P}(h:p.ok):lenT p.part=p.T:=by
 cases p with
 |k n=>simp[lenT,P.part,P.T]
 |d n=>simp[lenT,P.part,P.T]
 |i l=>simp only[lenT,P.part,P.T];rw[if_neg (by decide),if_true,rc_enc _ h.2]
theorem sumF_parts (l:List P):sumF (l.map P.part)=FS l:=by
 induction l with
 |nil=>rfl
 |cons p l ih=>simp only[List.map_cons,sumF_cons,ih,FS,part_F];push_cast;rfl
theorem sumT_parts (l:List P)(h:∀p∈l,p.ok):sumT (l.map P.part)=TS l:=by
 induction l with
 |nil=>rfl
 |cons p l ih=>
  simp only[List.map_cons,sumT_cons,TS,part_T (h p (List.mem_cons_self ..))];rw[ih (fun q hq=>h q (List.mem_cons_of_mem _ hq))];push_cast;rfl
theorem clash_part (p q:P):clash p.part.kind q.part.kind=p.clash q:=by
 cases p<;>cases q<;>simp[clash,P.part,P.clash]
theorem canon_can:∀{r:List P},(∀p∈r,p.ok)→Canon (r.map P.part)→Can r
 |[],_,_=>trivial
 |[p],h,_=>h p (List.mem_cons_self ..)
 |p::q::r,h,hc=>⟨h p (List.mem_cons_self ..),by rw[←clash_part];exact hc.2.1,canon_can (r:=q::r) (fun x hx=>h x (List.mem_cons_of_mem _ hx)) hc.2.2⟩
theorem ok_len (l:List P)(h:∀p∈l,p.ok):l.length≤FS l+TS l:=by
 induction l with
 |nil=>simp
 |cons p l ih=>
  have h1:=ih (fun q hq=>h q (List.mem_cons_of_mem _ hq));have h2:=h p (List.mem_cons_self ..);simp only[List.length_cons,FS,TS];cases p with
  |k n=>unfold P.ok at h2;simp only[P.F,P.T];omega
  |d n=>unfold P.ok at h2;simp only[P.F,P.T];omega
  |i l=>
   have:l.length≠0:=fun h=>h2.1 (List.eq_nil_of_length_eq_zero h);simp only[P.F,P.T];omega
theorem from_can:∀(l:Op)(q:Part)(r:List Part),Canon (q::r)→checkFrom (some q.kind) l=0→(∀p∈l,Solid p)→Canon (l.reverse++q::r)
 |[],q,r,h,_,_=>h
 |p::l,q,r,h,hf,hs=>by
  have hp:partOk p=0∧clash q.kind p.kind=false∧checkFrom (some p.kind) l=0:=by
   simp only[checkFrom]at hf;by_cases h1:partOk p=0
   ·rw[if_neg (by simpa using h1)]at hf;cases hc:clash q.kind p.kind with
    |true=>simp[hc]at hf
    |false=>exact⟨h1,rfl,by simpa[hc]using hf⟩
   ·rw[if_pos h1]at hf;exact absurd hf h1
  rw[List.reverse_cons,List.append_assoc];exact from_can l p (q::r) ⟨hs p (List.mem_cons_self ..),hp.2.1,h⟩ hp.2.2 (fun x hx=>hs x (List.mem_cons_of_mem _ hx))
theorem check_canon {o:Op}(h:check o=0):Canon o.reverse:=by
 have h1:=(check_zero h).2.1;have h0:checkFrom none o=0:=by
  unfold check at h;by_cases h8:8001<o.length
  ·rw[if_pos h8]at h;omega
  ·rw[if_neg h8]at h;by_cases h2:checkFrom none o=0
   ·exact h2
   ·rw[if_pos h2]at h;exact h
 have hs:∀p∈o,Solid p:=fun p hp=>solid_of_ok (h1 p hp);cases o with
 |nil=>trivial
 |cons p l=>
  rw[List.reverse_cons];have hp:=h1 p (List.mem_cons_self ..);simp only[checkFrom]at h0;rw[if_neg (by simpa using hp)]at h0;exact from_can l p [] (hs p (List.mem_cons_self ..)) (by simpa using h0) (fun x hx=>hs x (List.mem_cons_of_mem _ hx))
structure OpIs (o:Op) (l:List P):Prop where
 eq:o=l.map P.part
 can:Can l.reverse
 ok:∀p∈l,p.ok
 f:sumF o=FS l
 t:sumT o=TS l
 fl:FS l≤4000
 tl:TS l≤4000
 len:l.length≤8001
theorem opIs {o:Op}(h:check o=0):OpIs o (opP o):=by
 obtain⟨h1,h2,h3,h4⟩:=check_zero h;have hs:∀p∈o,Solid p:=fun p hp=>solid_of_ok (h2 p hp);have hok:∀p∈opP o,p.ok:=by
  intro p hp;simp only[opP,List.mem_map]at hp;obtain⟨q,hq,rfl⟩:=hp;exact(toP_part (hs q hq)).2
 have he:o=(opP o).map P.part:=by
  unfold opP;rw[List.map_map]
  conv=>lhs;rw[←List.map_id o]
  exact List.map_congr_left fun q hq=>((toP_part (hs q hq)).1).symm
 have hf:sumF o=FS (opP o):=by rw[←sumF_parts,←he]
 have ht:sumT o=TS (opP o):=by rw[←sumT_parts _ hok,←he]
 refine⟨he,?_,hok,hf,ht,by omega,by omega,by simp only[opP,List.length_map];omega⟩;refine canon_can (fun p hp=>hok p (by simpa using hp)) ?_;rw[List.map_reverse,←he];exact check_canon h
theorem opIs_of {r:List P}(hc:Can r)(hf:FS r≤4000)(ht:TS r≤4000):OpIs (r.reverse.map P.part) r.reverse:=
 have hok:∀p∈r.reverse,p.ok:=fun p hp=>hc.all p (by simpa using hp)
 ⟨rfl,by rw[List.reverse_reverse];exact hc,hok,sumF_parts _,sumT_parts _ hok,by rw[FS_rev];exact hf,by rw[TS_rev];exact ht,by have:=ok_len r hc.all;simp;omega⟩
theorem OpIs.opP {o:Op}{l:List P}(h:OpIs o l):opP o=l:=by
 rw[h.eq];unfold Go.Proofs.YtkbfhgcjimfgkaaDoor.opP;rw[List.map_map]
 conv=>rhs;rw[←List.map_id l]
 exact List.map_congr_left fun q hq=>part_toP (h.ok q hq)
end Go.Proofs.YtkbfhgcjimfgkaaDoor
set_option linter.unusedSimpArgs false
namespace Go.Proofs.YtkbfhgcjimfgkaaDoor
open Go.RowKit
def applyE (s:Str)(o:Op):Int:=if checkText s≠0 then checkText s else if check o≠0 then check o else if sumF o≠rc s then 10 else 0
def applyS (s:Str)(o:Op):Str:=if applyE s o=0 then Uni.enc (app (rns s) (opP o))else noText
end Go.Proofs.YtkbfhgcjimfgkaaDoor
namespace Go.Proofs.YtkbfhgcjimfgkaaDoor
open Go.RowKit
theorem RdS.go {α:Type} [Rep α] {w w':World}{l:List α}{a:Option Addr}{n c:Nat}(hr:RdS (· <w.heap.size) w l a n c)(hb:Below w.heap.size w w'):RdS (· <w'.heap.size) w' l a n c:=
 hr.mono fun b h=>⟨Nat.lt_of_lt_of_le h hb.size,hb.block b h⟩
theorem valid_of {s:Str}(h:checkText s=0):valid s=true∧rc s≤4000:=by
 unfold checkText at h;cases hv:valid s with
 |false=>rw[hv]at h;simp at h
 |true=>
  rw[hv]at h;by_cases h4:4000<rc s
  ·simp[h4]at h
  ·exact⟨rfl,by omega⟩
theorem checkText_of {s:Str}(hv:valid s=true)(h4:rc s≤4000):checkText s=0:=by
 unfold checkText;rw[if_neg (by simp[hv]),if_neg (by omega)]
theorem apply_good {s:Str}{o:Op}(h0:checkText s=0)(h1:check o=0)(h2:sumF o=rc s):
 applyE s o=0∧applyS s o=Uni.enc (app (rns s) (opP o))∧(∀r∈app (rns s) (opP o),Uni.vr r)∧rc (applyS s o)=sumT o∧checkText (applyS s o)=0∧(applyS s o).size≤16000:=by
 have hE:applyE s o=0:=by unfold applyE;rw[if_neg (by simpa using h0),if_neg (by simpa using h1),if_neg (by simpa using h2)]
 have hO:=opIs h1;have hS:applyS s o=Uni.enc (app (rns s) (opP o)):=by unfold applyS;rw[if_pos hE]
 have hv:=rns_vr (valid_of h0).1;have hvr:=app_vr (opP o) (rns s) hv hO.ok;have hl:(app (rns s) (opP o)).length=TS (opP o):=app_len _ _ (by have:=hO.f;have:=rc_rns s;omega);have hrc:rc (applyS s o)=sumT o:=by rw[hS,rc_enc _ hvr,hl,hO.t]
 have htl:=hO.tl;have ht:=hO.t;refine⟨hE,hS,hvr,hrc,checkText_of (by rw[hS];exact valid_enc _ hvr) (by rw[hrc];omega),?_⟩;have:=enc_size _ hvr;rw[hS];omega
theorem letters_ok (s:Str)(m:Nat)(hm:m≤4000):checkText (letters s m)=0∧0≤rc (letters s m)∧rc (letters s m)≤m∧(letters s m).size≤m*4:=by
 have h1:=letters_rc s m;exact⟨checkText_of (letters_valid s m) (by omega),by omega,by omega,letters_size s m⟩
theorem check_go (o:Op)(a:Option Addr)(n c:Nat)(w:World)(hg:Good w)(hr:RdS (· <w.heap.size) w o a n c):
 Calls Tryd.prog 44 #[.slice a n c] w fun e w'=>e=.returned (.int .i64 (check o))∧Below w.heap.size w w':=check_any _ o a n c w hg (fun _ h=>h) hr
theorem lengths_go (o:Op)(a:Option Addr)(n c:Nat)(w:World)(hr:RdS (· <w.heap.size) w o a n c)(h:check o=0):
 Calls Tryd.prog 45 #[.slice a n c] w fun e w'=>e=.returned (.tuple #[.int .i64 (sumF o),.int .i64 (sumT o)])∧Below w.heap.size w w':=lengths_any _ o a n c w hr (check_small h)
end Go.Proofs.YtkbfhgcjimfgkaaDoor
set_option linter.unusedSimpArgs false
namespace Go.Proofs.YtkbfhgcjimfgkaaDoor
open Go.RowKit
theorem RdS.nil {α:Type} [Rep α] (A:Nat→Prop)(w:World):RdS (α:=α) A w [] none 0 0:=⟨rfl,Nat.le_refl _,by unfold maxLen;omega,fun _=>rfl,fun h=>absurd h (by omega)⟩
theorem check_nil:check []=0:=rfl
theorem abs_w {P:Program}{c:Code}{K:_}{fr:_}{W0:World}(Q:World→Prop)(hQ:Q W0)(k:∀W,Q W→Code.wp P c K fr W):Code.wp P c K fr W0:=k _ hQ
theorem alloc_sz (w:World)(o:Obj):(w.alloc o).heap.size=w.heap.size+1:=by
 show(w.heap.push o).size=_
 rw[Array.size_push]
end Go.Proofs.YtkbfhgcjimfgkaaDoor
namespace Go.Proofs.YtkbfhgcjimfgkaaDoor
open Go.RowKit
def Blk (b:Nat)(o:Obj)(W:World):Prop:=W.heap[b]?=some o
theorem Blk.lt {b:Nat}{o:Obj}{W:World}(h:Blk b o W):b<W.heap.size:=(Array.getElem?_eq_some_iff.1 h).1
theorem Blk.go {b:Nat}{o:Obj}{W W':World}(h:Blk b o W)(hb:Below W.heap.size W W'):Blk b o W':=(hb.block b h.lt).trans h
theorem Blk.new (W:World)(o:Obj):Blk W.heap.size o (W.alloc o):=heap_alloc_new W o
theorem Blk.at (W:World)(o:Obj)(b:Nat)(h:W.heap.size=b):Blk b o (W.alloc o):=heap_new_at W o b h
theorem Blk.alloc {b:Nat}{o:Obj}{W:World}(h:Blk b o W)(o':Obj):Blk b o (W.alloc o'):=h.go ((Below.refl _ _).alloc (Nat.le_refl _) _)
theorem Blk.cell {b:Nat}{cs:Array Value}{t:Nat}{W:World}(h:Blk b (.cells cs t (0,0)) W)(i:Nat):W.cell? ⟨b,i,none⟩=cs[i]?:=cell_of_row _ _ _ _ _ _ h
theorem Good.go {W W':World}(h:Good W)(hb:Below W.heap.size W W'):Good W':=h.below' hb
theorem up {a b c:World}(h:Below a.heap.size a b)(k:Below b.heap.size b c):Below a.heap.size a c:=h.trans (k.mono h.size)
theorem upper {B:Nat}{a b c:World}(h:Below B a b)(k:Below b.heap.size b c)(hB:B≤b.heap.size):Below B a c:=h.trans (k.mono hB)
theorem abs_run {P:Program}{f:Nat}{vs:Array Value}{F:Ending→World→Prop}{W0:World}(Q:World→Prop)(hQ:Q W0)(k:∀W,Q W→Calls P f vs W F):Calls P f vs W0 F:=k _ hQ
end Go.Proofs.YtkbfhgcjimfgkaaDoor
