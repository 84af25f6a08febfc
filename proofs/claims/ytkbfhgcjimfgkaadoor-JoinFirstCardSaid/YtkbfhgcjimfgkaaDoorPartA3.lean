/- The walk of mason.add. -/
import Derived.Lib.ValidLaws
import Derived.Lib.MapLaws
import Derived.Lib.RuneCount
import Derived.Lib.TrimUEq
import GoSem.Conv.StringToRunes
import Derived.Test.YtkbfhgcjimfgkaaDoorRows
import Derived.Test.YtkbfhgcjimfgkaaDoorPartA0
import Derived.Lib.Hide
import Derived.Test.YtkbfhgcjimfgkaaDoorPartA2
import Derived.BigQuiet
import Derived.Deep.QuietTactic
import Derived.Deep.RegionHeld3
import Derived.Deep.AppendLies
import Derived.Deep.RegionLaw
import Derived.BigRegion
import Derived.Deep.DeepFit
set_option linter.unusedVariables false
set_option linter.unusedSimpArgs false
namespace Go.Proofs.YtkbfhgcjimfgkaaDoor.Uni
open Go.Lib
def vr (r:Nat):Prop:=r<55296∨(57344≤r∧r≤1114111)
def encR (r:Nat):List UInt8:=(Utf8.encode (r:Int)).data.toList
def encL (rs:List Nat):List UInt8:=rs.flatMap encR
def enc (rs:List Nat):ByteArray:=⟨(encL rs).toArray⟩
def decAll:Nat→List UInt8→List Nat
 |0,_=>[]
 |f+1,l=>if l=[]then []else(decodeL l).1::decAll f (l.drop (decodeL l).2)
def dec (l:List UInt8):List Nat:=decAll l.length l
theorem valid_vr (r:Nat)(h:vr r):Utf8.valid (r:Int)=true:=by
 unfold vr at h;simp only[Utf8.valid,Bool.or_eq_true,Bool.and_eq_true,decide_eq_true_eq];omega
set_option maxRecDepth 100000 in
theorem encR_cases (r:Nat)(h:vr r):
 (r<128∧encR r=[UInt8.ofNat r])∨
 (128≤r∧r<2048∧encR r=[UInt8.ofNat (192+r/64),UInt8.ofNat (128+r%64)])∨
 (2048≤r∧r<65536∧encR r=[UInt8.ofNat (224+r/4096),UInt8.ofNat (128+r/64%64),UInt8.ofNat (128+r%64)])∨
 (65536≤r∧encR r=[UInt8.ofNat (240+r/262144),UInt8.ofNat (128+r/4096%64),UInt8.ofNat (128+r/64%64),UInt8.ofNat (128+r%64)]):=by
 have hv:=valid_vr r h;unfold encR Utf8.encode;rw[hv];simp only[if_true,Int.toNat_natCast];by_cases h1:r<128
 ·left;refine⟨h1,?_⟩;rw[if_pos h1]
 ·by_cases h2:r<2048
  ·right;left;refine⟨by omega,h2,?_⟩;rw[if_neg h1,if_pos h2]
  ·by_cases h3:r<65536
   ·right;right;left;refine⟨by omega,h3,?_⟩;rw[if_neg h1,if_neg h2,if_pos h3]
   ·right;right;right;refine⟨by omega,?_⟩;rw[if_neg h1,if_neg h2,if_neg h3]
theorem ofNat_lt (n:Nat)(h:n<256):(UInt8.ofNat n).toNat=n:=by rw[UInt8.toNat_ofNat'];exact Nat.mod_eq_of_lt h
theorem dec_enc (r:Nat)(h:vr r)(t:List UInt8):decodeL (encR r++t)=(r,(encR r).length):=by
 have hv:r<55296∨(57344≤r∧r≤1114111):=h;rw[decodeL_N];rcases encR_cases r h with⟨h1,e⟩|⟨h1,h2,e⟩|⟨h1,h2,e⟩|⟨h1,e⟩
 ·rw[e];simp only[List.cons_append,List.nil_append,List.getD_cons_zero,List.getD_cons_succ,List.length_cons,List.length_nil];rw[ofNat_lt _ (by omega)];unfold decodeN;rw[if_pos h1]
 ·rw[e];simp only[List.cons_append,List.nil_append,List.getD_cons_zero,List.getD_cons_succ,List.length_cons,List.length_nil];rw[ofNat_lt (192+r/64) (by omega),ofNat_lt (128+r%64) (by omega)];unfold decodeN;rw[if_neg (by omega),if_pos (by omega),if_pos (by omega)];exact Prod.ext (by show _=r;omega) rfl
 ·rw[e];simp only[List.cons_append,List.nil_append,List.getD_cons_zero,List.getD_cons_succ,List.length_cons,List.length_nil];rw[ofNat_lt (224+r/4096) (by omega),ofNat_lt (128+r/64%64) (by omega),ofNat_lt (128+r%64) (by omega)];unfold decodeN;have e3:(224+r/4096)%16*4096+(128+r/64%64)%64*64+(128+r%64)%64=r:=by omega
  rw[if_neg (by omega),if_neg (by omega),if_pos (by omega),e3,if_pos (by omega)]
 ·rw[e];simp only[List.cons_append,List.nil_append,List.getD_cons_zero,List.getD_cons_succ,List.length_cons,List.length_nil];rw[ofNat_lt (240+r/262144) (by omega),ofNat_lt (128+r/4096%64) (by omega),ofNat_lt (128+r/64%64) (by omega),ofNat_lt (128+r%64) (by omega)];unfold decodeN;have e3:(240+r/262144)%8*262144+(128+r/4096%64)%64*4096+(128+r/64%64)%64*64+(128+r%64)%64=r:=by omega
  rw[if_neg (by omega),if_neg (by omega),if_neg (by omega),if_pos (by omega),e3,if_pos (by omega)]
theorem encR_len (r:Nat)(h:vr r):1≤(encR r).length∧(encR r).length≤4:=by
 rcases encR_cases r h with⟨_,e⟩|⟨_,_,e⟩|⟨_,_,e⟩|⟨_,e⟩<;>rw[e]<;>simp
theorem encR_bad (r:Nat)(h:vr r):¬(r=65533∧(encR r).length=1):=by
 rintro⟨rfl,h1⟩;rcases encR_cases 65533 h with⟨h2,_⟩|⟨_,h2,_⟩|⟨_,_,e⟩|⟨h2,_⟩
 ·omega
 ·omega
 ·rw[e]at h1;simp at h1
 ·omega
theorem encL_cons (r:Nat)(rs:List Nat):encL (r::rs)=encR r++encL rs:=by simp[encL]
theorem encL_append (a b:List Nat):encL (a++b)=encL a++encL b:=by simp[encL]
theorem validD_enc (rs:List Nat)(h:∀r∈rs,vr r)(t:List UInt8):validD (encL rs++t)=validD t:=by
 induction rs with
 |nil=>rfl
 |cons r rs ih=>
  have hr:=h r (by simp);have hl:=encR_len r hr;rw[encL_cons,List.append_assoc,validD_step _ (by intro e;have h9:=congrArg List.length e;rw[List.length_append,List.length_nil]at h9;omega),dec_enc r hr,if_neg (encR_bad r hr)];simp only[List.drop_left];exact ih fun x hx=>h x (by simp[hx])
theorem decAll_fuel:∀(n m:Nat)(l:List UInt8),l.length≤n→l.length≤m→decAll n l=decAll m l
 |0,m,l,hn,_=>by
  obtain rfl:l=[]:=List.eq_nil_of_length_eq_zero (by omega);cases m<;>simp[decAll]
 |n+1,0,l,_,hm=>by
  obtain rfl:l=[]:=List.eq_nil_of_length_eq_zero (by omega);simp[decAll]
 |n+1,m+1,l,hn,hm=>by
  unfold decAll;by_cases hne:l=[]
  ·simp[hne]
  ·have hw:=decodeL_width l;have hl:0<l.length:=List.length_pos_iff.2 hne;rw[if_neg hne,if_neg hne,decAll_fuel n m (l.drop (decodeL l).2) (by rw[List.length_drop];omega) (by rw[List.length_drop];omega)]
theorem dec_step (l:List UInt8)(hne:l≠[]):dec l=(decodeL l).1::dec (l.drop (decodeL l).2):=by
 have hl:0<l.length:=List.length_pos_iff.2 hne;have hw:=decodeL_width l;obtain⟨n,hn⟩:∃n,l.length=n+1:=⟨l.length-1,by omega⟩;unfold dec;rw[hn]
 show(if l=[]then []else _)=_
 rw[if_neg hne,decAll_fuel n (l.drop (decodeL l).2).length _ (by rw[List.length_drop];omega) (Nat.le_refl _)]
theorem dec_encL (rs:List Nat)(h:∀r∈rs,vr r)(t:List UInt8):dec (encL rs++t)=rs++dec t:=by
 induction rs with
 |nil=>rfl
 |cons r rs ih=>
  have hr:=h r (by simp);have hl:=encR_len r hr;rw[encL_cons,List.append_assoc,dec_step _ (by intro e;have h9:=congrArg List.length e;rw[List.length_append,List.length_nil]at h9;omega),dec_enc r hr];simp only[List.drop_left,List.cons_append];rw[ih fun x hx=>h x (by simp[hx])]
theorem dec_nil:dec []=[]:=rfl
theorem dec_enc_all (rs:List Nat)(h:∀r∈rs,vr r):dec (encL rs)=rs:=by
 have:=dec_encL rs h [];simpa[dec_nil]using this
theorem valid_encL (rs:List Nat)(h:∀r∈rs,vr r):validD (encL rs)=true:=by
 have:=validD_enc rs h [];simpa[validD_nil]using this
theorem decode_vr (l:List UInt8)(hv:¬((decodeL l).1=65533∧(decodeL l).2=1)):vr (decodeL l).1:=by
 rw[decodeL_N]at hv;rw[decodeL_N];have h0:=(l.getD 0 0).toNat_lt;have h1:=(l.getD 1 0).toNat_lt;have h2:=(l.getD 2 0).toNat_lt;have h3:=(l.getD 3 0).toNat_lt;generalize (l.getD 0 0).toNat=b0 at*;generalize (l.getD 1 0).toNat=b1 at*;generalize (l.getD 2 0).toNat=b2 at*;generalize (l.getD 3 0).toNat=b3 at*;unfold decodeN at hv⊢;unfold vr
 repeat' split
 all_goals (first|(simp only;omega)|(exfalso;revert hv;simp;done))
set_option maxRecDepth 100000 in
theorem encode_same (r:Nat)(h:vr r):encodeRune (r:Int)=encR r:=by
 have hv:r<55296∨(57344≤r∧r≤1114111):=h;have e (n:Nat):(Int.toNat ((n:Nat):Int)).toUInt8=UInt8.ofNat n:=rfl;unfold encodeRune encodeRuneZ;rcases encR_cases r h with⟨h1,e1⟩|⟨h1,h2,e1⟩|⟨h1,h2,e1⟩|⟨h1,e1⟩
 ·rw[if_pos (by omega),e1];rfl
 ·rw[if_neg (by omega),if_pos (by omega),e1];rw[show(192+(r:Int)/64)=((192+r/64:Nat):Int)from by simp only[Int.natCast_add,Int.natCast_ediv,Int.natCast_emod];rfl,show(128+(r:Int)%64)=((128+r%64:Nat):Int)from by simp only[Int.natCast_add,Int.natCast_ediv,Int.natCast_emod];rfl];rfl
 ·rw[if_neg (by omega),if_neg (by omega),if_pos (by omega),e1];rw[show(224+(r:Int)/4096)=((224+r/4096:Nat):Int)from by simp only[Int.natCast_add,Int.natCast_ediv,Int.natCast_emod];rfl,show(128+(r:Int)/64%64)=((128+r/64%64:Nat):Int)from by simp only[Int.natCast_add,Int.natCast_ediv,Int.natCast_emod];rfl,show(128+(r:Int)%64)=((128+r%64:Nat):Int)from by simp only[Int.natCast_add,Int.natCast_ediv,Int.natCast_emod];rfl];rfl
 ·rw[if_neg (by omega),if_neg (by omega),if_neg (by omega),if_pos (by omega),e1];rw[show(240+(r:Int)/262144)=((240+r/262144:Nat):Int)from by simp only[Int.natCast_add,Int.natCast_ediv,Int.natCast_emod];rfl,show(128+(r:Int)/4096%64)=((128+r/4096%64:Nat):Int)from by simp only[Int.natCast_add,Int.natCast_ediv,Int.natCast_emod];rfl,show(128+(r:Int)/64%64)=((128+r/64%64:Nat):Int)from by simp only[Int.natCast_add,Int.natCast_ediv,Int.natCast_emod];rfl,show(128+(r:Int)%64)=((128+r%64:Nat):Int)from by simp only[Int.natCast_add,Int.natCast_ediv,Int.natCast_emod];rfl];rfl
theorem enc_dec (n:Nat):∀(l:List UInt8),l.length≤n→validD l=true→encL (dec l)=l∧∀r∈dec l,vr r:=by
 induction n with
 |zero=>
  intro l hl _;obtain rfl:l=[]:=List.eq_nil_of_length_eq_zero (by omega);exact⟨rfl,by simp[dec_nil]⟩
 |succ n ih=>
  intro l hl hv;by_cases hne:l=[]
  ·subst hne;exact⟨rfl,by simp[dec_nil]⟩
  ·have hw:=decodeL_width l;have hp:0<l.length:=List.length_pos_iff.2 hne;rw[validD_step l hne]at hv;by_cases hb:(decodeL l).1=65533∧(decodeL l).2=1
   ·rw[if_pos hb]at hv;cases hv
   ·rw[if_neg hb]at hv;obtain⟨h1,h2⟩:=ih (l.drop (decodeL l).2) (by rw[List.length_drop];omega) hv;rw[dec_step l hne,encL_cons,h1,←encode_same _ (decode_vr l hb),encode_decode l hne hb];refine⟨List.take_append_drop _ _,fun r hr=>?_⟩;rcases List.mem_cons.1 hr with rfl|hr
    ·exact decode_vr l hb
    ·exact h2 r hr
theorem enc_dec_all (l:List UInt8)(h:validD l=true):encL (dec l)=l∧∀r∈dec l,vr r:=enc_dec l.length l (Nat.le_refl _) h
theorem count_from (s:ByteArray):∀(f pos:Nat),runeCountFrom s f pos=(decAll f (s.data.toList.drop pos)).length
 |0,_=>rfl
 |f+1,pos=>by
  unfold runeCountFrom decAll;by_cases h:pos<s.size
  ·have hne:s.data.toList.drop pos≠[]:=by
    intro e;have:=congrArg List.length e;rw[List.length_drop]at this;simp at this;have:s.size=s.data.size:=rfl;omega
   rw[if_pos h,if_neg hne,decodeL_drop,count_from s f,List.drop_drop,List.length_cons];omega
  ·have he:s.data.toList.drop pos=[]:=List.drop_eq_nil_of_le (by have:s.size=s.data.size:=rfl;simp;omega);rw[if_neg h,if_pos he];rfl
theorem count_dec (s:ByteArray):runeCount s=(dec s.data.toList).length:=by
 unfold runeCount dec;rw[count_from,List.drop_zero];rfl
theorem runesFrom_dec (s:ByteArray):∀(f pos:Nat)(acc:Array Value),Conv.runesFrom s f pos acc=acc++((decAll f (s.data.toList.drop pos)).map fun r:Nat=>Value.int .i32 ((r:Nat):Int)).toArray
 |0,_,acc=>by simp[Conv.runesFrom,decAll]
 |f+1,pos,acc=>by
  unfold Conv.runesFrom decAll;by_cases h:pos<s.size
  ·have hne:s.data.toList.drop pos≠[]:=by
    intro e;have:=congrArg List.length e;rw[List.length_drop]at this;simp at this;have:s.size=s.data.size:=rfl;omega
   rw[if_pos h,if_neg hne,decodeL_drop];simp only;rw[runesFrom_dec s f,List.drop_drop];simp
  ·have he:s.data.toList.drop pos=[]:=List.drop_eq_nil_of_le (by have:s.size=s.data.size:=rfl;simp;omega);rw[if_neg h,if_pos he];simp
end Go.Proofs.YtkbfhgcjimfgkaaDoor.Uni
namespace Go.Proofs.YtkbfhgcjimfgkaaDoor
open Go.RowKit
def pk (n m:Int):Int:=if n<0 then(-(n+1))%m else n%m
theorem pk_range (n m:Int)(hm:1≤m):0≤pk n m∧pk n m<m:=by
 unfold pk;split
 ·exact⟨Int.emod_nonneg _ (by omega),Int.emod_lt_of_pos _ (by omega)⟩
 ·exact⟨Int.emod_nonneg _ (by omega),Int.emod_lt_of_pos _ (by omega)⟩
set_option maxHeartbeats 400000 in
theorem picked_any (n m:Int)(w:World)(hn:I64 n)(hm:1≤m)(hm':m≤9223372036854775807):
 Calls Tryd.prog 11 #[.int .i64 n,.int .i64 m] w fun e w'=>e=.returned (.int .i64 (pk n m))∧w=w':=by
 unfold I64 at hn;by_cases h:n<0
 ·have h1:0≤ -(n+1):=by omega
  go_enter Tryd.func11,Tryd.ntmps11
  go_wp2
  go_ret
  refine⟨?_,rfl⟩
  show Ending.returned (.int .i64 (-((n+1).tmod m)))=_
  rw[pk,if_pos h,←Int.neg_tmod,Int.tmod_eq_emod_of_nonneg h1]
 ·go_enter Tryd.func11,Tryd.ntmps11
  go_wp2
  go_ret
  exact⟨by rw[pk,if_neg (by omega)];rfl,rfl⟩
end Go.Proofs.YtkbfhgcjimfgkaaDoor
namespace Go.Proofs.YtkbfhgcjimfgkaaDoor
open Go.RowKit
def lt (c:Nat):Nat:=if c%8=6 then 224+c/8 else if c%8=7 then 128512+c/8 else 97+c/8
def lets (s:Str)(most:Nat):List Nat:=(s.data.toList.take most).map fun c=>lt c.toNat
def letters (s:Str)(most:Nat):Str:=Uni.enc (lets s most)
theorem lt_vr (c:Nat)(h:c<256):Uni.vr (lt c):=by
 unfold lt Uni.vr;(repeat' split)<;>omega
theorem take_next' (s:Str)(k:Nat)(h:k<s.size):s.data.toList.take (k+1)=s.data.toList.take k++[s[k]]:=by
 rw[List.take_succ_eq_append_getElem (by simpa using h)];rfl
theorem lets_vr (s:Str)(m:Nat):∀r∈lets s m,Uni.vr r:=by
 intro r hr;simp only[lets,List.mem_map]at hr;obtain⟨c,_,rfl⟩:=hr;exact lt_vr _ c.toNat_lt
theorem lets_len (s:Str)(m:Nat):(lets s m).length=min m s.size:=by
 simp[lets]
theorem rc_enc (rs:List Nat)(h:∀r∈rs,Uni.vr r):rc (Uni.enc rs)=rs.length:=by
 unfold rc Uni.enc;rw[Uni.count_dec];simp only;rw[Uni.dec_enc_all rs h]
theorem valid_enc (rs:List Nat)(h:∀r∈rs,Uni.vr r):valid (Uni.enc rs)=true:=by
 unfold valid Uni.enc;exact Uni.valid_encL rs h
theorem encL_size (rs:List Nat)(h:∀r∈rs,Uni.vr r):(Uni.encL rs).length≤rs.length*4:=by
 induction rs with
 |nil=>simp[Uni.encL]
 |cons r rs ih=>
  rw[Uni.encL_cons,List.length_append,List.length_cons];have h1:=Uni.encR_len r (h r (by simp));have h2:=ih fun x hx=>h x (by simp[hx]);omega
theorem enc_size (rs:List Nat)(h:∀r∈rs,Uni.vr r):(Uni.enc rs).size≤rs.length*4:=by
 have:=encL_size rs h
 show(Uni.encL rs).toArray.size≤_
 simpa using this
set_option maxRecDepth 100000 in
theorem runesBytes_enc (rs:List Nat):runesBytes (rs.map fun r:Nat=>(r:Int))=Uni.enc rs:=by
 have key:∀(rs:List Nat)(s:ByteArray),(rs.map fun r:Nat=>(r:Int)).foldl (fun s n=>s++Utf8.encode n) s=s++Uni.enc rs:=by
  intro rs
  induction rs with
  |nil=>intro s;apply ByteArray.ext;simp[Uni.enc,Uni.encL]
  |cons r rs ih=>
   intro s;simp only[List.map_cons,List.foldl_cons];rw[ih];apply ByteArray.ext;apply Array.ext';simp[Uni.enc,Uni.encL_cons,Uni.encR,ByteArray.data_append]
 unfold runesBytes;rw[key];apply ByteArray.ext;simp
theorem infoR:(Tryd.prog.info? 21).map (fun i=>(i.zero,i.size,i.bytes))=some (some (.int .i32 0),1,4):=by kernel_rfl
set_option maxHeartbeats 400000 in
theorem runes_any (s:Str)(w:World)(hs:s.size≤70368744177664):
 Calls Tryd.prog 18 #[.string s] w fun e w'=>e=.returned (.int .i64 (rc s))∧Below w.heap.size w w':=by
 have hcv:=fun W:World=>run_runes_of_string (P:=Tryd.prog) W 9 86 21 s Tryd.underlying9 Tryd.underlying86 Tryd.underlying21
  (by have h:=Uni.runesFrom_dec s s.size 0 #[];rw[h];have h2:=Uni.count_dec s;have h3:=Lib.runeCount_le s;simp only[List.drop_zero];simp[Uni.dec]at h2⊢;omega)
 have hlen:(Conv.runesFrom s s.size 0 #[]).size=Lib.runeCount s:=by
  rw[Uni.runesFrom_dec,Uni.count_dec];simp[Uni.dec]
 rw[hlen]at hcv;have Hl:=Lib.hid hlen;clear hlen;generalize Conv.runesFrom s s.size 0 #[]=R at*;unfold rc;generalize Lib.runeCount s=k at*;go_enter Tryd.func18,Tryd.ntmps18;go_wp2_with fail
 go_ret
 exact⟨rfl,by(repeat (first|exact Below.refl _ _|assumption|(refine Below.drew ?_)|(refine below_drewN ?_ _)|(refine Below.alloc ?_ (by first|(simp;done)|(simp;omega)|omega) _)|(refine Below.setCell ?_ (by first|(simp;done)|(simp;omega)|omega) _)|(refine Below.trans ?_ (Below.mono (by assumption) (by first|(simp;done)|(simp;omega)|omega)))))⟩
theorem lets_next (s:Str)(k:Nat)(h:k<s.size):lets s (k+1)=lets s k++[lt s[k].toNat]:=by
 unfold lets;rw[take_next' s k h,List.map_append];rfl
theorem conv_own {W:World}{B k c:Nat}{a:Option Addr}{rs:List Nat}(h:W.ownsRow B 21 1 (.slice a k c) k (rs.map fun r:Nat=>.int .i32 (r:Int))):
 (convert 86 9 (.slice a k c)).run Tryd.prog W=.ok (.string (Uni.enc rs)) W:=by
 have hk:rs.length=k:=by have:=h.1;simpa using this
 rcases h.2 with⟨hv,h0⟩|⟨g,cap,cur,hv,_⟩
 ·have h1:a=none:=(Value.slice.injEq .. ▸hv:a=none∧k=0∧c=0).1;subst h1;have hr:rs=[]:=List.eq_nil_of_length_eq_zero (by omega);subst hr;have e:Uni.enc []=ByteArray.empty:=rfl;rw[e];exact run_convert_runes_nil W _ _ _ _ _ Tryd.underlying86 Tryd.underlying21 Tryd.underlying9
 ·have hc:=h.cells (g:=g) (by rw[hv];rfl);have h1:a=some ⟨g,0,none⟩:=(Value.slice.injEq .. ▸hv:a=some ⟨g,0,none⟩∧k=k∧c=cap).1;subst h1;have hz:∀j,j<(rs.map fun r:Nat=>(r:Int)).length→W.cell? ((⟨g,0,none⟩:Addr).add j)=some (.int .i32 ((rs.map fun r:Nat=>(r:Int)).getD j 0)):=by
   intro j hj;refine hc j _ ?_;simp only[List.length_map]at hj;simp[List.getD,List.getElem?_eq_getElem hj]
  have hr:=run_convert_runes W _ _ _ _ k c (rs.map fun r:Nat=>(r:Int)) (by simp;omega) Tryd.underlying86 Tryd.underlying21 Tryd.underlying9 hz;rw[List.take_of_length_le (by simp;omega),runesBytes_enc]at hr;exact hr
set_option maxRecDepth 100000 in
set_option maxHeartbeats 2000000 in
theorem letters_any (s:Str)(m:Nat)(w:World)(hs:s.size≤maxLen)(hm:m≤1000000):
 Calls Tryd.prog 13 #[.string s,.int .i64 m] w fun e w'=>e=.returned (.string (letters s m))∧Below w.heap.size w w':=by
 obtain⟨i0,hi,hz0,hz1,hz2⟩:=info_parts infoR;unfold maxLen at hs;go_enter Tryd.func13,Tryd.ntmps13;go_wp2_with fail;go_loopw [5,6] (fun v i wr=>∃k:Nat,k≤s.size∧k≤m∧i=.int .i64 k∧wr.ownsRow w.heap.size 21 1 v k ((lets s k).map fun r:Nat=>.int .i32 (r:Int))∧Below w.heap.size w wr) (fun _ i _=>s.size-(intOf i).toNat)
 case atStart=>exact⟨0,by omega,by omega,rfl,World.ownsRow_nil _ _ _ _,Below.refl _ _⟩
 case round=>
  obtain⟨k,hk,hkm,rfl,hown,hb⟩:=hrel;obtain⟨ta,tc,rfl⟩:∃ta tc,u5=.slice ta k tc:=by
   rcases hown.2 with⟨h,h0⟩|⟨g,cap,cur,hv,_⟩
   ·exact⟨none,0,by rw[h,h0]⟩
   ·exact⟨_,_,hv⟩
  by_cases hgo:k<s.size∧k<m
  ·obtain⟨hlt,hltm⟩:=hgo;have hnx:=lets_next s k hlt;have Hb8:=Lib.hid s[k].toNat_lt;have Hnx:=Lib.hid hnx;clear hnx;by_cases h6:s[k].toNat%8=6
   ·have b6:((s[k].toNat:Int)%8==6)=true:=by simp;omega
    have Hval:Hid (224+(s[k].toNat:Int)/8%256=((lt s[k].toNat:Nat):Int)):=by unfold Hid;have h8:=Hb8.out;unfold lt;rw[if_pos h6];omega
    clear h6;go_wp2_with (at_builtin;refine wpList_append_own _ rfl _ _ 86 rfl w.heap.size 21 i0 (.int .i32 0) 1 4 Tryd.underlying86 hi hz0 hz1 hz2 rfl (by decide) _ _ _ rfl (hown.alloc _) ⟨wr.heap.size,0,none⟩ 1 1 [.int .i32 (224+(s[k].toNat:Int)/8%256)] rfl rfl ?c1 ?c2 ?c3 ?c4 ?c5 ?_)
    case c1=>exact cell_one_new _ _ _
    case c2=>intro u hu;simp at hu;subst hu;rfl
    case c3=>unfold maxLen;omega
    case c4=>omega
    case c5=>have:=hb.size;simp;omega
    intro v' w1 hown' hgrow _
    go_wp2
    go_roundw
    case rel=>
     refine⟨k+1,by omega,by omega,by go_num,?_,?_⟩
     ·rw[Hnx.out,List.map_append,List.map_cons,List.map_nil,←Hval.out];exact hown'
     ·exact(hb.alloc hb.size _).grown hgrow (by have:=hb.size;simp;omega) (fun g hg=>(hown.lt g hg).1)
    case measure=>simp[intOf];omega
   ·by_cases h7:s[k].toNat%8=7
    ·have b6:((s[k].toNat:Int)%8==6)=false:=by simp;omega
     have b7:((s[k].toNat:Int)%8==7)=true:=by simp;omega
     have Hval:Hid (128512+(s[k].toNat:Int)/8%256=((lt s[k].toNat:Nat):Int)):=by unfold Hid;have h8:=Hb8.out;unfold lt;rw[if_neg h6,if_pos h7];omega
     clear h6 h7;go_wp2_with (at_builtin;refine wpList_append_own _ rfl _ _ 86 rfl w.heap.size 21 i0 (.int .i32 0) 1 4 Tryd.underlying86 hi hz0 hz1 hz2 rfl (by decide) _ _ _ rfl (hown.alloc _) ⟨wr.heap.size,0,none⟩ 1 1 [.int .i32 (128512+(s[k].toNat:Int)/8%256)] rfl rfl ?c1 ?c2 ?c3 ?c4 ?c5 ?_)
     case c1=>exact cell_one_new _ _ _
     case c2=>intro u hu;simp at hu;subst hu;rfl
     case c3=>unfold maxLen;omega
     case c4=>omega
     case c5=>have:=hb.size;simp;omega
     intro v' w1 hown' hgrow _
     go_wp2
     go_roundw
     case rel=>
      refine⟨k+1,by omega,by omega,by go_num,?_,?_⟩
      ·rw[Hnx.out,List.map_append,List.map_cons,List.map_nil,←Hval.out];exact hown'
      ·exact(hb.alloc hb.size _).grown hgrow (by have:=hb.size;simp;omega) (fun g hg=>(hown.lt g hg).1)
     case measure=>simp[intOf];omega
    ·have b6:((s[k].toNat:Int)%8==6)=false:=by simp;omega
     have b7:((s[k].toNat:Int)%8==7)=false:=by simp;omega
     have Hval:Hid (97+(s[k].toNat:Int)/8%256=((lt s[k].toNat:Nat):Int)):=by unfold Hid;have h8:=Hb8.out;unfold lt;rw[if_neg h6,if_neg h7];omega
     clear h6 h7;go_wp2_with (at_builtin;refine wpList_append_own _ rfl _ _ 86 rfl w.heap.size 21 i0 (.int .i32 0) 1 4 Tryd.underlying86 hi hz0 hz1 hz2 rfl (by decide) _ _ _ rfl (hown.alloc _) ⟨wr.heap.size,0,none⟩ 1 1 [.int .i32 (97+(s[k].toNat:Int)/8%256)] rfl rfl ?c1 ?c2 ?c3 ?c4 ?c5 ?_)
     case c1=>exact cell_one_new _ _ _
     case c2=>intro u hu;simp at hu;subst hu;rfl
     case c3=>unfold maxLen;omega
     case c4=>omega
     case c5=>have:=hb.size;simp;omega
     intro v' w1 hown' hgrow _
     go_wp2
     go_roundw
     case rel=>
      refine⟨k+1,by omega,by omega,by go_num,?_,?_⟩
      ·rw[Hnx.out,List.map_append,List.map_cons,List.map_nil,←Hval.out];exact hown'
      ·exact(hb.alloc hb.size _).grown hgrow (by have:=hb.size;simp;omega) (fun g hg=>(hown.lt g hg).1)
     case measure=>simp[intOf];omega
  ·have hk2:k=min m s.size:=by omega
   have hfin:lets s k=lets s m:=by
    unfold lets;rw[hk2,List.take_eq_take_iff.2];have:s.data.toList.length=s.size:=by simp
    omega
   rw[hfin]at hown;have hcv:=conv_own hown;have Hfin:Hid (Ending.returned (.string (Uni.enc (lets s m)))=Ending.returned (.string (letters s m))):=rfl;clear hfin hown hk2;generalize Uni.enc (lets s m)=T at*;by_cases hlt:k<s.size
   ·have hltm:¬k<m:=fun h=>hgo ⟨hlt,h⟩;clear hgo;go_wp2_with fail
    go_ret
    exact⟨Hfin.out,hb⟩
   ·clear hgo;go_wp2_with fail
    go_ret
    exact⟨Hfin.out,hb⟩
end Go.Proofs.YtkbfhgcjimfgkaaDoor
namespace Go.Proofs.YtkbfhgcjimfgkaaDoor
open Go.RowKit
def triv (p:Part):Bool:=(decide (p.kind≠2)&&decide (p.n=0))||(decide (p.kind=2)&&emptyS p.text)
def addR:List Part→Part→List Part
 |[],p=>if triv p then []else [p]
 |q::r,p=>if triv p then q::r else if q.kind=p.kind then⟨q.kind,q.n+p.n,q.text++p.text⟩::r else if p.kind=2∧q.kind=3 then q::addR r p else p::q::r
structure Mild (p:Part):Prop where
 k:0≤p.kind∧p.kind≤1000
 n:0≤p.n∧p.n≤1000000000000
 t:p.text.size≤1000000000000
theorem infoP:(Tryd.prog.info? 53).map (fun i=>(i.zero,i.size,i.bytes))=some (some (.agg #[.int .i64 0,.int .i64 0,.string ByteArray.empty]),3,32):=by kernel_rfl
def AddPost (T B b:Nat)(v:Value)(ex:List Value)(r:List Part)(w:World)(e:Ending)(w':World):Prop:=
 ∃v',e=.returned (.tuple #[])∧Bag T B b v' ex r.reverse w'∧Touch (Bag.S b v) w w'∧(v'.ownBlock=v.ownBlock∨∀g,v'.ownBlock=some g→w.heap.size≤g)
set_option maxHeartbeats 2000000 in
theorem add_triv (B b:Nat)(v:Value)(left:Int)(r:List Part)(p:Part)(w:World)(hm:Mild p)(hl:r.length≤1000000000000)(ht:triv p=true)
 (hbag:Bag 91 B b v [.int .i64 left] r.reverse w):
 Calls Tryd.prog 32 #[.pointer (some ⟨b,0,none⟩),.agg #[.int .i64 p.kind,.int .i64 p.n,.string p.text]] w (AddPost 91 B b v [.int .i64 left] (addR r p) w):=by
 have he:addR r p=r:=by cases r<;>simp[addR,ht]
 rw[he];clear he;obtain⟨a,c,hv⟩:=hbag.form;have hlt:=hbag.lt;have hc0:=hbag.cell 0;have hc1:=hbag.cell 1;simp only[List.getElem?_cons_zero,List.getElem?_cons_succ]at hc0 hc1;obtain⟨pk,pn,pt⟩:=p;have hfin:AddPost 91 B b v [.int .i64 left] r w (.returned (.tuple #[])) (w.alloc (.cells #[.int .i64 pk,.int .i64 pn,.string pt] 53)):=
  ⟨v,rfl,hbag.keep fun k hk=>Below.heap_alloc w _ k (by
   rcases hk with rfl|hk
   ·exact hlt
   ·exact(hbag.rowlt k hk).2),(Touch.refl _ _).alloc _,.inl rfl⟩
 have Hfin:=Lib.hid hfin;rw[hv]at hc0;clear hfin hbag hv;simp only[List.length_reverse]at hc0;simp only[triv]at ht;by_cases h2:pk=2
 ·subst h2;have he:pt.toList.isEmpty=true:=by simpa[emptyS]using ht
  clear ht;go_enter Tryd.func32,Tryd.ntmps32;go_wp2_with fail;go_end0;exact Hfin.out
 ·have h3:(pk !=2)=true:=by simpa using h2
  have h4:(pn==0)=true:=by simpa[h2]using ht
  clear ht h2;go_enter Tryd.func32,Tryd.ntmps32;go_wp2_with fail;go_end0;exact Hfin.out
theorem add_fin {T B b:Nat}{v:Value}{a:Option Addr}{n c gg cap:Nat}{ex:List Value}{r:List Part}{w W w1:World}(hbase:B≤b)(hv:v=.slice a n c)(hblk:w.heap[b]?=some (.cells (v::ex).toArray T (0,0)))
 (hbk1:w1.heap[b]?=w.heap[b]?) (hown1:w1.ownsRow B 53 3 (.slice (some ⟨gg,0,none⟩) r.length cap) r.length (flat r.reverse)) (ht:Touch (Bag.S b v) w W) (hgrow:W.grownBy w1 (Value.slice a n c).ownBlock)
 (hat:(Value.slice a n c).ownBlock=some gg∨w.heap.size≤gg) (hT:T≠53:=by decide):
 AddPost T B b v ex r w (.returned (.tuple #[])) (w1.setCell ⟨b,0,none⟩ (.slice (some ⟨gg,0,none⟩) r.length cap)):=by
 subst hv;refine⟨_,rfl,Bag.put hbase (hbk1.trans hblk) (by simpa using hown1) hT,?_,?_⟩
 ·exact(ht.grown hgrow (fun k hk=>.inl (.inr hk))).setCell (p:=⟨b,0,none⟩) (.inl (.inl rfl)) _
 ·rcases hat with h|h
  ·exact .inl h.symm
  ·exact .inr fun g hg=>by simp[Value.ownBlock]at hg;omega
set_option maxRecDepth 100000 in
set_option maxHeartbeats 2000000 in
theorem add_empty (B b:Nat)(v:Value)(left:Int)(p:Part)(w:World)(hm:Mild p)(ht:triv p=false)
 (hbag:Bag 91 B b v [.int .i64 left] [] w):
 Calls Tryd.prog 32 #[.pointer (some ⟨b,0,none⟩),.agg #[.int .i64 p.kind,.int .i64 p.n,.string p.text]] w (AddPost 91 B b v [.int .i64 left] [p] w):=by
 obtain⟨i0,hi,hz0,hz1,hz2⟩:=info_parts infoP;obtain⟨a,c,hv⟩:=hbag.form;have hlt:=hbag.lt;have hc0:=hbag.cell 0;have hc1:=hbag.cell 1;have hf0:=hbag.frozen 0;simp only[List.getElem?_cons_zero,List.getElem?_cons_succ,List.length_nil]at hc0 hc1 hv;rw[hv]at hc0;have hown:=hbag.own;have hbase:=hbag.base;simp only[List.length_nil]at hown;rw[hv]at hown;have hrow:=hbag.rowlt;obtain⟨pk,pn,pt⟩:=p;simp only[triv]at ht;have Hbag:=Lib.hid hbag;have Hv:=Lib.hid hv;clear hbag hv;have hne:b≠w.heap.size:=by omega
 have Hrow:=Lib.hid hrow;clear hrow;have Hne:Hid ((Value.slice a 0 c).ownBlock≠some b):=by unfold Hid;rw[←Hv.out];exact Hbag.out.ne
 have Hnw:Hid ((Value.slice a 0 c).ownBlock≠some w.heap.size):=by unfold Hid;rw[←Hv.out];intro e;have:=Hrow.out _ e;omega
 by_cases h2:pk=2
 ·subst h2;have he:pt.toList.isEmpty=false:=by simpa[emptyS]using ht
  clear ht;go_enter Tryd.func32,Tryd.ntmps32;go_wp2_with fail;go_quiet (fail);go_wp2_with fail;go_region_law (((first|(refine step_append_lies _ (by rfl) _ _ _ (by rfl) B 53 i0 _ 3 32 Tryd.underlying42 hi hz0 hz1 hz2 rfl (by omega) (.slice a 0 c) 0 [] (by rfl) ((ownsRow_drewN (hown.alloc _) _).alloc _) ⟨w.heap.size+1,0,none⟩ 1 1 [.int .i64 2,.int .i64 pn,.string pt] (by rfl) (by rfl) (news_at (heap_new_at _ _ _ (by simp))) (by simp[Value.oneCell']) (by omega) (by unfold maxLen;omega) (by omega) (by simp;omega) (w.heap.size+2) (by simp) ?_;intro gg cap w1 hown1 hgrow hat hlt1;have hbk1:w1.heap[b]?=w.heap[b]?:=(hgrow.block b (by simp;omega) (Ne.symm Hne.out)).trans ((Below.heap_alloc _ _ b (by simp;omega)).trans (Below.heap_alloc w _ b hlt));have hf1:w1.frozen? ⟨b,0,none⟩=false:=(World.frozen?_of_block (a:=⟨b,0,none⟩) hbk1).trans hf0;have hd1:=(cell_keep (o:=0) hbk1).trans hc0))))
  all_goals
   (try go_wp2_with fail)
   go_end0;exact add_fin hbase Hv.out Hbag.out.blk hbk1 hown1 ((((Touch.refl _ w).alloc _).drewN _).alloc _) hgrow (hat.imp_right (fun h=>by omega))
 ·have h3:(pk !=2)=true:=by simpa using h2
  have h3':(pk==2)=false:=by simpa using h2
  have h4:(pn==0)=false:=by simpa[h2]using ht
  clear ht h2;go_enter Tryd.func32,Tryd.ntmps32;go_wp2_with fail;go_quiet (fail);go_wp2_with fail;go_region_law (((first|(refine step_append_lies _ (by rfl) _ _ _ (by rfl) B 53 i0 _ 3 32 Tryd.underlying42 hi hz0 hz1 hz2 rfl (by omega) (.slice a 0 c) 0 [] (by rfl) ((ownsRow_drewN (hown.alloc _) _).alloc _) ⟨w.heap.size+1,0,none⟩ 1 1 [.int .i64 pk,.int .i64 pn,.string pt] (by rfl) (by rfl) (news_at (heap_new_at _ _ _ (by simp))) (by simp[Value.oneCell']) (by omega) (by unfold maxLen;omega) (by omega) (by simp;omega) (w.heap.size+2) (by simp) ?_;intro gg cap w1 hown1 hgrow hat hlt1;have hbk1:w1.heap[b]?=w.heap[b]?:=(hgrow.block b (by simp;omega) (Ne.symm Hne.out)).trans ((Below.heap_alloc _ _ b (by simp;omega)).trans (Below.heap_alloc w _ b hlt));have hf1:w1.frozen? ⟨b,0,none⟩=false:=(World.frozen?_of_block (a:=⟨b,0,none⟩) hbk1).trans hf0;have hd1:=(cell_keep (o:=0) hbk1).trans hc0))))
  all_goals
   (try go_wp2_with fail)
   go_end0;exact add_fin hbase Hv.out Hbag.out.blk hbk1 hown1 ((((Touch.refl _ w).alloc _).drewN _).alloc _) hgrow (hat.imp_right (fun h=>by omega))
set_option maxRecDepth 100000 in
set_option maxHeartbeats 2000000 in
theorem add_append (B b:Nat)(v:Value)(left:Int)(q:Part)(r:List Part)(p:Part)(w:World)(hm:Mild p)(hl:r.length≤1000000000000)(ht:triv p=false)(hqp:q.kind≠p.kind)(hsw:¬(p.kind=2∧q.kind=3))
 (hbag:Bag 91 B b v [.int .i64 left] (q::r).reverse w):
 Calls Tryd.prog 32 #[.pointer (some ⟨b,0,none⟩),.agg #[.int .i64 p.kind,.int .i64 p.n,.string p.text]] w (AddPost 91 B b v [.int .i64 left] (p::q::r) w):=by
 obtain⟨i0,hi,hz0,hz1,hz2⟩:=info_parts infoP;obtain⟨a,c,hv⟩:=hbag.form;have hlt:=hbag.lt;have hc0:=hbag.cell 0;have hc1:=hbag.cell 1;have hf0:=hbag.frozen 0;simp only[List.getElem?_cons_zero,List.getElem?_cons_succ,List.length_reverse,List.length_cons]at hc0 hc1 hv;rw[hv]at hc0;have hown:=hbag.own;have hbase:=hbag.base;simp only[List.length_reverse,List.length_cons]at hown;rw[hv]at hown;have hrow:=hbag.rowlt;obtain⟨g,rfl,hg,hq0,hq1,hq2⟩:=hbag.last hv;simp only[Value.ownBlock]at hg;obtain⟨pk,pn,pt⟩:=p;obtain⟨qk,qn,qt⟩:=q;simp only at hqp hsw hq0 hq1 hq2;have hnn:0<r.length+1:=by omega
 have hgs:=(hrow g (by rw[hv];rfl)).2;have hgne:g≠w.heap.size:=by omega
 simp only[triv]at ht;have Hbag:=Lib.hid hbag;have Hv:=Lib.hid hv;clear hbag hv;have hne:b≠w.heap.size:=by omega
 have Hrow:=Lib.hid hrow;clear hrow;have Hne:Hid ((Value.slice (some ⟨g,0,none⟩) (r.length+1) c).ownBlock≠some b):=by unfold Hid;rw[←Hv.out];exact Hbag.out.ne
 have Hnw:Hid ((Value.slice (some ⟨g,0,none⟩) (r.length+1) c).ownBlock≠some w.heap.size):=by unfold Hid;rw[←Hv.out];intro e;have:=Hrow.out _ e;omega
 by_cases h2:pk=2
 ·subst h2;have he:pt.toList.isEmpty=false:=by simpa[emptyS]using ht
  have hb1:(qk==2)=false:=by simpa using hqp
  have hb2:(qk==3)=false:=by simpa using hsw
  clear ht hqp hsw;go_enter Tryd.func32,Tryd.ntmps32;go_wp2_with fail;go_quiet (fail);go_wp2_with fail;go_region_law (((first|(refine step_append_lies _ (by rfl) _ _ _ (by rfl) B 53 i0 _ 3 32 Tryd.underlying42 hi hz0 hz1 hz2 rfl (by omega) (.slice (some ⟨g,0,none⟩) (r.length+1) c) (r.length+1) (flat ((⟨qk,qn,qt⟩:Part)::r).reverse) (by rfl) ((ownsRow_drewN (hown.alloc _) _).alloc _) ⟨w.heap.size+1,0,none⟩ 1 1 [.int .i64 2,.int .i64 pn,.string pt] (by rfl) (by rfl) (news_at (heap_new_at _ _ _ (by simp))) (by simp[Value.oneCell']) (by omega) (by unfold maxLen;omega) (by omega) (by simp;omega) (w.heap.size+2) (by simp) ?_;intro gg cap w1 hown1 hgrow hat hlt1;have hbk1:w1.heap[b]?=w.heap[b]?:=(hgrow.block b (by simp;omega) (Ne.symm Hne.out)).trans ((Below.heap_alloc _ _ b (by simp;omega)).trans (Below.heap_alloc w _ b hlt));have hf1:w1.frozen? ⟨b,0,none⟩=false:=(World.frozen?_of_block (a:=⟨b,0,none⟩) hbk1).trans hf0;have hd1:=(cell_keep (o:=0) hbk1).trans hc0))))
  all_goals
   (try go_wp2_with fail)
   go_end0;exact add_fin hbase Hv.out Hbag.out.blk hbk1 (by rw[flat_snoc];exact hown1) ((((Touch.refl _ w).alloc _).drewN _).alloc _) hgrow (hat.imp_right (fun h=>by omega))
 ·have h3:(pk !=2)=true:=by simpa using h2
  have h3':(pk==2)=false:=by simpa using h2
  have h4:(pn==0)=false:=by simpa[h2]using ht
  have hb1:(qk==pk)=false:=by simpa using hqp
  clear ht h2 hqp hsw;go_enter Tryd.func32,Tryd.ntmps32;go_wp2_with fail;go_quiet (fail);go_wp2_with fail;go_region_law (((first|(refine step_append_lies _ (by rfl) _ _ _ (by rfl) B 53 i0 _ 3 32 Tryd.underlying42 hi hz0 hz1 hz2 rfl (by omega) (.slice (some ⟨g,0,none⟩) (r.length+1) c) (r.length+1) (flat ((⟨qk,qn,qt⟩:Part)::r).reverse) (by rfl) ((ownsRow_drewN (hown.alloc _) _).alloc _) ⟨w.heap.size+1,0,none⟩ 1 1 [.int .i64 pk,.int .i64 pn,.string pt] (by rfl) (by rfl) (news_at (heap_new_at _ _ _ (by simp))) (by simp[Value.oneCell']) (by omega) (by unfold maxLen;omega) (by omega) (by simp;omega) (w.heap.size+2) (by simp) ?_;intro gg cap w1 hown1 hgrow hat hlt1;have hbk1:w1.heap[b]?=w.heap[b]?:=(hgrow.block b (by simp;omega) (Ne.symm Hne.out)).trans ((Below.heap_alloc _ _ b (by simp;omega)).trans (Below.heap_alloc w _ b hlt));have hf1:w1.frozen? ⟨b,0,none⟩=false:=(World.frozen?_of_block (a:=⟨b,0,none⟩) hbk1).trans hf0;have hd1:=(cell_keep (o:=0) hbk1).trans hc0))))
  all_goals
   (try go_wp2_with fail)
   go_end0;exact add_fin hbase Hv.out Hbag.out.blk hbk1 (by rw[flat_snoc];exact hown1) ((((Touch.refl _ w).alloc _).drewN _).alloc _) hgrow (hat.imp_right (fun h=>by omega))
set_option maxRecDepth 100000 in
set_option maxHeartbeats 2000000 in
theorem add_merge (B b:Nat)(v:Value)(left:Int)(q:Part)(r:List Part)(p:Part)(w:World)(hm:Mild p)(hmq:Mild q)(hl:r.length≤1000000000000)(ht:triv p=false)(hqp:q.kind=p.kind)
 (hbag:Bag 91 B b v [.int .i64 left] (q::r).reverse w):
 Calls Tryd.prog 32 #[.pointer (some ⟨b,0,none⟩),.agg #[.int .i64 p.kind,.int .i64 p.n,.string p.text]] w (AddPost 91 B b v [.int .i64 left] (⟨q.kind,q.n+p.n,q.text++p.text⟩::r) w):=by
 obtain⟨a,c,hv⟩:=hbag.form;have hlt:=hbag.lt;have hc0:=hbag.cell 0;have hc1:=hbag.cell 1;simp only[List.getElem?_cons_zero,List.getElem?_cons_succ,List.length_reverse,List.length_cons]at hc0 hc1 hv;rw[hv]at hc0;have hrow:=hbag.rowlt;obtain⟨g,rfl,hg,hq0,hq1,hq2⟩:=hbag.last hv;have hgs:=(hrow g hg).2;have hbgn:b≠g:=fun e=>hbag.ne (by rw[hg,e]);have hown:=hbag.own;rw[hv]at hown;simp only[List.length_reverse,List.length_cons]at hown;have hf1:=hown.frozenAt (r.length*3+1);have hf2:=hown.frozenAt (r.length*3+2);have hgne:g≠w.heap.size:=by omega
 have hne:b≠w.heap.size:=by omega
 have hnn:0<r.length+1:=by omega
 have hm1:=hm.n;have hm2:=hmq.n;have hadd:∀W:World,(Op.stringOp .add q.text p.text).run Tryd.prog W=.ok (.string (q.text++p.text)) W:=fun W=>run_string_add_sum W _ _ (by have h1:=hm.t;have h2:=hmq.t;omega);have Hfin:Hid (∀W:World,Touch (fun _=>False) w W→AddPost 91 B b v [.int .i64 left] (⟨q.kind,q.n+p.n,q.text++p.text⟩::r) w (.returned (.tuple #[]))
  ((W.setCell ⟨g,r.length*3+1,none⟩ (.int .i64 (q.n+p.n))).setCell ⟨g,r.length*3+2,none⟩ (.string (q.text++p.text))).drew):=by
  unfold Hid;intro W hW;have hbW:=hbag.touch hW (fun _ _ h=>h);have hoW:=hbW.own;rw[hv]at hoW;simp only[List.length_reverse,List.length_cons]at hoW;have h1:=(hoW.stored (r.length*3+1) (.int .i64 (q.n+p.n))).1;have h2:=(h1.stored (r.length*3+2) (.string (q.text++p.text))).1;rw[flat_set ⟨q.kind,q.n+p.n,q.text++p.text⟩ q r rfl]at h2;refine⟨v,rfl,⟨hbag.base,?_,?_,hbag.ne⟩,?_,.inl rfl⟩
  ·show((W.setCell ⟨g,r.length*3+1,none⟩ (.int .i64 (q.n+p.n))).setCell ⟨g,r.length*3+2,none⟩ (.string (q.text++p.text))).heap[b]?=_
   rw[Below.heap_setCell _ _ _ _ hbgn,Below.heap_setCell _ _ _ _ hbgn];exact hbW.blk
  ·rw[hv];exact ownsRow_drew (by simpa using h2)
  ·exact(((hW.mono (fun _ _ h=>h.elim)).setCell (p:=⟨g,r.length*3+1,none⟩) (.inl (.inr hg)) _).setCell (p:=⟨g,r.length*3+2,none⟩) (.inl (.inr hg)) _).drew
 clear hown hbag hrow hm hmq hv hg;obtain⟨pk,pn,pt⟩:=p;obtain⟨qk,qn,qt⟩:=q;simp only at hqp hq0 hq1 hq2 hm1 hm2 hadd Hfin;subst hqp;simp only[triv]at ht;by_cases h2:qk=2
 ·subst h2;have he:pt.toList.isEmpty=false:=by simpa[emptyS]using ht
  clear ht;go_enter Tryd.func32,Tryd.ntmps32;go_wp2_with fail;go_quiet (fail);go_wp2_with fail
  go_region
  go_wp2_with fail
  go_region
  go_wp2_with fail;go_end0;exact Hfin.out _ (((Touch.refl _ w).alloc _).drewN _)
 ·have h3:(qk !=2)=true:=by simpa using h2
  have h3':(qk==2)=false:=by simpa using h2
  have h4:(pn==0)=false:=by simpa[h2]using ht
  clear ht h2;go_enter Tryd.func32,Tryd.ntmps32;go_wp2_with fail;go_quiet (fail);go_wp2_with fail
  go_region
  go_wp2_with fail
  go_region
  go_wp2_with fail;go_end0;exact Hfin.out _ (((Touch.refl _ w).alloc _).drewN _)
theorem addR_len (r:List Part)(p:Part):(addR r p).length≤r.length+1:=by
 induction r with
 |nil=>simp only[addR];split<;>simp
 |cons q r ih=>simp only[addR];(repeat' split)<;>simp<;>omega
set_option maxRecDepth 100000 in
set_option maxHeartbeats 4000000 in
theorem add_swap (B b:Nat)(v:Value)(left:Int)(q:Part)(r:List Part)(p:Part)(w:World)(hl:r.length≤1000000000000)(ht:triv p=false)(hp2:p.kind=2)(hq3:q.kind=3)
 (ih:∀(v:Value)(w:World),Bag 91 B b v [.int .i64 left] r.reverse w→
  Calls Tryd.prog 32 #[.pointer (some ⟨b,0,none⟩),.agg #[.int .i64 p.kind,.int .i64 p.n,.string p.text]] w (AddPost 91 B b v [.int .i64 left] (addR r p) w))
 (hbag:Bag 91 B b v [.int .i64 left] (q::r).reverse w):
 Calls Tryd.prog 32 #[.pointer (some ⟨b,0,none⟩),.agg #[.int .i64 p.kind,.int .i64 p.n,.string p.text]] w (AddPost 91 B b v [.int .i64 left] (q::addR r p) w):=by
 obtain⟨i0,hi,hz0,hz1,hz2⟩:=info_parts infoP;obtain⟨a,c,hv⟩:=hbag.form;have hlt:=hbag.lt;have hc0:=hbag.cell 0;have hc1:=hbag.cell 1;have hf0:=hbag.frozen 0;simp only[List.getElem?_cons_zero,List.getElem?_cons_succ,List.length_reverse,List.length_cons]at hc0 hc1 hv;rw[hv]at hc0;have hrow:=hbag.rowlt;obtain⟨g,rfl,hg,hq0,hq1,hq2⟩:=hbag.last hv;have hgs:=(hrow g hg).2;have hbgn:b≠g:=fun e=>hbag.ne (by rw[hg,e]);have hgne:g≠w.heap.size:=by omega
 have hne:b≠w.heap.size:=by omega
 have hnn:0<r.length+1:=by omega
 have hcap:r.length+1≤c:=by
  rcases hbag.own.2 with⟨_,h0⟩|⟨g',cap,cur,hv',_,_,hnc,_⟩
  ·simp at h0
  ·rw[hv]at hv';injection hv' with _ _ h3;simp at hnc;omega
 have Hcut:Hid (∀W:World,Touch (fun _=>False) w W→Bag 91 B b (.slice (some ⟨g,0,none⟩) r.length c) [.int .i64 left] r.reverse (W.setCell ⟨b,0,none⟩ (.slice (some ⟨g,0,none⟩) r.length c))):=by
  unfold Hid;intro W hW;have hbW:=hbag.touch hW (fun _ _ h=>h);have hoW:=hbW.own;rw[hv]at hoW;simp only[List.length_reverse,List.length_cons]at hoW;have h1:=ownsRow_cut hoW r.length (by omega);rw[flat_snoc]at h1;have h2:(flat r.reverse++partCells q).take (r.length*3)=flat r.reverse:=by
   have:=flat_len r.reverse;rw[List.length_reverse]at this;rw[←this,List.take_left]
  rw[h2]at h1;exact Bag.put hbag.base hbW.blk (by simpa using h1) (by decide)
 have Hbag:=Lib.hid hbag;have Hv:=Lib.hid hv;have Hg:=Lib.hid hg;have Hih:=Lib.hid ih;clear hbag hv hg ih hrow;obtain⟨pk,pn,pt⟩:=p;obtain⟨qk,qn,qt⟩:=q;simp only at hp2 hq3 hq0 hq1 hq2 Hih;subst hp2 hq3;have he:pt.toList.isEmpty=false:=by simpa[emptyS,triv]using ht
 clear ht;go_enter Tryd.func32,Tryd.ntmps32;go_wp2_with fail;go_quiet (fail);go_wp2_with fail;refine(Hih.out _ _ ((Hcut.out _ ?ht).alloc _)).mono ?_
 case ht=>exact(((Touch.refl _ w).alloc _).drewN _)
 rintro e w2 ⟨v2,rfl,hbag2,ht2,hat2⟩;obtain⟨a2,c2,hv2⟩:=hbag2.form;simp only[List.length_reverse]at hv2;have hsz2:=ht2.size;simp at hsz2;have hS:∀k,w.heap.size≤k→¬Bag.S b (.slice (some ⟨g,0,none⟩) r.length c) k:=by
  rintro k hk (rfl|h)
  ·omega
  ·simp[Value.ownBlock]at h;omega
 have d0:w2.cell? ⟨w.heap.size+1,0,none⟩=some (.int .i64 3):=(ht2.cell (b:=w.heap.size+1) (o:=0) (by simp) (hS _ (by omega))).trans (by rw[cell_of_row _ _ _ _ _ _ (heap_new_at _ _ _ (by simp))];rfl);have d1:w2.cell? ⟨w.heap.size+1,1,none⟩=some (.int .i64 qn):=(ht2.cell (b:=w.heap.size+1) (o:=1) (by simp) (hS _ (by omega))).trans (by rw[cell_of_row _ _ _ _ _ _ (heap_new_at _ _ _ (by simp))];rfl);have d2:w2.cell? ⟨w.heap.size+1,2,none⟩=some (.string qt):=(ht2.cell (b:=w.heap.size+1) (o:=2) (by simp) (hS _ (by omega))).trans (by rw[cell_of_row _ _ _ _ _ _ (heap_new_at _ _ _ (by simp))];rfl);have hown:=hbag2.own;rw[hv2]at hown;simp only[List.length_reverse]at hown;have c0:=hbag2.cell 0;have f0:=hbag2.frozen 0;have hlt2:=hbag2.lt;simp only[List.getElem?_cons_zero]at c0;rw[hv2]at c0;have hne2:=hbag2.ne;rw[hv2]at hne2;have Hne2:=Lib.hid hne2;have Hv2:=Lib.hid hv2;have Hbag2:=Lib.hid hbag2;have Ht2:=Lib.hid ht2;have Hat2:=Lib.hid hat2;have hbase:=hbag2.base;have hlen:=addR_len r ⟨2,pn,pt⟩;clear hne2 hv2 hbag2 ht2 hat2 hS Hcut Hih;generalize addR r ⟨2,pn,pt⟩=R at*;clear hc0 hc1 hq0 hq1 hq2 hf0;go_wp2_with fail;go_region_law (((first|(refine step_append_lies _ (by rfl) _ _ _ (by rfl) B 53 i0 _ 3 32 Tryd.underlying42 hi hz0 hz1 hz2 rfl (by omega) (.slice a2 R.length c2) R.length (flat R.reverse) (by rfl) ((ownsRow_drew hown).alloc _) ⟨w2.heap.size,0,none⟩ 1 1 [.int .i64 3,.int .i64 qn,.string qt] (by rfl) (by rfl) (news_at (heap_new_at _ _ _ (by simp))) (by simp[Value.oneCell']) (by omega) (by unfold maxLen;omega) (by omega) (by simp;omega) (w2.heap.size+1) (by simp) ?_;intro gg cap w3 hown1 hgrow hat hlt1;have hbk1:w3.heap[b]?=w2.heap[b]?:=(hgrow.block b (by first|(simp;omega)|(simp only[World.size_alloc];omega)|omega) (Ne.symm Hne2.out)).trans (Below.heap_alloc _ _ b (by first|(simp;omega)|omega));have hf1:w3.frozen? ⟨b,0,none⟩=false:=(World.frozen?_of_block (a:=⟨b,0,none⟩) hbk1).trans f0;have hd1:=(cell_keep (o:=0) hbk1).trans c0))))
 all_goals
  (try go_wp2_with fail)
  go_end0;have hbag2:=Hbag2.out;have hbk:=hbag2.blk;refine⟨_,rfl,Bag.put hbase (hbk1.trans hbk) (by rw[flat_snoc];simpa[partCells]using hown1) (by decide),?_,?_⟩
  ·have t0:Touch (Bag.S b v) w _:=((((Touch.refl (Bag.S b v) w).alloc (.cells #[.int .i64 2,.int .i64 pn,.string pt] 53)).drewN nq).setCell (p:=⟨b,0,none⟩) (.inl (.inl rfl)) (.slice (some ⟨g,0,none⟩) r.length c)).alloc (.cells #[.int .i64 3,.int .i64 qn,.string qt] 53);have t1:=t0.then_ Ht2.out (fun k _ h=>by
    rcases h with rfl|h
    ·exact .inl rfl
    ·exact .inr (Hg.out.trans h))
   refine((t1.drew.alloc _).grown hgrow (fun k hk=>?_)).setCell (p:=⟨b,0,none⟩) (.inl (.inl rfl)) _;rw[←Hv2.out]at hk;rcases Hat2.out with h|h
   ·exact .inl (.inr (by rw[Hg.out,←hk,h];rfl))
   ·have:=h k hk;simp at this;exact .inr (by omega)
  ·rcases hat with h|h
   ·rw[←Hv2.out]at h;rcases Hat2.out with h2|h2
    ·exact .inl (by rw[Hg.out];show some gg=some g;rw[←h,h2];rfl)
    ·exact .inr fun k hk=>by simp[Value.ownBlock]at hk;subst hk;have:=h2 _ h;simp at this;omega
   ·exact .inr fun k hk=>by simp[Value.ownBlock]at hk;omega
theorem addR_nil {p:Part}(ht:triv p=false):addR [] p=[p]:=by simp[addR,ht]
theorem addR_merge {p q:Part}{r:List Part}(ht:triv p=false)(h:q.kind=p.kind):addR (q::r) p=⟨q.kind,q.n+p.n,q.text++p.text⟩::r:=by simp only[addR,ht];rw[if_neg (by decide),if_pos h]
theorem addR_swap {p q:Part}{r:List Part}(ht:triv p=false)(h:¬q.kind=p.kind)(h2:p.kind=2∧q.kind=3):addR (q::r) p=q::addR r p:=by simp only[addR,ht];rw[if_neg (by decide),if_neg h,if_pos h2]
theorem addR_more {p q:Part}{r:List Part}(ht:triv p=false)(h:¬q.kind=p.kind)(h2:¬(p.kind=2∧q.kind=3)):addR (q::r) p=p::q::r:=by simp only[addR,ht];rw[if_neg (by decide),if_neg h,if_neg h2]
theorem add_any (B b:Nat)(left:Int)(p:Part)(hm:Mild p):∀(r:List Part)(v:Value)(w:World),(∀q∈r,Mild q)→r.length≤1000000000000→
 Bag 91 B b v [.int .i64 left] r.reverse w→
 Calls Tryd.prog 32 #[.pointer (some ⟨b,0,none⟩),.agg #[.int .i64 p.kind,.int .i64 p.n,.string p.text]] w (AddPost 91 B b v [.int .i64 left] (addR r p) w)
 |[],v,w,_,hl,hbag=>by
  cases ht:triv p with
  |true=>exact add_triv B b v left [] p w hm hl ht hbag
  |false=>rw[addR_nil ht];exact add_empty B b v left p w hm ht hbag
 |q::r,v,w,hq,hl,hbag=>by
  have hl':r.length≤1000000000000:=by simp at hl;omega
  cases ht:triv p with
  |true=>exact add_triv B b v left (q::r) p w hm hl ht hbag
  |false=>
   by_cases h1:q.kind=p.kind
   ·rw[addR_merge ht h1];exact add_merge B b v left q r p w hm (hq q (by simp)) hl' ht h1 hbag
   ·by_cases h2:p.kind=2∧q.kind=3
    ·rw[addR_swap ht h1 h2];exact add_swap B b v left q r p w hl' ht h2.1 h2.2 (fun v w hb=>add_any B b left p hm r v w (fun q hq'=>hq q (by simp[hq'])) hl' hb) hbag
    ·rw[addR_more ht h1 h2];exact add_append B b v left q r p w hm hl' ht h1 h2 hbag
end Go.Proofs.YtkbfhgcjimfgkaaDoor
