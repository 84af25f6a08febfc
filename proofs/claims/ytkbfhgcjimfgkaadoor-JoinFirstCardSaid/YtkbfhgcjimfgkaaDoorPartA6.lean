/- A region that draws its order, each operation walked at a small frame of its own. No program in sight. -/
import Derived.Test.YtkbfhgcjimfgkaaDoorPartA5
import Derived.Test.YtkbfhgcjimfgkaaDoorPartA4
import Derived.Deep.RegionWith
import Derived.Deep.RegionHeld3
import Derived.Test.YtkbfhgcjimfgkaaDoorPartA2
import Derived.Orders
import Derived.Tactics2
set_option linter.unusedVariables false
set_option linter.unusedSimpArgs false
namespace Go.Proofs.YtkbfhgcjimfgkaaDoor
open Go.RowKit
theorem RdS.go {α:Type} [Rep α] {w w':World}{l:List α}{a:Option Addr}{n c:Nat}(hr:RdS (· <w.heap.size) w l a n c)(hb:Below w.heap.size w w'):RdS (· <w'.heap.size) w' l a n c:=
 hr.mono fun b h=>⟨Nat.lt_of_lt_of_le h hb.size,hb.block b h⟩
theorem valid_of {s:Str}(h:checkText s=0):valid s=true∧rc s≤4000:=by
 unfold checkText at h;cases hv:valid s with
 |false=>rw[hv]at h;simp at h
 |true=>
  rw[hv]at h;by_cases h4:4000<rc s
  ·simp[h4]at h
  ·exact⟨rfl,by omega⟩
theorem checkText_of {s:Str}(hv:valid s=true)(h4:rc s≤4000):checkText s=0:=by
 unfold checkText;rw[if_neg (by simp[hv]),if_neg (by omega)]
theorem apply_good {s:Str}{o:Op}(h0:checkText s=0)(h1:check o=0)(h2:sumF o=rc s):
 applyE s o=0∧applyS s o=Uni.enc (app (rns s) (opP o))∧(∀r∈app (rns s) (opP o),Uni.vr r)∧rc (applyS s o)=sumT o∧checkText (applyS s o)=0∧(applyS s o).size≤16000:=by
 have hE:applyE s o=0:=by unfold applyE;rw[if_neg (by simpa using h0),if_neg (by simpa using h1),if_neg (by simpa using h2)]
 have hO:=opIs h1;have hS:applyS s o=Uni.enc (app (rns s) (opP o)):=by unfold applyS;rw[if_pos hE]
 have hv:=rns_vr (valid_of h0).1;have hvr:=app_vr (opP o) (rns s) hv hO.ok;have hl:(app (rns s) (opP o)).length=TS (opP o):=app_len _ _ (by have:=hO.f;have:=rc_rns s;omega);have hrc:rc (applyS s o)=sumT o:=by rw[hS,rc_enc _ hvr,hl,hO.t]
 have htl:=hO.tl;have ht:=hO.t;refine⟨hE,hS,hvr,hrc,checkText_of (by rw[hS];exact valid_enc _ hvr) (by rw[hrc];omega),?_⟩;have:=enc_size _ hvr;rw[hS];omega
theorem letters_ok (s:Str)(m:Nat)(hm:m≤4000):checkText (letters s m)=0∧0≤rc (letters s m)∧rc (letters s m)≤m∧(letters s m).size≤m*4:=by
 have h1:=letters_rc s m;exact⟨checkText_of (letters_valid s m) (by omega),by omega,by omega,letters_size s m⟩
theorem check_go (o:Op)(a:Option Addr)(n c:Nat)(w:World)(hg:Good w)(hr:RdS (· <w.heap.size) w o a n c):
 Calls Tryd.prog 44 #[.slice a n c] w fun e w'=>e=.returned (.int .i64 (check o))∧Below w.heap.size w w':=check_any _ o a n c w hg (fun _ h=>h) hr
theorem lengths_go (o:Op)(a:Option Addr)(n c:Nat)(w:World)(hr:RdS (· <w.heap.size) w o a n c)(h:check o=0):
 Calls Tryd.prog 45 #[.slice a n c] w fun e w'=>e=.returned (.tuple #[.int .i64 (sumF o),.int .i64 (sumT o)])∧Below w.heap.size w w':=lengths_any _ o a n c w hr (check_small h)
end Go.Proofs.YtkbfhgcjimfgkaaDoor
set_option linter.unusedSimpArgs false
namespace Go.Proofs.YtkbfhgcjimfgkaaDoor
open Go.RowKit
theorem RdS.nil {α:Type} [Rep α] (A:Nat→Prop)(w:World):RdS (α:=α) A w [] none 0 0:=⟨rfl,Nat.le_refl _,by unfold maxLen;omega,fun _=>rfl,fun h=>absurd h (by omega)⟩
theorem check_nil:check []=0:=rfl
theorem abs_w {P:Program}{c:Code}{K:_}{fr:_}{W0:World}(Q:World→Prop)(hQ:Q W0)(k:∀W,Q W→Code.wp P c K fr W):Code.wp P c K fr W0:=k _ hQ
theorem alloc_sz (w:World)(o:Obj):(w.alloc o).heap.size=w.heap.size+1:=by
 show(w.heap.push o).size=_
 rw[Array.size_push]
end Go.Proofs.YtkbfhgcjimfgkaaDoor
namespace Go.Proofs.YtkbfhgcjimfgkaaDoor
open Go.RowKit
def Blk (b:Nat)(o:Obj)(W:World):Prop:=W.heap[b]?=some o
theorem Blk.lt {b:Nat}{o:Obj}{W:World}(h:Blk b o W):b<W.heap.size:=(Array.getElem?_eq_some_iff.1 h).1
theorem Blk.go {b:Nat}{o:Obj}{W W':World}(h:Blk b o W)(hb:Below W.heap.size W W'):Blk b o W':=(hb.block b h.lt).trans h
theorem Blk.new (W:World)(o:Obj):Blk W.heap.size o (W.alloc o):=heap_alloc_new W o
theorem Blk.at (W:World)(o:Obj)(b:Nat)(h:W.heap.size=b):Blk b o (W.alloc o):=heap_new_at W o b h
theorem Blk.alloc {b:Nat}{o:Obj}{W:World}(h:Blk b o W)(o':Obj):Blk b o (W.alloc o'):=h.go ((Below.refl _ _).alloc (Nat.le_refl _) _)
theorem Blk.cell {b:Nat}{cs:Array Value}{t:Nat}{W:World}(h:Blk b (.cells cs t (0,0)) W)(i:Nat):W.cell? ⟨b,i,none⟩=cs[i]?:=cell_of_row _ _ _ _ _ _ h
theorem Good.go {W W':World}(h:Good W)(hb:Below W.heap.size W W'):Good W':=h.below' hb
theorem up {a b c:World}(h:Below a.heap.size a b)(k:Below b.heap.size b c):Below a.heap.size a c:=h.trans (k.mono h.size)
theorem upper {B:Nat}{a b c:World}(h:Below B a b)(k:Below b.heap.size b c)(hB:B≤b.heap.size):Below B a c:=h.trans (k.mono hB)
theorem abs_run {P:Program}{f:Nat}{vs:Array Value}{F:Ending→World→Prop}{W0:World}(Q:World→Prop)(hQ:Q W0)(k:∀W,Q W→Calls P f vs W F):Calls P f vs W0 F:=k _ hQ
end Go.Proofs.YtkbfhgcjimfgkaaDoor
set_option linter.unusedSimpArgs false
namespace Go.Proofs.YtkbfhgcjimfgkaaDoor
open Go.RowKit
theorem isBad_any (f:Fr)(a:Option Addr)(n c:Nat)(w:World)(hg:Good w)(hr:RdS (· <w.heap.size) w f.op a n c)(hf:f.fits):
 Calls Tryd.prog 91 #[.agg #[.int .i64 f.kind,.int .i64 f.heard,.int .i64 f.epoch,.slice a n c,.string f.text]] w fun e w'=>e=.returned (.bool (f.check !=0))∧Below w.heap.size w w':=by
 have HC:=Lib.hid (fun W (hW:Below w.heap.size w W)=>checkFrame_any (· <W.heap.size) f.kind f.heard f.epoch f.op f.text a n c W (hg.go hW) (fun _ h=>h) (hr.go hW) hf.1 hf.2.1 hf.2.2.1 hf.2.2.2);rw[show checkFrame f.kind f.heard f.epoch f.op f.text=f.check from rfl]at HC;generalize f.check=F at*;clear hr hg hf;obtain⟨k,h,e,o,t⟩:=f;simp only at*;obtain⟨q,hq⟩:∃q,(F !=0)=q:=⟨_,rfl⟩;rw[hq];go_enter Tryd.func91,Tryd.ntmps91;go_wp2_with fail;refine abs_run (fun W=>Below w.heap.size w W) (by(repeat (first|exact Below.refl _ _|assumption|(refine Below.drew ?_)|(refine below_drewN ?_ _)|(refine Below.alloc ?_ (by first|(simp;done)|(simp;omega)|omega) _)|(refine Below.setCell ?_ (by first|(simp;done)|(simp;omega)|omega) _)|(refine Below.trans ?_ (Below.mono (by assumption) (by first|(simp;done)|(simp;omega)|omega)))))) ?_;intro W hW;refine(HC.out W hW).mono ?_;rintro e w2 ⟨rfl,u2⟩;have U2:=Lib.hid (up hW u2);clear hW u2 HC;cases q
 ·go_wp2_with fail
  go_ret
  exact⟨rfl,U2.out⟩
 ·go_wp2_with fail
  go_ret
  exact⟨rfl,U2.out⟩
def frsOk (l:List Fr):Bool:=l.all fun f=>f.check==0
def firstBad:List Fr→Option Nat
 |[]=>none
 |f::l=>if f.check=0 then(firstBad l).map (· +1)else some 0
theorem firstBad_ok:∀l,(firstBad l).isNone=frsOk l
 |[]=>rfl
 |f::l=>by
  unfold firstBad frsOk;by_cases h:f.check=0
  ·rw[if_pos h,List.all_cons,h];have:=firstBad_ok l;unfold frsOk at this;rw[←this];cases firstBad l<;>rfl
  ·rw[if_neg h,List.all_cons];simp[h]
theorem firstBad_drop:∀(l:List Fr)(k:Nat),(∀f∈l.take k,f.check=0)→firstBad l=(firstBad (l.drop k)).map (· +k)
 |l,0,_=>by simp
 |[],k+1,_=>by simp[firstBad]
 |f::l,k+1,h=>by
  have h1:=firstBad_drop l k (fun g hg=>h g (by rw[List.take_succ_cons];exact List.mem_cons_of_mem _ hg));have h0:f.check=0:=h f (by rw[List.take_succ_cons];exact List.mem_cons_self ..);rw[List.drop_succ_cons,show firstBad (f::l)=(firstBad l).map (· +1)from by rw[firstBad,if_pos h0],h1,Option.map_map];congr 1
def badIx (l:List Fr):Int:=match firstBad l with|some i=>i|none=> -1
set_option maxRecDepth 100000 in
set_option maxHeartbeats 2000000 in
theorem indexBad_any (l:List Fr)(a:Option Addr)(n c:Nat)(w:World)(hg:Good w)(hr:RdS (· <w.heap.size) w l a n c):
 Calls Tryd.prog 98 #[.slice a n c,.func (.func 91) #[] #[]] w fun e w'=>e=.returned (.int .i64 (badIx l))∧Below w.heap.size w w':=by
 have hnl:=hr.1;have hnm:n≤maxLen:=Nat.le_trans hr.2.1 hr.2.2.1;unfold maxLen at hnm;obtain⟨R,hR⟩:∃R,R=badIx l:=⟨_,rfl⟩;rw[←hR];have HR:=Lib.hid hR;have Hg:=Lib.hid hg;have Hr:=Lib.hid hr;have Hl:=Lib.hid hnl;clear hR hg hr hnl;go_enter Tryd.func98,Tryd.ntmps98;go_wp2_with fail;go_loopw [8] (fun i wr=>∃k:Nat,k≤n∧i=.int .i64 k∧(∀f∈l.take k,f.check=0)∧Below w.heap.size w wr) (fun i _=>n-(intOf i).toNat)
 case atStart=>exact⟨0,by omega,rfl,by simp,Below.refl _ _⟩
 case round=>
  obtain⟨k,hk,rfl,hok,hb⟩:=hrel;have Hok:=Lib.hid hok;have HB:=Lib.hid hb;clear hok hb;by_cases hlt:k<n
  ·obtain⟨b,off,rfl,hAb,hbs,hcs⟩:=Hr.out.frame (by omega);have hkl:k<l.length:=by have:=Hl.out;omega
   obtain⟨ak,nk,ck,hrk,hfk,d0,d1,d2,d3,d4⟩:=hcs k hkl;have e0:=(HB.out.cell (p:=⟨b,off+k*5,none⟩) hbs).trans d0;have e1:=(HB.out.cell (p:=⟨b,off+k*5+1,none⟩) hbs).trans d1;have e2:=(HB.out.cell (p:=⟨b,off+k*5+1+1,none⟩) hbs).trans d2;have e3:=(HB.out.cell (p:=⟨b,off+k*5+1+1+1,none⟩) hbs).trans d3;have e4:=(HB.out.cell (p:=⟨b,off+k*5+1+1+1+1,none⟩) hbs).trans d4;have HC:=Lib.hid (isBad_any l[k] ak nk ck wr (Hg.out.go HB.out) (hrk.go HB.out) hfk);have Htk:=Lib.hid (take_next l k hkl);have Hdr:=Lib.hid (List.drop_eq_getElem_cons hkl);generalize hfk':l[k]=f at*;clear d0 d1 d2 d3 d4 hrk hcs hfk hfk';obtain⟨fk,fh,fe,fo,ft⟩:=f;simp only at*;by_cases hc:(Fr.mk fk fh fe fo ft).check=0
   ·have hb0:((Fr.mk fk fh fe fo ft).check !=0)=false:=by simpa using hc
    rw[hb0]at HC;have Hc:=Lib.hid hc;clear hc hb0;go_wp2_with fail;refine HC.out.mono ?_;rintro e w2 ⟨rfl,u2⟩;have HB2:=Lib.hid (HB.out.trans (u2.mono HB.out.size));clear u2;go_wp2_with fail;go_roundw
    case rel=>exact⟨k+1,by omega,by go_num,fun f hf=>by
     rw[Htk.out]at hf;rcases List.mem_append.1 hf with hf|hf
     ·exact Hok.out f hf
     ·simp at hf;subst hf;exact Hc.out,HB2.out⟩
    case measure=>simp[intOf];omega
   ·have hb0:((Fr.mk fk fh fe fo ft).check !=0)=true:=by simpa using hc
    rw[hb0]at HC;have hRk:R=(k:Int):=by
     rw[HR.out];unfold badIx;rw[firstBad_drop l k Hok.out,Hdr.out];unfold firstBad;rw[if_neg hc];simp
    subst hRk;clear hc hb0 HR;go_wp2_with fail;refine HC.out.mono ?_;rintro e w2 ⟨rfl,u2⟩;have HB2:=Lib.hid (HB.out.trans (u2.mono HB.out.size));clear u2;go_wp2_with fail
    go_ret
    exact⟨rfl,HB2.out⟩
  ·have hkn:k=n:=by omega
   have hRk:R= -1:=by
    rw[HR.out];unfold badIx;rw[firstBad_drop l k Hok.out,List.drop_of_length_le (by have:=Hl.out;omega)];rfl
   subst hRk;clear HR hkn;go_wp2_with fail
   go_ret
   exact⟨rfl,HB.out⟩
theorem badIx_ok (l:List Fr):(decide (0≤badIx l))=!frsOk l:=by
 rw[←firstBad_ok];unfold badIx;cases firstBad l<;>simp
theorem containsBad_any (l:List Fr)(a:Option Addr)(n c:Nat)(w:World)(hg:Good w)(hr:RdS (· <w.heap.size) w l a n c):
 Calls Tryd.prog 90 #[.slice a n c,.func (.func 91) #[] #[]] w fun e w'=>e=.returned (.bool (!frsOk l))∧Below w.heap.size w w':=by
 have HC:=Lib.hid (indexBad_any l a n c w hg hr);have hb:=badIx_ok l;generalize badIx l=z at*;generalize (!frsOk l)=q at*;clear hg hr;cases q
 ·go_enter Tryd.func90,Tryd.ntmps90;go_wp2_with fail;refine HC.out.mono ?_;rintro e w2 ⟨rfl,u2⟩;have U2:=Lib.hid u2;clear u2;go_wp2_with fail
  go_ret
  exact⟨rfl,U2.out⟩
 ·go_enter Tryd.func90,Tryd.ntmps90;go_wp2_with fail;refine HC.out.mono ?_;rintro e w2 ⟨rfl,u2⟩;have U2:=Lib.hid u2;clear u2;go_wp2_with fail
  go_ret
  exact⟨rfl,U2.out⟩
theorem frames_any (l:List Fr)(a:Option Addr)(n c:Nat)(w:World)(hg:Good w)(hr:RdS (· <w.heap.size) w l a n c):
 Calls Tryd.prog 73 #[.slice a n c] w fun e w'=>e=.returned (.bool (frsOk l))∧Below w.heap.size w w':=by
 have HC:=Lib.hid (containsBad_any l a n c w hg hr);generalize frsOk l=q at*;clear hg hr;cases q
 ·go_enter Tryd.func73,Tryd.ntmps73;go_wp2_with fail;refine HC.out.mono ?_;rintro e w2 ⟨rfl,u2⟩;have U2:=Lib.hid u2;clear u2;go_wp2_with fail
  go_ret
  exact⟨rfl,U2.out⟩
 ·go_enter Tryd.func73,Tryd.ntmps73;go_wp2_with fail;refine HC.out.mono ?_;rintro e w2 ⟨rfl,u2⟩;have U2:=Lib.hid u2;clear u2;go_wp2_with fail
  go_ret
  exact⟨rfl,U2.out⟩
def Lk.odd1 (l:Lk):Prop:=l.epoch<0∨1048576<l.epoch∨l.next<1∨1048576<l.next∨l.heard<0∨1048576<l.heard
instance (l:Lk):Decidable l.odd1:=by unfold Lk.odd1;infer_instance
def Lk.odd2 (l:Lk):Prop:=8<l.sent.length∨l.next≤(l.sent.length:Int)∨(0<l.queue.length∧l.sent.length<8)∨frsOk l.sent=false∨frsOk l.queue=false
instance (l:Lk):Decidable l.odd2:=by unfold Lk.odd2;infer_instance
def Lk.check (l:Lk):Int:=if l.odd1 then 9 else if l.odd2 then 9 else if l.epoch=0∧0<(l.sent.length:Int)+l.heard then 9 else 0
def Lk.fits (l:Lk):Prop:=I64 l.epoch∧I64 l.next∧I64 l.heard
def lkV (l:Lk)(s q:Value):Value:=.agg #[.int .i64 l.epoch,.int .i64 l.next,s,q,.int .i64 l.heard]
theorem lk_odd1 (l:Lk)(a b:Option Addr)(n c m d:Nat)(w:World)(hf:l.fits)(ho:l.odd1):
 Calls Tryd.prog 54 #[lkV l (.slice a n c) (.slice b m d)] w fun e w'=>e=.returned (.int .i64 9)∧Below w.heap.size w w':=by
 unfold lkV;obtain⟨h1,h2,h3⟩:=hf;unfold I64 at h1 h2 h3;unfold Lk.odd1 at ho;obtain⟨ep,nx,se,qu,he⟩:=l;simp only at*;by_cases k1:ep<0
 ·clear ho;go_enter Tryd.func54,Tryd.ntmps54;go_wp2_with fail
  go_ret
  exact⟨rfl,by(repeat (first|exact Below.refl _ _|assumption|(refine Below.drew ?_)|(refine below_drewN ?_ _)|(refine Below.alloc ?_ (by first|(simp;done)|(simp;omega)|omega) _)|(refine Below.setCell ?_ (by first|(simp;done)|(simp;omega)|omega) _)|(refine Below.trans ?_ (Below.mono (by assumption) (by first|(simp;done)|(simp;omega)|omega)))))⟩
 by_cases k2:1048576<ep
 ·clear ho;go_enter Tryd.func54,Tryd.ntmps54;go_wp2_with fail
  go_ret
  exact⟨rfl,by(repeat (first|exact Below.refl _ _|assumption|(refine Below.drew ?_)|(refine below_drewN ?_ _)|(refine Below.alloc ?_ (by first|(simp;done)|(simp;omega)|omega) _)|(refine Below.setCell ?_ (by first|(simp;done)|(simp;omega)|omega) _)|(refine Below.trans ?_ (Below.mono (by assumption) (by first|(simp;done)|(simp;omega)|omega)))))⟩
 by_cases k3:nx<1
 ·clear ho;go_enter Tryd.func54,Tryd.ntmps54;go_wp2_with fail
  go_ret
  exact⟨rfl,by(repeat (first|exact Below.refl _ _|assumption|(refine Below.drew ?_)|(refine below_drewN ?_ _)|(refine Below.alloc ?_ (by first|(simp;done)|(simp;omega)|omega) _)|(refine Below.setCell ?_ (by first|(simp;done)|(simp;omega)|omega) _)|(refine Below.trans ?_ (Below.mono (by assumption) (by first|(simp;done)|(simp;omega)|omega)))))⟩
 by_cases k4:1048576<nx
 ·clear ho;go_enter Tryd.func54,Tryd.ntmps54;go_wp2_with fail
  go_ret
  exact⟨rfl,by(repeat (first|exact Below.refl _ _|assumption|(refine Below.drew ?_)|(refine below_drewN ?_ _)|(refine Below.alloc ?_ (by first|(simp;done)|(simp;omega)|omega) _)|(refine Below.setCell ?_ (by first|(simp;done)|(simp;omega)|omega) _)|(refine Below.trans ?_ (Below.mono (by assumption) (by first|(simp;done)|(simp;omega)|omega)))))⟩
 by_cases k5:he<0
 ·clear ho;go_enter Tryd.func54,Tryd.ntmps54;go_wp2_with fail
  go_ret
  exact⟨rfl,by(repeat (first|exact Below.refl _ _|assumption|(refine Below.drew ?_)|(refine below_drewN ?_ _)|(refine Below.alloc ?_ (by first|(simp;done)|(simp;omega)|omega) _)|(refine Below.setCell ?_ (by first|(simp;done)|(simp;omega)|omega) _)|(refine Below.trans ?_ (Below.mono (by assumption) (by first|(simp;done)|(simp;omega)|omega)))))⟩
 ·have k6:1048576<he:=by omega
  clear ho;go_enter Tryd.func54,Tryd.ntmps54;go_wp2_with fail
  go_ret
  exact⟨rfl,by(repeat (first|exact Below.refl _ _|assumption|(refine Below.drew ?_)|(refine below_drewN ?_ _)|(refine Below.alloc ?_ (by first|(simp;done)|(simp;omega)|omega) _)|(refine Below.setCell ?_ (by first|(simp;done)|(simp;omega)|omega) _)|(refine Below.trans ?_ (Below.mono (by assumption) (by first|(simp;done)|(simp;omega)|omega)))))⟩
set_option maxRecDepth 100000 in
set_option maxHeartbeats 2000000 in
theorem lk_odd2 (l:Lk)(a b:Option Addr)(n c m d:Nat)(w:World)(hg:Good w)(hr:RdS (· <w.heap.size) w l.sent a n c)(hq:RdS (· <w.heap.size) w l.queue b m d)(hf:l.fits)(h1:¬l.odd1)(ho:l.odd2):
 Calls Tryd.prog 54 #[lkV l (.slice a n c) (.slice b m d)] w fun e w'=>e=.returned (.int .i64 9)∧Below w.heap.size w w':=by
 unfold lkV;have HS:=Lib.hid (fun W (hW:Below w.heap.size w W)=>frames_any l.sent a n c W (hg.go hW) (hr.go hW));have HQ:=Lib.hid (fun W (hW:Below w.heap.size w W)=>frames_any l.queue b m d W (hg.go hW) (hq.go hW));have hn:=hr.1;have hm:=hq.1;have hn2:n≤maxLen:=Nat.le_trans hr.2.1 hr.2.2.1;have hm2:m≤maxLen:=Nat.le_trans hq.2.1 hq.2.2.1;unfold maxLen at hn2 hm2;unfold Lk.odd1 at h1;unfold Lk.odd2 at ho;rw[←hn,←hm]at ho;obtain⟨ep,nx,se,qu,he⟩:=l;simp only at*;generalize frsOk se=bs at*;generalize frsOk qu=bq at*;have k1:0≤ep:=by omega
 have k2:ep≤1048576:=by omega
 have k3:1≤nx:=by omega
 have k4:nx≤1048576:=by omega
 have k5:0≤he:=by omega
 have k6:he≤1048576:=by omega
 clear hf h1 hg hr hq hn hm;by_cases j1:8<n
 ·have d1:decide ((8:Int)<(n:Int))=true:=by simp;omega
  clear ho;go_enter Tryd.func54,Tryd.ntmps54;go_wp2_with fail
  go_ret
  exact⟨rfl,by(repeat (first|exact Below.refl _ _|assumption|(refine Below.drew ?_)|(refine below_drewN ?_ _)|(refine Below.alloc ?_ (by first|(simp;done)|(simp;omega)|omega) _)|(refine Below.setCell ?_ (by first|(simp;done)|(simp;omega)|omega) _)|(refine Below.trans ?_ (Below.mono (by assumption) (by first|(simp;done)|(simp;omega)|omega)))))⟩
 have d1:decide ((8:Int)<(n:Int))=false:=by simp;omega
 by_cases j2:nx≤(n:Int)
 ·clear ho;go_enter Tryd.func54,Tryd.ntmps54;go_wp2_with fail
  go_ret
  exact⟨rfl,by(repeat (first|exact Below.refl _ _|assumption|(refine Below.drew ?_)|(refine below_drewN ?_ _)|(refine Below.alloc ?_ (by first|(simp;done)|(simp;omega)|omega) _)|(refine Below.setCell ?_ (by first|(simp;done)|(simp;omega)|omega) _)|(refine Below.trans ?_ (Below.mono (by assumption) (by first|(simp;done)|(simp;omega)|omega)))))⟩
 by_cases j3:0<m
 ·have d3:decide ((0:Int)<(m:Int))=true:=by simp;omega
  by_cases j4:n<8
  ·have d4:decide ((n:Int)<8)=true:=by simp;omega
   clear ho;go_enter Tryd.func54,Tryd.ntmps54;go_wp2_with fail
   go_ret
   exact⟨rfl,by(repeat (first|exact Below.refl _ _|assumption|(refine Below.drew ?_)|(refine below_drewN ?_ _)|(refine Below.alloc ?_ (by first|(simp;done)|(simp;omega)|omega) _)|(refine Below.setCell ?_ (by first|(simp;done)|(simp;omega)|omega) _)|(refine Below.trans ?_ (Below.mono (by assumption) (by first|(simp;done)|(simp;omega)|omega)))))⟩
  ·have d4:decide ((n:Int)<8)=false:=by simp;omega
   have ho2:bs=false∨bq=false:=by
    rcases ho with h|h|h|h|h
    ·omega
    ·omega
    ·omega
    ·exact .inl h
    ·exact .inr h
   clear ho;cases bs with
   |false=>
    clear ho2;go_enter Tryd.func54,Tryd.ntmps54;go_wp2_with fail;refine(HS.out _ ((Below.refl _ _).alloc (Nat.le_refl _) _)).mono ?_;rintro e w2 ⟨rfl,u2⟩;have U2:=Lib.hid (up ((Below.refl _ _).alloc (Nat.le_refl _) _) u2);clear u2 HS HQ;go_wp2_with fail
    go_ret
    exact⟨rfl,U2.out⟩
   |true=>
    have hbq:bq=false:=by simpa using ho2
    subst hbq;clear ho2;go_enter Tryd.func54,Tryd.ntmps54;go_wp2_with fail;refine(HS.out _ ((Below.refl _ _).alloc (Nat.le_refl _) _)).mono ?_;rintro e w2 ⟨rfl,u2⟩;have x2:=(Blk.new w _).go u2;have c3:w2.cell? ⟨w.heap.size,3,none⟩=some (.slice b m d):=x2.cell 3;have U2:=Lib.hid (up ((Below.refl _ _).alloc (Nat.le_refl _) _) u2);clear u2 HS x2;go_wp2_with fail;refine(HQ.out _ U2.out).mono ?_;rintro e w3 ⟨rfl,u3⟩;have U3:=Lib.hid (up U2.out u3);clear u3 HQ;go_wp2_with fail
    go_ret
    exact⟨rfl,U3.out⟩
 ·have hm0:m=0:=by omega
  subst hm0;have ho2:bs=false∨bq=false:=by
   rcases ho with h|h|h|h|h
   ·omega
   ·omega
   ·omega
   ·exact .inl h
   ·exact .inr h
  clear ho j3;cases bs with
  |false=>
   clear ho2;go_enter Tryd.func54,Tryd.ntmps54;go_wp2_with fail;refine(HS.out _ ((Below.refl _ _).alloc (Nat.le_refl _) _)).mono ?_;rintro e w2 ⟨rfl,u2⟩;have U2:=Lib.hid (up ((Below.refl _ _).alloc (Nat.le_refl _) _) u2);clear u2 HS HQ;go_wp2_with fail
   go_ret
   exact⟨rfl,U2.out⟩
  |true=>
   have hbq:bq=false:=by simpa using ho2
   subst hbq;clear ho2;go_enter Tryd.func54,Tryd.ntmps54;go_wp2_with fail;refine(HS.out _ ((Below.refl _ _).alloc (Nat.le_refl _) _)).mono ?_;rintro e w2 ⟨rfl,u2⟩;have x2:=(Blk.new w _).go u2;have c3:w2.cell? ⟨w.heap.size,3,none⟩=some (.slice b 0 d):=x2.cell 3;have U2:=Lib.hid (up ((Below.refl _ _).alloc (Nat.le_refl _) _) u2);clear u2 HS x2;go_wp2_with fail;refine(HQ.out _ U2.out).mono ?_;rintro e w3 ⟨rfl,u3⟩;have U3:=Lib.hid (up U2.out u3);clear u3 HQ;go_wp2_with fail
   go_ret
   exact⟨rfl,U3.out⟩
end Go.Proofs.YtkbfhgcjimfgkaaDoor
set_option linter.unusedSimpArgs false
namespace Go.Proofs.YtkbfhgcjimfgkaaDoor
open Go.RowKit
set_option maxRecDepth 100000 in
set_option maxHeartbeats 2000000 in
theorem lk_end (l:Lk)(a b:Option Addr)(n c m d:Nat)(w:World)(hg:Good w)(hr:RdS (· <w.heap.size) w l.sent a n c)(hq:RdS (· <w.heap.size) w l.queue b m d)(hf:l.fits)(h1:¬l.odd1)(ho:¬l.odd2):
 Calls Tryd.prog 54 #[lkV l (.slice a n c) (.slice b m d)] w fun e w'=>e=.returned (.int .i64 l.check)∧Below w.heap.size w w':=by
 unfold lkV;have HS:=Lib.hid (fun W (hW:Below w.heap.size w W)=>frames_any l.sent a n c W (hg.go hW) (hr.go hW));have HQ:=Lib.hid (fun W (hW:Below w.heap.size w W)=>frames_any l.queue b m d W (hg.go hW) (hq.go hW));have hn:=hr.1;have hm:=hq.1;have hn2:n≤maxLen:=Nat.le_trans hr.2.1 hr.2.2.1;have hm2:m≤maxLen:=Nat.le_trans hq.2.1 hq.2.2.1;unfold maxLen at hn2 hm2;obtain⟨R,hR⟩:∃R,R=l.check:=⟨_,rfl⟩;rw[←hR];unfold Lk.check at hR;rw[if_neg h1,if_neg ho,←hn]at hR;unfold Lk.odd1 at h1;unfold Lk.odd2 at ho;rw[←hn,←hm]at ho;obtain⟨ep,nx,se,qu,he⟩:=l;simp only at*;have hbs:frsOk se=true:=by
  cases hh:frsOk se with
  |true=>rfl
  |false=>exact absurd (.inr (.inr (.inr (.inl hh)))) ho
 have hbq:frsOk qu=true:=by
  cases hh:frsOk qu with
  |true=>rfl
  |false=>exact absurd (.inr (.inr (.inr (.inr hh)))) ho
 rw[hbs]at HS;rw[hbq]at HQ;have k1:0≤ep:=by omega
 have k2:ep≤1048576:=by omega
 have k3:1≤nx:=by omega
 have k4:nx≤1048576:=by omega
 have k5:0≤he:=by omega
 have k6:he≤1048576:=by omega
 have j1:n≤8:=by omega
 have d1:decide ((8:Int)<(n:Int))=false:=by simp;omega
 have j2:(n:Int)<nx:=by omega
 have HR:=Lib.hid hR;clear hf h1 hg hr hq hn hm hbs hbq hR;by_cases j3:0<m
 ·have d3:decide ((0:Int)<(m:Int))=true:=by simp;omega
  have d4:decide ((n:Int)<8)=false:=by simp;omega
  have hn8:n=8:=by omega
  clear ho;have hsum:decide (0<(n:Int)+he)=true:=by simp;omega
  by_cases he0:ep=0
  ·have b0:(ep==0)=true:=by simpa using he0
   have hR2:R=9:=HR.out.trans (if_pos ⟨he0,by omega⟩);subst hR2;clear HR he0 hn8;go_enter Tryd.func54,Tryd.ntmps54;go_wp2_with fail;refine(HS.out _ ((Below.refl _ _).alloc (Nat.le_refl _) _)).mono ?_;rintro e w2 ⟨rfl,u2⟩;have x2:=Lib.hid ((Blk.new w _).go u2);have c3:w2.cell? ⟨w.heap.size,3,none⟩=some (.slice b m d):=x2.out.cell 3;have U2:=Lib.hid (up ((Below.refl _ _).alloc (Nat.le_refl _) _) u2);clear u2 HS;go_wp2_with fail;refine(HQ.out _ U2.out).mono ?_;rintro e w3 ⟨rfl,u3⟩;have x3:=x2.out.go u3;have e0:w3.cell? ⟨w.heap.size,0,none⟩=some (.int .i64 ep):=x3.cell 0;have e2:w3.cell? ⟨w.heap.size,2,none⟩=some (.slice a n c):=x3.cell 2;have e4:w3.cell? ⟨w.heap.size,4,none⟩=some (.int .i64 he):=x3.cell 4;have U3:=Lib.hid (up U2.out u3);clear u3 HQ x2 x3 c3;go_wp2_with fail
   go_ret
   exact⟨rfl,U3.out⟩
  ·have b0:(ep==0)=false:=by simpa using he0
   have hR2:R=0:=HR.out.trans (if_neg (fun h=>he0 h.1));subst hR2;clear HR he0 hn8;go_enter Tryd.func54,Tryd.ntmps54;go_wp2_with fail;refine(HS.out _ ((Below.refl _ _).alloc (Nat.le_refl _) _)).mono ?_;rintro e w2 ⟨rfl,u2⟩;have x2:=Lib.hid ((Blk.new w _).go u2);have c3:w2.cell? ⟨w.heap.size,3,none⟩=some (.slice b m d):=x2.out.cell 3;have U2:=Lib.hid (up ((Below.refl _ _).alloc (Nat.le_refl _) _) u2);clear u2 HS;go_wp2_with fail;refine(HQ.out _ U2.out).mono ?_;rintro e w3 ⟨rfl,u3⟩;have x3:=x2.out.go u3;have e0:w3.cell? ⟨w.heap.size,0,none⟩=some (.int .i64 ep):=x3.cell 0;have U3:=Lib.hid (up U2.out u3);clear u3 HQ x2 x3 c3;go_wp2_with fail
   go_ret
   exact⟨rfl,U3.out⟩
 ·have hm0:m=0:=by omega
  subst hm0;clear ho j3;by_cases he0:ep=0
  ·have b0:(ep==0)=true:=by simpa using he0
   by_cases hs0:0<(n:Int)+he
   ·have hsum:decide (0<(n:Int)+he)=true:=by simpa using hs0
    have hR2:R=9:=HR.out.trans (if_pos ⟨he0,hs0⟩);subst hR2;clear HR he0;go_enter Tryd.func54,Tryd.ntmps54;go_wp2_with fail;refine(HS.out _ ((Below.refl _ _).alloc (Nat.le_refl _) _)).mono ?_;rintro e w2 ⟨rfl,u2⟩;have x2:=Lib.hid ((Blk.new w _).go u2);have c3:w2.cell? ⟨w.heap.size,3,none⟩=some (.slice b 0 d):=x2.out.cell 3;have U2:=Lib.hid (up ((Below.refl _ _).alloc (Nat.le_refl _) _) u2);clear u2 HS;go_wp2_with fail;refine(HQ.out _ U2.out).mono ?_;rintro e w3 ⟨rfl,u3⟩;have x3:=x2.out.go u3;have e0:w3.cell? ⟨w.heap.size,0,none⟩=some (.int .i64 ep):=x3.cell 0;have e2:w3.cell? ⟨w.heap.size,2,none⟩=some (.slice a n c):=x3.cell 2;have e4:w3.cell? ⟨w.heap.size,4,none⟩=some (.int .i64 he):=x3.cell 4;have U3:=Lib.hid (up U2.out u3);clear u3 HQ x2 x3 c3;go_wp2_with fail
    go_ret
    exact⟨rfl,U3.out⟩
   ·have hR2:R=0:=HR.out.trans (if_neg (fun h=>hs0 h.2));obtain rfl:n=0:=by omega
    obtain rfl:he=0:=by omega
    subst hR2;clear HR he0 hs0;go_enter Tryd.func54,Tryd.ntmps54;go_wp2_with fail;refine(HS.out _ ((Below.refl _ _).alloc (Nat.le_refl _) _)).mono ?_;rintro e w2 ⟨rfl,u2⟩;have x2:=Lib.hid ((Blk.new w _).go u2);have c3:w2.cell? ⟨w.heap.size,3,none⟩=some (.slice b 0 d):=x2.out.cell 3;have U2:=Lib.hid (up ((Below.refl _ _).alloc (Nat.le_refl _) _) u2);clear u2 HS;go_wp2_with fail;refine(HQ.out _ U2.out).mono ?_;rintro e w3 ⟨rfl,u3⟩;have x3:=x2.out.go u3;have e0:w3.cell? ⟨w.heap.size,0,none⟩=some (.int .i64 ep):=x3.cell 0;have e2:w3.cell? ⟨w.heap.size,2,none⟩=some (.slice a 0 c):=x3.cell 2;have e4:w3.cell? ⟨w.heap.size,4,none⟩=some (.int .i64 0):=x3.cell 4;have U3:=Lib.hid (up U2.out u3);clear u3 HQ x2 x3 c3;go_wp2_with fail
    go_ret
    exact⟨rfl,U3.out⟩
  ·have b0:(ep==0)=false:=by simpa using he0
   have hR2:R=0:=HR.out.trans (if_neg (fun h=>he0 h.1));subst hR2;clear HR he0;go_enter Tryd.func54,Tryd.ntmps54;go_wp2_with fail;refine(HS.out _ ((Below.refl _ _).alloc (Nat.le_refl _) _)).mono ?_;rintro e w2 ⟨rfl,u2⟩;have x2:=Lib.hid ((Blk.new w _).go u2);have c3:w2.cell? ⟨w.heap.size,3,none⟩=some (.slice b 0 d):=x2.out.cell 3;have U2:=Lib.hid (up ((Below.refl _ _).alloc (Nat.le_refl _) _) u2);clear u2 HS;go_wp2_with fail;refine(HQ.out _ U2.out).mono ?_;rintro e w3 ⟨rfl,u3⟩;have x3:=x2.out.go u3;have e0:w3.cell? ⟨w.heap.size,0,none⟩=some (.int .i64 ep):=x3.cell 0;have U3:=Lib.hid (up U2.out u3);clear u3 HQ x2 x3 c3;go_wp2_with fail
   go_ret
   exact⟨rfl,U3.out⟩
theorem lkCheck_any (l:Lk)(a b:Option Addr)(n c m d:Nat)(w:World)(hg:Good w)(hr:RdS (· <w.heap.size) w l.sent a n c)(hq:RdS (· <w.heap.size) w l.queue b m d)(hf:l.fits):
 Calls Tryd.prog 54 #[lkV l (.slice a n c) (.slice b m d)] w fun e w'=>e=.returned (.int .i64 l.check)∧Below w.heap.size w w':=by
 by_cases h1:l.odd1
 ·have:l.check=9:=if_pos h1;rw[this];exact lk_odd1 l a b n c m d w hf h1
 ·by_cases h2:l.odd2
  ·have:l.check=9:=by unfold Lk.check;rw[if_neg h1,if_pos h2]
   rw[this];exact lk_odd2 l a b n c m d w hg hr hq hf h1 h2
  ·exact lk_end l a b n c m d w hg hr hq hf h1 h2
theorem lk_zero {l:Lk}(h:l.check=0):0≤l.epoch∧l.epoch≤1048576∧1≤l.next∧l.next≤1048576∧0≤l.heard∧l.heard≤1048576∧l.sent.length≤8∧(l.sent.length:Int)<l.next∧(0<l.queue.length→l.sent.length=8)∧
 frsOk l.sent=true∧frsOk l.queue=true∧(l.epoch=0→l.sent=[]∧l.heard=0):=by
 unfold Lk.check at h;by_cases h1:l.odd1
 ·rw[if_pos h1]at h;exact absurd h (by decide)
 ·rw[if_neg h1]at h;by_cases h2:l.odd2
  ·rw[if_pos h2]at h;exact absurd h (by decide)
  ·rw[if_neg h2]at h;by_cases h3:l.epoch=0∧0<(l.sent.length:Int)+l.heard
   ·rw[if_pos h3]at h;exact absurd h (by decide)
   ·unfold Lk.odd1 at h1;unfold Lk.odd2 at h2;have hbs:frsOk l.sent=true:=by
     cases hh:frsOk l.sent with
     |true=>rfl
     |false=>exact absurd (.inr (.inr (.inr (.inl hh)))) h2
    have hbq:frsOk l.queue=true:=by
     cases hh:frsOk l.queue with
     |true=>rfl
     |false=>exact absurd (.inr (.inr (.inr (.inr hh)))) h2
    exact⟨by omega,by omega,by omega,by omega,by omega,by omega,by omega,by omega,fun hq=>by omega,hbs,hbq,fun he=>⟨List.eq_nil_of_length_eq_zero (by omega),by omega⟩⟩
theorem lk_make {l:Lk}(h1:0≤l.epoch)(h2:l.epoch≤1048576)(h3:1≤l.next)(h4:l.next≤1048576)(h5:0≤l.heard)(h6:l.heard≤1048576)(h7:l.sent.length≤8)(h8:(l.sent.length:Int)<l.next)(h9:0<l.queue.length→l.sent.length=8)
 (h10:frsOk l.sent=true) (h11:frsOk l.queue=true) (h12:l.epoch=0→l.sent=[]∧l.heard=0):l.check=0:=by
 unfold Lk.check;rw[if_neg (by unfold Lk.odd1;omega),if_neg,if_neg]
 ·rintro⟨he,hs⟩;obtain⟨h13,h14⟩:=h12 he;rw[h13,h14]at hs;simp at hs
 ·unfold Lk.odd2;rw[h10,h11];simp;omega
end Go.Proofs.YtkbfhgcjimfgkaaDoor
namespace Go.Proofs.YtkbfhgcjimfgkaaDoor
open Go.RowKit
section
variable {P:Program} {ops:Array Oper}
def dstOf (ops:Array Oper)(i:Nat):Option Tmp:=(ops[i]?).bind (·.dst)
def gets (ops:Array Oper)(x:Nat→Value):Act→List Nat→Act
 |a,[]=>a
 |a,j::r=>gets ops x (a.put (dstOf ops j) (x j)) r
theorem put_size (a:Act)(d:Option Tmp)(v:Value):(a.put d v).tmps.size=a.tmps.size:=by cases d<;>simp[Act.put]
theorem put_defers (a:Act)(d:Option Tmp)(v:Value):(a.put d v).defers=a.defers:=by cases d<;>rfl
theorem gets_size (x:Nat→Value):∀(l:List Nat)(a:Act),(gets ops x a l).tmps.size=a.tmps.size
 |[],_=>rfl
 |j::r,a=>by rw[gets,gets_size x r,put_size]
theorem gets_defers (x:Nat→Value):∀(l:List Nat)(a:Act),(gets ops x a l).defers=a.defers
 |[],_=>rfl
 |j::r,a=>by rw[gets,gets_defers x r,put_defers]
theorem gets_other (x:Nat→Value)(d:Tmp):∀(l:List Nat)(a:Act),(∀j∈l,dstOf ops j≠some d)→(gets ops x a l).tmps[d]?=a.tmps[d]?
 |[],_,_=>rfl
 |j::r,a,h=>by
  rw[gets,gets_other x d r _ (fun k hk=>h k (List.mem_cons_of_mem _ hk))];have hj:=h j (List.mem_cons_self ..);cases he:dstOf ops j with
  |none=>rfl
  |some e=>
   have hne:e≠d:=fun h'=>hj (by rw[he,h']);simp[Act.put,Array.getElem?_setIfInBounds_ne hne]
theorem gets_at (x:Nat→Value)(d:Tmp)(i:Nat)(hi:dstOf ops i=some d):∀(l:List Nat)(a:Act),i∈l→(∀j∈l,dstOf ops j=some d→j=i)→(gets ops x a l).tmps[d]?=if d<a.tmps.size then some (x i)else none
 |[],_,h,_=>by cases h
 |j::r,a,h,hu=>by
  rw[gets];by_cases hr:i∈r
  ·rw[gets_at x d i hi r _ hr (fun k hk=>hu k (List.mem_cons_of_mem _ hk)),put_size]
  ·have hji:j=i:=by
    rcases List.mem_cons.1 h with h|h
    ·exact h.symm
    ·exact absurd h hr
   subst hji;rw[gets_other x d r _ (fun k hk he=>hr (hu k (List.mem_cons_of_mem _ hk) he▸hk)),hi];simp only[Act.put,Array.getElem?_setIfInBounds];by_cases hd:d<a.tmps.size<;>simp[hd]
theorem act_ext {a b:Act}(h1:a.defers=b.defers)(h2:a.tmps.size=b.tmps.size)(h3:∀d:Nat,a.tmps[d]?=b.tmps[d]?):a=b:=by
 cases a;cases b;simp only at h1 h2 h3;subst h1;congr;apply Array.ext_getElem?;exact h3
def later (ops:Array Oper)(i j:Nat):Bool:=decide (i<j)&&match dstOf ops i,ops[j]? with
 |some e,some o=>(o.looksAt ops).contains e
 |_,_=>false
def looks (ops:Array Oper)(i:Nat):List Nat:=
 match ops[i]? with
 |none=>[]
 |some o=>(List.range ops.size).filter fun j=>match dstOf ops j with
  |none=>false
  |some d=>(o.looksAt ops).contains d&&!later ops i j
def ancT (ops:Array Oper):List (List Nat):=
 (List.range ops.size).foldl (fun T i=>T++[(List.range ops.size).filter fun j=>(looks ops i).any fun k=>k==j||(T.getD k []).contains j]) []
def anc (ops:Array Oper)(i:Nat):List Nat:=(ancT ops).getD i []
def regionOk (ops:Array Oper):Bool:=
 let A:=ancT ops
 ((List.range ops.size).all fun i=>(List.range ops.size).all fun j=>i==j||(match dstOf ops i,dstOf ops j with|some d,some e=>d !=e|_,_=>true))&&
 ((List.range ops.size).all fun i=>match ops[i]? with
  |none=>true
  |some o=>(looks ops i).all (fun j=>o.after.any (fun e=>Region.binds .any e&&e.on==j))&&
   (A.getD i []).all (fun j=>(looks ops i).any fun k=>k==j||(A.getD k []).contains j)&&(looks ops i).all (fun j=>(A.getD i []).contains j)&&o.after.all (fun e=>!Region.binds .any e||decide (e.on<i)))&&
 Region.noSelect ops
def StepPost (Inv:World→Prop)(V:Nat→Value→World→Prop)(Ext:World→World→Prop)(i:Nat)(aD:Act)(d:Option Tmp)(w:World):Exit→Act→World→Prop:=
 fun ex a' w'=>ex=.normal∧∃v,a'=aD.put d v∧Inv w'∧Ext w w'∧V i v w'
def selL (n:Nat)(listed:Array Bool):List Nat:=(List.range n).filter fun i=>listed.getD i false
structure Facts (ops:Array Oper):Prop where
 inj:∀i j d,i<ops.size→j<ops.size→dstOf ops i=some d→dstOf ops j=some d→i=j
 dep:∀(i:Nat)(o:Oper)(j:Nat),ops[i]?=some o→j∈looks ops i→(∃e∈o.after,Region.binds .any e=true∧e.on=j)∧j∈anc ops i
 clo:∀(i:Nat)(o:Oper)(j:Nat),ops[i]?=some o→j∈anc ops i→j∈looks ops i∨∃k∈looks ops i,j∈anc ops k
 sel:Region.noSelect ops=true
 ord:∀(i:Nat)(o:Oper),ops[i]?=some o→∀e∈o.after,Region.binds .any e=true→e.on<i
theorem facts_of (h:regionOk ops=true):Facts ops:=by
 simp only[regionOk,Bool.and_eq_true,List.all_eq_true,List.mem_range]at h;obtain⟨⟨h1,h2⟩,h3⟩:=h;refine⟨fun i j d hi hj hdi hdj=>?_,fun i o j ho hj=>?_,fun i o j ho hj=>?_,h3,fun i o ho e he hbe=>?_⟩
 ·have:=h1 i hi j hj;rw[hdi,hdj]at this;simpa using this
 ·have hi:i<ops.size:=(Array.getElem?_eq_some_iff.1 ho).1;have:=h2 i hi;rw[ho]at this;simp only[Bool.and_eq_true,List.all_eq_true]at this;obtain⟨⟨⟨ha,_⟩,hc⟩,_⟩:=this;have h4:=ha j hj;rw[Array.any_eq_true]at h4;obtain⟨k,hk,h5⟩:=h4;simp only[Bool.and_eq_true,beq_iff_eq]at h5;exact⟨⟨_,Array.getElem_mem hk,h5.1,h5.2⟩,by have:=hc j hj;simpa[anc]using this⟩
 ·have hi:i<ops.size:=(Array.getElem?_eq_some_iff.1 ho).1;have:=h2 i hi;rw[ho]at this;simp only[Bool.and_eq_true,List.all_eq_true]at this;obtain⟨⟨⟨_,hb⟩,_⟩,_⟩:=this;have h4:=hb j hj;rw[List.any_eq_true]at h4;obtain⟨k,hk,h5⟩:=h4;simp only[Bool.or_eq_true,beq_iff_eq]at h5;rcases h5 with rfl|h5
  ·exact .inl hk
  ·exact .inr ⟨k,hk,by simpa[anc]using h5⟩
 ·have hi:i<ops.size:=(Array.getElem?_eq_some_iff.1 ho).1;have:=h2 i hi;rw[ho]at this;simp only[Bool.and_eq_true,Array.all_eq_true_iff_forall_mem,Bool.or_eq_true,decide_eq_true_eq]at this;rcases this.2 e he with h|h
  ·rw[hbe]at h;cases h
  ·exact h
theorem mem_looks {i j:Nat}{o:Oper}{d:Tmp}(ho:ops[i]?=some o)(hj:j<ops.size)(hd:dstOf ops j=some d)(hl:d∈o.looksAt ops)(hn:later ops i j=false):j∈looks ops i:=by
 simp only[looks,ho,List.mem_filter,List.mem_range];exact⟨hj,by rw[hd];simp only[hn,Bool.not_false,Bool.and_true];simpa using hl⟩
theorem dst_lt {j:Nat}{d:Tmp}(h:dstOf ops j=some d):j<ops.size:=by
 unfold dstOf at h;cases ho:ops[j]? with
 |none=>rw[ho]at h;cases h
 |some o=>exact(Array.getElem?_eq_some_iff.1 ho).1
theorem later_looks {i j:Nat}(h:later ops i j=true):i∈looks ops j∧∃o,ops[j]?=some o:=by
 unfold later at h;simp only[Bool.and_eq_true,decide_eq_true_eq]at h;obtain⟨hij,h⟩:=h;cases hd:dstOf ops i with
 |none=>rw[hd]at h;simp at h
 |some e=>
  cases ho:ops[j]? with
  |none=>rw[hd,ho]at h;simp at h
  |some o=>
   rw[hd,ho]at h;refine⟨mem_looks ho (dst_lt hd) hd (by simpa using h) ?_,o,rfl⟩;unfold later;rw[decide_eq_false (by omega)];rfl
theorem same_looks (F:Facts ops){i:Nat}{o:Oper}(ho:ops[i]?=some o)(x:Nat→Value)(a0:Act)(L:List Nat)(hL:∀j∈anc ops i,j∈L)(hlt:∀j∈L,j<ops.size)(hA:∀j∈anc ops i,j<ops.size)(hno:∀j∈L,i∉anc ops j):
 (∀d∈o.looksAt ops,(gets ops x a0 L).tmps[d]?=(gets ops x a0 (anc ops i)).tmps[d]?):=by
 intro d hd;by_cases hex:∃j,dstOf ops j=some d
 ·obtain⟨j,hj⟩:=hex;cases hl:later ops i j with
  |false=>
   have hjl:=mem_looks ho (dst_lt hj) hj hd hl;have hja:=(F.dep i o j ho hjl).2;rw[gets_at x d j hj L a0 (hL j hja) (fun k hk he=>F.inj k j d (hlt k hk) (dst_lt hj) he hj),gets_at x d j hj _ a0 hja (fun k hk he=>F.inj k j d (hA k hk) (dst_lt hj) he hj)]
  |true=>
   obtain⟨h1,oj,h2⟩:=later_looks hl;have h3:=(F.dep j oj i h2 h1).2;have hjL:j∉L:=fun h=>hno j h h3;have hjA:j∉anc ops i:=fun h=>hjL (hL j h);rw[gets_other x d L a0 (fun k hk he=>hjL (F.inj k j d (hlt k hk) (dst_lt hj) he hj▸hk)),gets_other x d _ a0 (fun k hk he=>hjA (F.inj k j d (hA k hk) (dst_lt hj) he hj▸hk))]
 ·have hno:∀j,dstOf ops j≠some d:=fun j h=>hex ⟨j,h⟩;rw[gets_other x d L a0 (fun j _=>hno j),gets_other x d _ a0 (fun j _=>hno j)]
theorem eval_same {a b:Act}{o:Oper}(h:∀d∈o.looksAt ops,a.tmps[d]?=b.tmps[d]?):∀u∈o.op.operands,a.eval u=b.eval u:=by
 intro u hu;cases u with
 |tmp t=>
  have:t∈o.looksAt ops:=List.mem_append_left _ (List.mem_filterMap.2 ⟨.tmp t,by simpa using hu,rfl⟩);simp only[Act.eval,Array.getD_eq_getD_getElem?,h t this]
 |_=>rfl
theorem wanted_same {a b:Act}{o:Oper}(h:∀d∈o.looksAt ops,a.tmps[d]?=b.tmps[d]?):Region.wanted o (yielded ops a.tmps)=Region.wanted o (yielded ops b.tmps):=by
 unfold Region.wanted;cases hg:o.guard with
 |none=>rfl
 |some gw=>
  obtain⟨g,want⟩:=gw;have hy:yielded ops a.tmps g=yielded ops b.tmps g:=by
   unfold yielded;cases ht:(ops[g]?).bind (·.dst)with
   |none=>rfl
   |some t=>
    have hm:t∈o.looksAt ops:=by simp[Oper.looksAt,hg,ht]
    simp only[Option.bind_some,h t hm]
  simp only[hy]
theorem put_same {a b:Act}{d:Option Tmp}{v u:Value}(hs:a.tmps.size=b.tmps.size)(h:b.put d v=b.put d u):a.put d v=a.put d u:=by
 cases d with
 |none=>rfl
 |some t=>
  by_cases ht:t<b.tmps.size
  ·have h1:=congrArg (fun c=>c.tmps[t]?) h;simp[Act.put,ht]at h1;rw[h1]
  ·simp only[Act.put];rw[Array.setIfInBounds_eq_of_size_le (by rw[hs];exact Nat.not_lt.1 ht),Array.setIfInBounds_eq_of_size_le (by rw[hs];exact Nat.not_lt.1 ht)]
theorem wpOp_of_step {Q:Exit→Act→World→Prop}{i:Nat}{o:Oper}(ho:ops[i]?=some o)(hs:∀cs b,o.op≠.select cs b){a aD:Act}{w:World}{R:Value→World→Prop}(hz:a.tmps.size=aD.tmps.size)
 (h:∀d∈o.looksAt ops,a.tmps[d]?=aD.tmps[d]?) (hstep:wpList P ops (fun ex a' w'=>ex=.normal∧∃v,a'=aD.put o.dst v∧R v w') [o] aD w) {K:Act→World→Prop}
 (hK:∀v w',R v w'→K (a.put o.dst v) w'):wpOp P ops Q i K a w:=by
 have hK2:∀v w',(∃u,aD.put o.dst v=aD.put o.dst u∧R u w')→K (a.put o.dst v) w':=by
  rintro v w' ⟨u,he,hr⟩;rw[put_same hz he];exact hK u w' hr
 unfold Go.wpOp;simp only[ho];unfold wpList at hstep;rw[wanted_same h];by_cases hw:Region.wanted o (yielded ops aD.tmps)=true
 ·simp only[hw,if_true]at hstep⊢;rcases hstep with hstep|⟨_,a',w',hl⟩
  ·refine .inl ?_;unfold Oper.wp at hstep⊢;rw[execOp_congr o hs (eval_same h)];generalize (execOp aD.eval o).run P w=r at*;cases r with
   |ok n w'=>
    cases n<;>simp only[Oper.upon,wpList]at hstep⊢
    case value v=>exact hK2 v w' hstep.2
    case skip=>exact hK2 undef w' hstep.2
    case defer d=>
     obtain⟨_,v,he,_⟩:=hstep;have h1:=congrArg Act.defers he;rw[put_defers,put_defers]at h1;exact absurd h1 (by simp)
    case enter f args=>
     refine Calls.mono hstep fun e w'' he=>?_;cases e with
     |returned v=>exact hK2 v w'' he.2
     |panicked c=>exact absurd he.1 (by simp)
     |outgrown=>obtain⟨a',w',he,_⟩:=he;exact absurd he (by simp)
    case row row args=>exact Rows.mono hstep fun v w'' he=>hK2 v w'' he.2
   |halt x w'=>
    cases x<;>simp only[Oper.upon]at hstep⊢
    case panic u=>exact absurd hstep.1 (by simp)
  ·exact absurd hl.1 (by simp)
 ·simp only[hw]at hstep⊢;exact hK2 undef w hstep.2
theorem listed_set {listed:Array Bool}{i j:Nat}(hi:i<listed.size):(listed.setIfInBounds i true).getD j false=(decide (j=i)||listed.getD j false):=by
 by_cases h:j=i
 ·subst h;simp[Array.getD_eq_getD_getElem?,hi]
 ·have h':i≠j:=fun e=>h e.symm;simp[Array.getD_eq_getD_getElem?,Array.getElem?_setIfInBounds_ne h',h]
theorem mem_sel {n i:Nat}{listed:Array Bool}:i∈selL n listed↔i<n∧listed.getD i false=true:=by simp[selL]
theorem count_split (p q:Nat→Bool):∀l:List Nat,l.countP p=l.countP (fun j=>p j&&q j)+l.countP (fun j=>p j&&!q j)
 |[]=>rfl
 |j::l=>by
  simp only[List.countP_cons,count_split p q l];cases p j<;>cases q j<;>simp<;>omega
theorem anc_lt (F:Facts ops):∀(i:Nat),∀j∈anc ops i,j<ops.size:=by
 intro i
 induction i using Nat.strongRecOn with
 |_ i ih=>
  intro j hj;cases ho:ops[i]? with
  |none=>
   have hl:looks ops i=[]:=by simp[looks,ho]
   have hge:ops.size≤i:=by
    rcases Nat.lt_or_ge i ops.size with h|h
    ·rw[Array.getElem?_eq_getElem h]at ho;cases ho
    ·exact h
   have hlen:∀(n:Nat)(f:List (List Nat)→Nat→List Nat),((List.range n).foldl (fun T i=>T++[f T i]) []).length=n:=by
    intro n f
    induction n with
    |zero=>rfl
    |succ n ihn=>rw[List.range_succ,List.foldl_append];simp[ihn]
   have hz:(ancT ops).length=ops.size:=hlen _ _;have:anc ops i=[]:=by simp[anc,List.getD,hz,hge]
   rw[this]at hj;cases hj
  |some o=>
   rcases F.clo i o j ho hj with h|⟨k,hk,h⟩
   ·simp only[looks,ho,List.mem_filter,List.mem_range]at h;exact h.1
   ·obtain⟨⟨e,he,hbe,rfl⟩,_⟩:=F.dep i o k ho hk;exact ih e.on (F.ord i o ho e he hbe) j h
theorem dst_of {i:Nat}{o:Oper}(ho:ops[i]?=some o):dstOf ops i=o.dst:=by simp[dstOf,ho]
def getsD (D:List (Option Tmp))(x:Nat→Value):Act→List Nat→Act
 |a,[]=>a
 |a,j::r=>getsD D x (a.put (D.getD j none) (x j)) r
theorem getsD_eq (x:Nat→Value){D:List (Option Tmp)}(hD:(List.range ops.size).map (dstOf ops)=D):∀(l:List Nat)(a:Act),(∀j∈l,j<ops.size)→getsD D x a l=gets ops x a l
 |[],_,_=>rfl
 |j::r,a,h=>by
  have hj:=h j (List.mem_cons_self ..);have:D.getD j none=dstOf ops j:=by rw[←hD];simp[List.getD,hj]
  rw[getsD,gets,this,getsD_eq x hD r _ (fun k hk=>h k (List.mem_cons_of_mem _ hk))]
def AllV (V:Nat→Value→World→Prop)(x:Nat→Value)(w:World):List Nat→Prop
 |[]=>True
 |j::r=>V j (x j) w∧AllV V x w r
theorem allV_of {V:Nat→Value→World→Prop}{x:Nat→Value}{w:World}:∀{l:List Nat},(∀j∈l,V j (x j) w)→AllV V x w l
 |[],_=>trivial
 |j::_,h=>⟨h j (List.mem_cons_self ..),allV_of fun k hk=>h k (List.mem_cons_of_mem _ hk)⟩
end
end Go.Proofs.YtkbfhgcjimfgkaaDoor
namespace Go.Proofs.YtkbfhgcjimfgkaaDoor
open Go.RowKit
def fEm (k:Nat):List Value:=List.replicate k undef
def fZm (k:Nat)(v:Value)(l:List Value):List Value:=List.replicate k undef++v::l
theorem toI {I J:(Nat→Bool)→(Nat→Value)→World→Prop}(h:Hid (I=J)){L:Nat→Bool}{y:Nat→Value}{W:World}(x:J L y W):I L y W:=by rw[h.out];exact x
theorem ofI {I J:(Nat→Bool)→(Nat→Value)→World→Prop}(h:Hid (I=J)){L:Nat→Bool}{y:Nat→Value}{W:World}(x:I L y W):J L y W:=by rw[←h.out];exact x
theorem toV {V U:Nat→Value→World→Prop}(h:Hid (V=U)){i:Nat}{v:Value}{W:World}(x:U i v W):V i v W:=by rw[h.out];exact x
def setB (L:Nat→Bool)(k:Nat):Nat→Bool:=fun j=>if j=k then true else L j
def setV (x:Nat→Value)(k:Nat)(v:Value):Nat→Value:=fun j=>if j=k then v else x j
theorem step3_done {I:(Nat→Bool)→(Nat→Value)→World→Prop}{V:Nat→Value→World→Prop}{Ext:World→World→Prop}{i k:Nat}{aD a':Act}{d:Option Tmp}{w w':World}{v:Value}{L:Nat→Bool}{x:Nat→Value}(he:a'=aD.put d v)
 (h1:I (setB L k) (setV x k v) w') (h2:Ext w w') (h3:V i v w'):
 StepPost (fun _=>True) (fun i v w'=>I (setB L k) (setV x k v) w'∧V i v w') Ext i aD d w .normal a' w':=⟨rfl,v,he,trivial,h2,h1,h3⟩
section
variable {P:Program} {ops:Array Oper}
theorem step_same {Inv:World→Prop}{V:Nat→Value→World→Prop}{Ext:World→World→Prop}{i:Nat}{o:Oper}(hs:∀cs b,o.op≠.select cs b){a F:Act}{w:World}(hz:∀d,o.dst=some d→d<F.tmps.size)
 (h:∀d∈o.looksAt ops,a.tmps[d]?=F.tmps[d]?) (hstep:wpList P ops (StepPost Inv V Ext i F o.dst w) [o] F w):wpList P ops (StepPost Inv V Ext i a o.dst w) [o] a w:=by
 have key:∀v w',(∃u,F.put o.dst v=F.put o.dst u∧Inv w'∧Ext w w'∧V i u w')→StepPost Inv V Ext i a o.dst w .normal (a.put o.dst v) w':=by
  rintro v w' ⟨u,he,h1,h2,h3⟩;refine⟨rfl,u,?_,h1,h2,h3⟩;cases hd:o.dst with
  |none=>rfl
  |some d=>
   rw[hd]at he;have hlt:=hz d hd;have h4:=congrArg (fun c=>c.tmps[d]?) he;simp[Act.put,hlt]at h4;rw[h4]
 unfold wpList at hstep⊢;rw[wanted_same h];by_cases hw:Region.wanted o (yielded ops F.tmps)=true
 ·simp only[hw,if_true]at hstep⊢;rcases hstep with hstep|⟨_,a',w',hl⟩
  ·refine .inl ?_;unfold Oper.wp at hstep⊢;rw[execOp_congr o hs (eval_same h)];generalize (execOp F.eval o).run P w=r at*;cases r with
   |ok n w'=>
    cases n<;>simp only[Oper.upon,wpList]at hstep⊢
    case value v=>obtain⟨_,u,h1,h2⟩:=hstep;exact key v w' ⟨u,h1,h2⟩
    case skip=>obtain⟨_,u,h1,h2⟩:=hstep;exact key undef w' ⟨u,h1,h2⟩
    case defer d=>
     obtain⟨_,v,he,_⟩:=hstep;have h1:=congrArg Act.defers he;rw[put_defers,put_defers]at h1;exact absurd h1 (by simp)
    case enter f args=>
     refine Calls.mono hstep fun e w'' he=>?_;cases e with
     |returned v=>obtain⟨_,u,h1,h2⟩:=he;exact key v w'' ⟨u,h1,h2⟩
     |panicked c=>exact absurd he.1 (by simp)
     |outgrown=>obtain⟨a',w',he,_⟩:=he;exact absurd he (by simp)
    case row row args=>exact Rows.mono hstep fun v w'' he=>by obtain⟨_,u,h1,h2⟩:=he;exact key v w'' ⟨u,h1,h2⟩
   |halt x w'=>
    cases x<;>simp only[Oper.upon]at hstep⊢
    case panic u=>exact absurd hstep.1 (by simp)
  ·exact absurd hl.1 (by simp)
 ·simp only[hw]at hstep⊢;simp only[wpList]at hstep⊢;obtain⟨_,u,h1,h2⟩:=hstep;exact key undef w ⟨u,h1,h2⟩
def FramesOk (ops:Array Oper)(D:List (Option Tmp))(a0:Act):List (List Nat)→List ((Nat→Value)→Act)→List Oper→Prop
 |L::A,F::Fs,o::l=>(∀x:Nat→Value,(o.looksAt ops).map (fun d=>(getsD D x a0 L).tmps[d]?)=(o.looksAt ops).map (fun d=>(F x).tmps[d]?)∧(match o.dst with|some d=>decide (d<(F x).tmps.size)|none=>true)=true)∧FramesOk ops D a0 A Fs l
 |_,_,[]=>True
 |_,_,_=>False
def noSel (o:Oper):Bool:=match o.op with|.select _ _=>false|_=>true
theorem noSel_ne {o:Oper}(h:noSel o=true):∀cs b,o.op≠.select cs b:=by
 intro cs b he;unfold noSel at h;rw[he]at h;cases h
end
end Go.Proofs.YtkbfhgcjimfgkaaDoor
