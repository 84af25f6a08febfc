/- Plain: an operation that is made of raw things is one that may be. No program in sight. -/
import Derived.Test.YtkbfhgcjimfgkaaDoorPartA3
import Derived.Test.YtkbfhgcjimfgkaaDoorPartA2
import Derived.Test.YtkbfhgcjimfgkaaDoorPartA0
set_option linter.unusedVariables false
set_option linter.unusedSimpArgs false
namespace Go.Proofs.YtkbfhgcjimfgkaaDoor
open Go.RowKit
structure Raw where
 kind:Int
 a:Int
 b:Int
 c:Int
 text:Str
def rawCells (x:Raw):List Value:=[.int .i64 x.kind,.int .i64 x.a,.int .i64 x.b,.int .i64 x.c,.string x.text]
def rawV (x:Raw):Value:=.agg #[.int .i64 x.kind,.int .i64 x.a,.int .i64 x.b,.int .i64 x.c,.string x.text]
def Raw.ok (x:Raw):Prop:=I64 x.kind∧I64 x.a∧I64 x.b∧I64 x.c∧x.text.size≤maxLen
instance:Rep Raw where
 n:=5
 rd:=fun _ _ x cs=>cs=rawCells x∧x.ok
 len:=fun h=>by rw[h.1];rfl
 mono:=fun _ h=>h
 one:=fun h=>by rw[h.1];simp[rawCells,Value.oneCell']
 pos:=by decide
theorem RdS.raw {A:Nat→Prop}{w:World}{l:List Raw}{a:Option Addr}{n c:Nat}(hr:RdS A w l a n c)(hn:0<n):
 ∃b off,a=some ⟨b,off,none⟩∧A b∧b<w.heap.size∧∀i (h:i<l.length),l[i].ok∧
  w.cell? ⟨b,off+i*5,none⟩=some (.int .i64 l[i].kind)∧w.cell? ⟨b,off+i*5+1,none⟩=some (.int .i64 l[i].a)∧w.cell? ⟨b,off+i*5+2,none⟩=some (.int .i64 l[i].b)∧
  w.cell? ⟨b,off+i*5+3,none⟩=some (.int .i64 l[i].c)∧w.cell? ⟨b,off+i*5+4,none⟩=some (.string l[i].text):=by
 obtain⟨b,off,e,hA,hb,he⟩:=hr.2.2.2.2 hn;refine⟨b,off,e,hA,hb,fun i h=>?_⟩;obtain⟨xs,⟨rfl,h1⟩,h4⟩:=he i l[i] (List.getElem?_eq_getElem h);exact⟨h1,h4 0 _ rfl,h4 1 _ rfl,h4 2 _ rfl,h4 3 _ rfl,h4 4 _ rfl⟩
set_option maxHeartbeats 400000 in
theorem opText_any (x:Raw)(w:World)(hx:x.ok):
 Calls Tryd.prog 36 #[rawV x] w fun e w'=>e=.returned (.string (letters x.text 4))∧Below w.heap.size w w':=by
 obtain⟨k,a,b,c,t⟩:=x;have ht:t.size≤maxLen:=hx.2.2.2.2;have Hl:=Lib.hid (fun W=>letters_any t 4 W ht (by omega));clear hx ht;unfold rawV;simp only;go_enter Tryd.func36,Tryd.ntmps36;go_wp2_with fail;refine(Hl.out _).mono ?_;rintro e w1 ⟨rfl,hb1⟩;go_wp2_with fail
 go_ret
 exact⟨rfl,by(repeat (first|exact Below.refl _ _|assumption|(refine Below.drew ?_)|(refine below_drewN ?_ _)|(refine Below.alloc ?_ (by first|(simp;done)|(simp;omega)|omega) _)|(refine Below.setCell ?_ (by first|(simp;done)|(simp;omega)|omega) _)|(refine Below.trans ?_ (Below.mono (by assumption) (by first|(simp;done)|(simp;omega)|omega)))))⟩
def noText:Str:=⟨#[]⟩
def opStep (f:Raw→Str)(st:List Part×Int)(x:Raw):List Part×Int:=
 let k:=min (pk x.a 6) st.2
 let st1:=if pk x.kind 4=0∨pk x.kind 4=1 then(addR st.1 ⟨1,k,noText⟩,st.2-k)else if pk x.kind 4=2 then(addR st.1 ⟨3,k,noText⟩,st.2-k)else st
 if pk x.b 2=0 then(addR st1.1 ⟨2,0,f x⟩,st1.2)else st1
def opRun (f:Raw→Str)(n:Int)(l:List Raw):List Part×Int:=l.foldl (opStep f) ([],n)
def opOf (f:Raw→Str)(n:Int)(l:List Raw):Op:=
 let st:=opRun f n (l.take 6)
 (addR st.1 ⟨1,st.2,noText⟩).reverse
def rawText (x:Raw):Str:=letters x.text 4
def mkOp (n:Int)(l:List Raw):Op:=opOf rawText n l
theorem opRun_next (f:Raw→Str)(n:Int)(l:List Raw)(k:Nat)(h:k<l.length):opRun f n (l.take (k+1))=opStep f (opRun f n (l.take k)) l[k]:=by
 unfold opRun;rw[List.take_succ_eq_append_getElem h,List.foldl_append];rfl
structure Stands (n:Int) (i:Nat) (st:List Part×Int):Prop where
 left:0≤st.2∧st.2≤n
 len:st.1.length≤2*i
 each:∀q∈st.1,(1≤q.kind∧q.kind≤3)∧0≤q.n∧q.n≤n-st.2∧q.text.size≤16*i
theorem addR_each (P0 P:Part→Prop)(p:Part)(hp:P p)(h01:∀q,P0 q→P q)(hadd:∀q,P0 q→q.kind=p.kind→P ⟨q.kind,q.n+p.n,q.text++p.text⟩):∀r:List Part,(∀q∈r,P0 q)→∀q∈addR r p,P q:=by
 intro r
 induction r with
 |nil=>
  intro _ q hq;simp only[addR]at hq;split at hq
  ·cases hq
  ·simp at hq;rw[hq];exact hp
 |cons x r ih=>
  intro hr q hq;have hx:=hr x (by simp);have ih':=ih (fun q h=>hr q (by simp[h]));simp only[addR]at hq;split at hq
  ·exact h01 q (hr q hq)
  ·split at hq
   ·rename_i hk;rcases List.mem_cons.1 hq with h|h
    ·rw[h];exact hadd x hx hk
    ·exact h01 q (hr q (by simp[h]))
   ·split at hq
    ·rcases List.mem_cons.1 hq with h|h
     ·rw[h];exact h01 x hx
     ·exact ih' q h
    ·rcases List.mem_cons.1 hq with h|h
     ·rw[h];exact hp
     ·exact h01 q (hr q h)
theorem size_app (a b:Str):(a++b).size=a.size+b.size:=by simp[ByteArray.size_append]
theorem noText_size:noText.size=0:=rfl
theorem letters_size (s:Str)(m:Nat):(letters s m).size≤m*4:=by
 have h1:=enc_size (lets s m) (lets_vr s m);have h2:=lets_len s m;unfold letters;omega
theorem Stands.keep {n:Int}{i:Nat}{st:List Part×Int}(h:Stands n i st)(kd:Int)(hkd:1≤kd∧kd≤3)(k:Int)(hk:0≤k∧k≤st.2):
 (∀q∈addR st.1 ⟨kd,k,noText⟩,(1≤q.kind∧q.kind≤3)∧0≤q.n∧q.n≤n-(st.2-k)∧q.text.size≤16*i)∧(addR st.1 ⟨kd,k,noText⟩).length≤2*i+1:=by
 have h0:=h.left;refine⟨addR_each (fun q=>(1≤q.kind∧q.kind≤3)∧0≤q.n∧q.n≤n-st.2∧q.text.size≤16*i) _ _ ⟨hkd,by simp only;omega,by simp only;omega,by simp only[noText_size];omega⟩ (fun q h=>⟨h.1,h.2.1,by omega,h.2.2.2⟩) ?_ _ h.each,by have:=addR_len st.1 ⟨kd,k,noText⟩;have:=h.len;omega⟩;rintro q ⟨h1,h2,h3,h4⟩ _;exact⟨h1,by simp only;omega,by simp only;omega,by simp only[size_app,noText_size];omega⟩
theorem opStep_stands {n:Int}{i:Nat}{st:List Part×Int}(f:Raw→Str)(x:Raw)(hf:(f x).size≤16)(h:Stands n i st):Stands n (i+1) (opStep f st x):=by
 have h0:=h.left;have ha:=pk_range x.a 6 (by omega);have hk1:0≤min (pk x.a 6) st.2:=by omega
 have hk2:min (pk x.a 6) st.2≤st.2:=by omega
 have main:∀st1:List Part×Int,0≤st1.2∧st1.2≤n→st1.1.length≤2*i+1→(∀q∈st1.1,(1≤q.kind∧q.kind≤3)∧0≤q.n∧q.n≤n-st1.2∧q.text.size≤16*i)→
  Stands n (i+1) (if pk x.b 2=0 then(addR st1.1 ⟨2,0,f x⟩,st1.2)else st1):=by
  intro st1 g1 g2 g3;by_cases hb:pk x.b 2=0
  ·rw[if_pos hb];refine⟨g1,by have:=addR_len st1.1 ⟨2,0,f x⟩;simp only;omega,?_⟩;refine addR_each (fun q=>(1≤q.kind∧q.kind≤3)∧0≤q.n∧q.n≤n-st1.2∧q.text.size≤16*i) _ _ ⟨⟨by simp only;omega,by simp only;omega⟩,by simp only;omega,by simp only;omega,by simp only;omega⟩ (fun q h=>⟨h.1,h.2.1,h.2.2.1,by omega⟩) ?_ _ g3;rintro q ⟨h1,h2,h3,h4⟩ _;exact⟨h1,by simp only;omega,by simp only;omega,by simp only[size_app];omega⟩
  ·rw[if_neg hb];exact⟨g1,by omega,fun q hq=>by have:=g3 q hq;exact⟨this.1,this.2.1,this.2.2.1,by omega⟩⟩
 unfold opStep;simp only;generalize min (pk x.a 6) st.2=k at*;by_cases h1:pk x.kind 4=0∨pk x.kind 4=1
 ·rw[if_pos h1];have hs:=h.keep 1 (by omega) k ⟨hk1,hk2⟩;exact main _ (by simp only;omega) hs.2 hs.1
 ·rw[if_neg h1];by_cases h2:pk x.kind 4=2
  ·rw[if_pos h2];have hs:=h.keep 3 (by omega) k ⟨hk1,hk2⟩;exact main _ (by simp only;omega) hs.2 hs.1
  ·rw[if_neg h2];exact main _ h0 (by have:=h.len;omega) h.each
theorem opRun_stands (f:Raw→Str)(n:Int)(hn:0≤n)(l:List Raw)(hf:∀x∈l,(f x).size≤16):∀k,k≤l.length→Stands n k (opRun f n (l.take k)):=by
 intro k
 induction k with
 |zero=>intro _;simp only[List.take_zero,opRun,List.foldl_nil];exact⟨by simp only;omega,by simp,by simp⟩
 |succ k ih=>
  intro hk;rw[opRun_next f n l k (by omega)];exact opStep_stands f _ (hf _ (List.getElem_mem (by omega))) (ih (by omega))
theorem Mild.of {n:Int}{i:Nat}{left:Int}{r:List Part}(hn:n≤1000000000)(hi:i≤6)(h0:0≤left)(h:∀q∈r,(1≤q.kind∧q.kind≤3)∧0≤q.n∧q.n≤n-left∧q.text.size≤16*i):∀q∈r,Mild q:=by
 intro q hq;have:=h q hq;exact⟨by omega,by omega,by omega⟩
theorem Bag.drewN {T B b:Nat}{v:Value}{ex:List Value}{l:Op}{w:World}(h:Bag T B b v ex l w)(n:Nat):Bag T B b v ex l (w.drewN n):=h.keep fun _ _=>rfl
theorem Bag.sB {T B b:Nat}{v:Value}{ex:List Value}{l:Op}{w:World}(h:Bag T B b v ex l w):∀g,Bag.S b v g→B≤g:=by
 rintro g (rfl|h2)
 ·exact h.base
 ·exact(h.rowlt g h2).1
theorem Bag.put1 {T B b:Nat}{v:Value}{x u:Value}{l:Op}{w:World}(h:Bag T B b v [x] l w):Bag T B b v [u] l (w.setCell ⟨b,1,none⟩ u):=by
 refine⟨h.base,?_,?_,h.ne⟩
 ·simp[World.setCell,Array.getElem?_modify,h.blk]
 ·exact h.own.kept (row:=some b) ⟨rfl,rfl,rfl,by simp[World.setCell],fun k _ hk=>Below.heap_setCell _ _ _ _ (fun e=>hk (by simp[e]))⟩ (.inr h.ne)
theorem picked_same (n m:Int)(w:World)(hn:I64 n)(hm:1≤m)(hm':m≤9223372036854775807):
 Calls Tryd.prog 11 #[.int .i64 n,.int .i64 m] w fun e w'=>e=.returned (.int .i64 (pk n m))∧w'=w:=
 (picked_any n m w hn hm hm').mono fun _ _ ⟨h1,h2⟩=>⟨h1,h2.symm⟩
def OpPost (n:Int)(l:List Raw)(f:Raw→Str)(w:World)(e:Ending)(w':World):Prop:=
 ∃a c,e=.returned (.slice a (opOf f n l).length c)∧w'.ownsRow w.heap.size 53 3 (.slice a (opOf f n l).length c) (opOf f n l).length (flat (opOf f n l))∧Below w.heap.size w w'
set_option maxRecDepth 100000 in
set_option maxHeartbeats 4000000 in
theorem op_any (A:Nat→Prop)(n:Int)(l:List Raw)(a:Option Addr)(m c:Nat)(w:World)(hA:∀b,A b→b<w.heap.size)(hr:RdS A w l a m c)(hn:0≤n)(hn':n≤1000000000):
 Calls Tryd.prog 35 #[.int .i64 n,.slice a m c,.func (.func 36) #[] #[]] w (OpPost n l rawText w):=by
 have hl:m=l.length:=hr.1;have hmm:m≤maxLen:=by have h1:=hr.2.1;have h2:=hr.2.2.1;omega
 unfold maxLen at hmm;have Hst:=Lib.hid (opRun_stands rawText n hn (l.take 6) (fun x _=>by unfold rawText;have:=letters_size x.text 4;omega));have Hl:=Lib.hid hl;have Hr:=Lib.hid hr;clear hl hr;go_enter Tryd.func35,Tryd.ntmps35;go_wp2_with fail;go_loopw [8] (fun i wr=>∃k:Nat,∃v:Value,k≤m∧k≤6∧i=.int .i64 k∧Bag 91 w.heap.size w.heap.size v [.int .i64 (opRun rawText n (l.take k)).2] (opRun rawText n (l.take k)).1.reverse wr∧Below w.heap.size w wr) (fun i _=>m-(intOf i).toNat)
 case atStart=>
  refine⟨0,.slice none 0 0,by omega,by omega,rfl,⟨Nat.le_refl _,heap_alloc_new w _,World.ownsRow_nil _ _ _ _,by simp[Value.ownBlock]⟩,by(repeat (first|exact Below.refl _ _|assumption|(refine Below.drew ?_)|(refine below_drewN ?_ _)|(refine Below.alloc ?_ (by first|(simp;done)|(simp;omega)|omega) _)|(refine Below.setCell ?_ (by first|(simp;done)|(simp;omega)|omega) _)|(refine Below.trans ?_ (Below.mono (by assumption) (by first|(simp;done)|(simp;omega)|omega)))))⟩
 case round=>
  obtain⟨k,v,hk,hk6,rfl,hbag,hb⟩:=hrel;have hstk:Stands n k (opRun rawText n (l.take k)):=by
   have:=Hst.out k (by rw[List.length_take];have:=Hl.out;omega);rw[List.take_take,Nat.min_eq_left hk6]at this;exact this
  obtain⟨av,cv,hv⟩:=hbag.form;have hc0:=hbag.cell 0;have hc1:=hbag.cell 1;have hf1:=hbag.frozen 1;simp only[List.getElem?_cons_zero,List.getElem?_cons_succ]at hc0 hc1;rw[hv]at hc0;have hlt:=hbag.lt;by_cases hgo:k<m∧k<6
  ·obtain⟨hkm,hkl6⟩:=hgo;have hnx:=opRun_next rawText n l k (by have:=Hl.out;omega);obtain⟨b,off,rfl,hAb,hbs,hcs⟩:=Hr.out.raw (by omega);obtain⟨hcb,hfb⟩:=bcell hb;obtain⟨hok,r0,r1,r2,r3,r4⟩:=hcs k (by have:=Hl.out;omega);have hbw:=hA b hAb;have hkl:k<l.length:=by have:=Hl.out;omega
   clear hcs;generalize opRun rawText n (l.take k)=st at*;generalize l[k]=x at*;obtain⟨r,left⟩:=st;have hleft:=hstk.left;simp only at hc1 hleft hbag;have Hok:=Lib.hid hok;obtain⟨hk1,ha1,hb1,_,ht1⟩:=hok;have hra:=pk_range x.a 6 (by omega);have hrk:=pk_range x.kind 4 (by omega);have hrb:=pk_range x.b 2 (by omega);have Hpa:=Lib.hid (fun W=>picked_same x.a 6 W ha1 (by omega) (by omega));have Hpk:=Lib.hid (fun W=>picked_any x.kind 4 W hk1 (by omega) (by omega));have Hpb:=Lib.hid (fun W=>picked_any x.b 2 W hb1 (by omega) (by omega));have Hnx:=Lib.hid hnx;have Hstk:=Lib.hid hstk;have Hbag:=Lib.hid hbag;have Hv:=Lib.hid hv;clear hnx hstk hbag hv hk1 ha1 hb1;have HS:Hid (opStep rawText (r,left) x=(let k:=min (pk x.a 6) left;let st1:=if pk x.kind 4=0∨pk x.kind 4=1 then(addR r ⟨1,k,noText⟩,left-k)else if pk x.kind 4=2 then(addR r ⟨3,k,noText⟩,left-k)else(r,left);if pk x.b 2=0 then(addR st1.1 ⟨2,0,rawText x⟩,st1.2)else st1)):=rfl;generalize pk x.a 6=da at*;generalize pk x.kind 4=dk at*;generalize pk x.b 2=db at*;go_wp2_with fail;go_quiet ((go_at_call 11;exact Calls.quiet_of_same (Hpa.out _)));have hkk:0≤min da left∧min da left≤left:=by omega
   generalize min da left=kk at*;go_wp2_with fail;refine(Hpk.out _).mono ?_;rintro e w1 ⟨rfl,rfl⟩;obtain h4|h4|h4|h4:dk=0∨dk=1∨dk=2∨dk=3:=by omega
   ·subst h4;by_cases hdb:db=0
    ·subst hdb;go_wp2_with fail;refine(add_any w.heap.size w.heap.size left ⟨1,kk,noText⟩ ⟨by simp only;omega,by simp only;omega,by simp only[noText_size];omega⟩ r v _ (Mild.of hn' hk6 Hstk.out.left.1 Hstk.out.each) (by have:=Hstk.out.len;simp only at this;omega) (Hbag.out.drewN _)).mono ?_;rintro e w2 ⟨v2,rfl,hbag2,ht2,hat2⟩;have hb2:Below w.heap.size w w2:=(below_drewN hb _).trans (ht2.toBelow hb.size Hbag.out.sB);obtain⟨hcb2,hfb2⟩:=bcell hb2;have e1:=hbag2.cell 1;have e2:=hbag2.frozen 1;simp only[List.getElem?_cons_zero,List.getElem?_cons_succ]at e1;have hput:=hbag2.put1 (u:=.int .i64 (left-kk));have Hput:=Lib.hid hput;have Hbag2:=Lib.hid hbag2;clear hput hbag2 ht2 hat2;go_wp2_with fail;refine(Hpb.out _).mono ?_;rintro e w3 ⟨rfl,rfl⟩;have Hkeep:=Lib.hid (Hstk.out.keep 1 (by omega) kk ⟨hkk.1,hkk.2⟩);simp only at Hkeep;go_wp2_with fail;refine(opText_any x _ Hok.out).mono ?_;rintro e w4 ⟨rfl,hb4⟩;have hbW:=(hb2.setCell (p:=⟨w.heap.size,1,none⟩) (Nat.le_refl _) (.int .i64 (left-kk)));have hbW4:=hbW.trans (hb4.mono hbW.size);clear hbW;have HbW4:=Lib.hid hbW4;have hbag4:=Bag.below Hput.out hb4;have Hbag4:=Lib.hid hbag4;clear hbW4 hbag4;go_wp2_with fail;refine(add_any w.heap.size w.heap.size (left-kk) ⟨2,0,letters x.text 4⟩ ⟨by simp only;omega,by simp only;omega,by have:=letters_size x.text 4;simp only;omega⟩ (addR r ⟨1,kk,noText⟩) v2 _ (Mild.of hn' hk6 (by omega) Hkeep.out.1) (by have:=Hkeep.out.2;(try simp only at this);omega) Hbag4.out).mono ?_;rintro e w5 ⟨v5,rfl,hbag5,ht5,hat5⟩;have hb5:Below w.heap.size w w5:=HbW4.out.trans (ht5.toBelow HbW4.out.size Hbag4.out.sB);have Hbag5:=Lib.hid hbag5;clear hbag5 ht5 hat5 hb4
     go_wp2
     go_roundw
     case rel=>
      have hS:opStep rawText (r,left) x=(addR (addR r ⟨1,kk,noText⟩) ⟨2,0,letters x.text 4⟩,(left-kk)):=by rw[HS.out];simp[rawText]
      refine⟨k+1,v5,by omega,by omega,by go_num,?_,hb5⟩;rw[Hnx.out,hS];exact Hbag5.out
     case measure=>simp[intOf];omega
    ·have hdb2:(db==0)=false:=by simpa using hdb
     go_wp2_with fail;refine(add_any w.heap.size w.heap.size left ⟨1,kk,noText⟩ ⟨by simp only;omega,by simp only;omega,by simp only[noText_size];omega⟩ r v _ (Mild.of hn' hk6 Hstk.out.left.1 Hstk.out.each) (by have:=Hstk.out.len;simp only at this;omega) (Hbag.out.drewN _)).mono ?_;rintro e w2 ⟨v2,rfl,hbag2,ht2,hat2⟩;have hb2:Below w.heap.size w w2:=(below_drewN hb _).trans (ht2.toBelow hb.size Hbag.out.sB);obtain⟨hcb2,hfb2⟩:=bcell hb2;have e1:=hbag2.cell 1;have e2:=hbag2.frozen 1;simp only[List.getElem?_cons_zero,List.getElem?_cons_succ]at e1;have hput:=hbag2.put1 (u:=.int .i64 (left-kk));have Hput:=Lib.hid hput;have Hbag2:=Lib.hid hbag2;clear hput hbag2 ht2 hat2;go_wp2_with fail;refine(Hpb.out _).mono ?_;rintro e w3 ⟨rfl,rfl⟩;have Hkeep:=Lib.hid (Hstk.out.keep 1 (by omega) kk ⟨hkk.1,hkk.2⟩);simp only at Hkeep
     go_wp2
     go_roundw
     case rel=>
      have hS:opStep rawText (r,left) x=((addR r ⟨1,kk,noText⟩),(left-kk)):=by rw[HS.out];simp[hdb]
      refine⟨k+1,v2,by omega,by omega,by go_num,?_,(hb2.setCell (p:=⟨w.heap.size,1,none⟩) (Nat.le_refl _) (.int .i64 (left-kk)))⟩;rw[Hnx.out,hS];exact Hput.out
     case measure=>simp[intOf];omega
   ·subst h4;by_cases hdb:db=0
    ·subst hdb;go_wp2_with fail;refine(add_any w.heap.size w.heap.size left ⟨1,kk,noText⟩ ⟨by simp only;omega,by simp only;omega,by simp only[noText_size];omega⟩ r v _ (Mild.of hn' hk6 Hstk.out.left.1 Hstk.out.each) (by have:=Hstk.out.len;simp only at this;omega) (Hbag.out.drewN _)).mono ?_;rintro e w2 ⟨v2,rfl,hbag2,ht2,hat2⟩;have hb2:Below w.heap.size w w2:=(below_drewN hb _).trans (ht2.toBelow hb.size Hbag.out.sB);obtain⟨hcb2,hfb2⟩:=bcell hb2;have e1:=hbag2.cell 1;have e2:=hbag2.frozen 1;simp only[List.getElem?_cons_zero,List.getElem?_cons_succ]at e1;have hput:=hbag2.put1 (u:=.int .i64 (left-kk));have Hput:=Lib.hid hput;have Hbag2:=Lib.hid hbag2;clear hput hbag2 ht2 hat2;go_wp2_with fail;refine(Hpb.out _).mono ?_;rintro e w3 ⟨rfl,rfl⟩;have Hkeep:=Lib.hid (Hstk.out.keep 1 (by omega) kk ⟨hkk.1,hkk.2⟩);simp only at Hkeep;go_wp2_with fail;refine(opText_any x _ Hok.out).mono ?_;rintro e w4 ⟨rfl,hb4⟩;have hbW:=(hb2.setCell (p:=⟨w.heap.size,1,none⟩) (Nat.le_refl _) (.int .i64 (left-kk)));have hbW4:=hbW.trans (hb4.mono hbW.size);clear hbW;have HbW4:=Lib.hid hbW4;have hbag4:=Bag.below Hput.out hb4;have Hbag4:=Lib.hid hbag4;clear hbW4 hbag4;go_wp2_with fail;refine(add_any w.heap.size w.heap.size (left-kk) ⟨2,0,letters x.text 4⟩ ⟨by simp only;omega,by simp only;omega,by have:=letters_size x.text 4;simp only;omega⟩ (addR r ⟨1,kk,noText⟩) v2 _ (Mild.of hn' hk6 (by omega) Hkeep.out.1) (by have:=Hkeep.out.2;(try simp only at this);omega) Hbag4.out).mono ?_;rintro e w5 ⟨v5,rfl,hbag5,ht5,hat5⟩;have hb5:Below w.heap.size w w5:=HbW4.out.trans (ht5.toBelow HbW4.out.size Hbag4.out.sB);have Hbag5:=Lib.hid hbag5;clear hbag5 ht5 hat5 hb4
     go_wp2
     go_roundw
     case rel=>
      have hS:opStep rawText (r,left) x=(addR (addR r ⟨1,kk,noText⟩) ⟨2,0,letters x.text 4⟩,(left-kk)):=by rw[HS.out];simp[rawText]
      refine⟨k+1,v5,by omega,by omega,by go_num,?_,hb5⟩;rw[Hnx.out,hS];exact Hbag5.out
     case measure=>simp[intOf];omega
    ·have hdb2:(db==0)=false:=by simpa using hdb
     go_wp2_with fail;refine(add_any w.heap.size w.heap.size left ⟨1,kk,noText⟩ ⟨by simp only;omega,by simp only;omega,by simp only[noText_size];omega⟩ r v _ (Mild.of hn' hk6 Hstk.out.left.1 Hstk.out.each) (by have:=Hstk.out.len;simp only at this;omega) (Hbag.out.drewN _)).mono ?_;rintro e w2 ⟨v2,rfl,hbag2,ht2,hat2⟩;have hb2:Below w.heap.size w w2:=(below_drewN hb _).trans (ht2.toBelow hb.size Hbag.out.sB);obtain⟨hcb2,hfb2⟩:=bcell hb2;have e1:=hbag2.cell 1;have e2:=hbag2.frozen 1;simp only[List.getElem?_cons_zero,List.getElem?_cons_succ]at e1;have hput:=hbag2.put1 (u:=.int .i64 (left-kk));have Hput:=Lib.hid hput;have Hbag2:=Lib.hid hbag2;clear hput hbag2 ht2 hat2;go_wp2_with fail;refine(Hpb.out _).mono ?_;rintro e w3 ⟨rfl,rfl⟩;have Hkeep:=Lib.hid (Hstk.out.keep 1 (by omega) kk ⟨hkk.1,hkk.2⟩);simp only at Hkeep
     go_wp2
     go_roundw
     case rel=>
      have hS:opStep rawText (r,left) x=((addR r ⟨1,kk,noText⟩),(left-kk)):=by rw[HS.out];simp[hdb]
      refine⟨k+1,v2,by omega,by omega,by go_num,?_,(hb2.setCell (p:=⟨w.heap.size,1,none⟩) (Nat.le_refl _) (.int .i64 (left-kk)))⟩;rw[Hnx.out,hS];exact Hput.out
     case measure=>simp[intOf];omega
   ·subst h4;by_cases hdb:db=0
    ·subst hdb;go_wp2_with fail;refine(add_any w.heap.size w.heap.size left ⟨3,kk,noText⟩ ⟨by simp only;omega,by simp only;omega,by simp only[noText_size];omega⟩ r v _ (Mild.of hn' hk6 Hstk.out.left.1 Hstk.out.each) (by have:=Hstk.out.len;simp only at this;omega) (Hbag.out.drewN _)).mono ?_;rintro e w2 ⟨v2,rfl,hbag2,ht2,hat2⟩;have hb2:Below w.heap.size w w2:=(below_drewN hb _).trans (ht2.toBelow hb.size Hbag.out.sB);obtain⟨hcb2,hfb2⟩:=bcell hb2;have e1:=hbag2.cell 1;have e2:=hbag2.frozen 1;simp only[List.getElem?_cons_zero,List.getElem?_cons_succ]at e1;have hput:=hbag2.put1 (u:=.int .i64 (left-kk));have Hput:=Lib.hid hput;have Hbag2:=Lib.hid hbag2;clear hput hbag2 ht2 hat2;go_wp2_with fail;refine(Hpb.out _).mono ?_;rintro e w3 ⟨rfl,rfl⟩;have Hkeep:=Lib.hid (Hstk.out.keep 3 (by omega) kk ⟨hkk.1,hkk.2⟩);simp only at Hkeep;go_wp2_with fail;refine(opText_any x _ Hok.out).mono ?_;rintro e w4 ⟨rfl,hb4⟩;have hbW:=(hb2.setCell (p:=⟨w.heap.size,1,none⟩) (Nat.le_refl _) (.int .i64 (left-kk)));have hbW4:=hbW.trans (hb4.mono hbW.size);clear hbW;have HbW4:=Lib.hid hbW4;have hbag4:=Bag.below Hput.out hb4;have Hbag4:=Lib.hid hbag4;clear hbW4 hbag4;go_wp2_with fail;refine(add_any w.heap.size w.heap.size (left-kk) ⟨2,0,letters x.text 4⟩ ⟨by simp only;omega,by simp only;omega,by have:=letters_size x.text 4;simp only;omega⟩ (addR r ⟨3,kk,noText⟩) v2 _ (Mild.of hn' hk6 (by omega) Hkeep.out.1) (by have:=Hkeep.out.2;(try simp only at this);omega) Hbag4.out).mono ?_;rintro e w5 ⟨v5,rfl,hbag5,ht5,hat5⟩;have hb5:Below w.heap.size w w5:=HbW4.out.trans (ht5.toBelow HbW4.out.size Hbag4.out.sB);have Hbag5:=Lib.hid hbag5;clear hbag5 ht5 hat5 hb4
     go_wp2
     go_roundw
     case rel=>
      have hS:opStep rawText (r,left) x=(addR (addR r ⟨3,kk,noText⟩) ⟨2,0,letters x.text 4⟩,(left-kk)):=by rw[HS.out];simp[rawText]
      refine⟨k+1,v5,by omega,by omega,by go_num,?_,hb5⟩;rw[Hnx.out,hS];exact Hbag5.out
     case measure=>simp[intOf];omega
    ·have hdb2:(db==0)=false:=by simpa using hdb
     go_wp2_with fail;refine(add_any w.heap.size w.heap.size left ⟨3,kk,noText⟩ ⟨by simp only;omega,by simp only;omega,by simp only[noText_size];omega⟩ r v _ (Mild.of hn' hk6 Hstk.out.left.1 Hstk.out.each) (by have:=Hstk.out.len;simp only at this;omega) (Hbag.out.drewN _)).mono ?_;rintro e w2 ⟨v2,rfl,hbag2,ht2,hat2⟩;have hb2:Below w.heap.size w w2:=(below_drewN hb _).trans (ht2.toBelow hb.size Hbag.out.sB);obtain⟨hcb2,hfb2⟩:=bcell hb2;have e1:=hbag2.cell 1;have e2:=hbag2.frozen 1;simp only[List.getElem?_cons_zero,List.getElem?_cons_succ]at e1;have hput:=hbag2.put1 (u:=.int .i64 (left-kk));have Hput:=Lib.hid hput;have Hbag2:=Lib.hid hbag2;clear hput hbag2 ht2 hat2;go_wp2_with fail;refine(Hpb.out _).mono ?_;rintro e w3 ⟨rfl,rfl⟩;have Hkeep:=Lib.hid (Hstk.out.keep 3 (by omega) kk ⟨hkk.1,hkk.2⟩);simp only at Hkeep
     go_wp2
     go_roundw
     case rel=>
      have hS:opStep rawText (r,left) x=((addR r ⟨3,kk,noText⟩),(left-kk)):=by rw[HS.out];simp[hdb]
      refine⟨k+1,v2,by omega,by omega,by go_num,?_,(hb2.setCell (p:=⟨w.heap.size,1,none⟩) (Nat.le_refl _) (.int .i64 (left-kk)))⟩;rw[Hnx.out,hS];exact Hput.out
     case measure=>simp[intOf];omega
   ·subst h4;by_cases hdb:db=0
    ·subst hdb;go_wp2_with fail;refine(Hpb.out _).mono ?_;rintro e w3 ⟨rfl,rfl⟩;go_wp2_with fail;refine(opText_any x _ Hok.out).mono ?_;rintro e w4 ⟨rfl,hb4⟩;have hbW:=(below_drewN hb nq);have hbW4:=hbW.trans (hb4.mono hbW.size);clear hbW;have HbW4:=Lib.hid hbW4;have hbag4:=Bag.below (Hbag.out.drewN nq) hb4;have Hbag4:=Lib.hid hbag4;clear hbW4 hbag4;go_wp2_with fail;refine(add_any w.heap.size w.heap.size left ⟨2,0,letters x.text 4⟩ ⟨by simp only;omega,by simp only;omega,by have:=letters_size x.text 4;simp only;omega⟩ r v _ (Mild.of hn' hk6 (by omega) Hstk.out.each) (by have:=Hstk.out.len;(try simp only at this);omega) Hbag4.out).mono ?_;rintro e w5 ⟨v5,rfl,hbag5,ht5,hat5⟩;have hb5:Below w.heap.size w w5:=HbW4.out.trans (ht5.toBelow HbW4.out.size Hbag4.out.sB);have Hbag5:=Lib.hid hbag5;clear hbag5 ht5 hat5 hb4
     go_wp2
     go_roundw
     case rel=>
      have hS:opStep rawText (r,left) x=(addR r ⟨2,0,letters x.text 4⟩,left):=by rw[HS.out];simp[rawText]
      refine⟨k+1,v5,by omega,by omega,by go_num,?_,hb5⟩;rw[Hnx.out,hS];exact Hbag5.out
     case measure=>simp[intOf];omega
    ·have hdb2:(db==0)=false:=by simpa using hdb
     go_wp2_with fail;refine(Hpb.out _).mono ?_;rintro e w3 ⟨rfl,rfl⟩
     go_wp2
     go_roundw
     case rel=>
      have hS:opStep rawText (r,left) x=(r,left):=by rw[HS.out];simp[hdb]
      refine⟨k+1,v,by omega,by omega,by go_num,?_,(below_drewN hb _)⟩;rw[Hnx.out,hS];exact(Hbag.out.drewN _)
     case measure=>simp[intOf];omega
  ·have hfk:l.take k=l.take 6:=by
    have:=Hl.out;rw[List.take_eq_take_iff];omega
   rw[hfk]at hbag hstk;have Hfin:Hid (opOf rawText n l=(addR (opRun rawText n (l.take 6)).1 ⟨1,(opRun rawText n (l.take 6)).2,noText⟩).reverse):=rfl;rw[hfk]at hc1 hc0 hv;clear hfk;generalize opRun rawText n (l.take 6)=st at*;obtain⟨r,left⟩:=st;have hleft:=hstk.left;simp only at hc1 hleft hbag Hfin;have Hstk:=Lib.hid hstk;have Hbag:=Lib.hid hbag;have Hv:=Lib.hid hv;clear hstk hbag hv;by_cases hlt2:k<m
   all_goals
    have hx:Hid True:=trivial
    (try have h6:¬k<6:=fun h=>hgo ⟨hlt2,h⟩)
    clear hgo;go_wp2_with fail;refine(add_any w.heap.size w.heap.size left ⟨1,left,noText⟩ ⟨by simp only;omega,by simp only;omega,by simp only[noText_size];omega⟩ r v _ (Mild.of hn' hk6 Hstk.out.left.1 Hstk.out.each) (by have:=Hstk.out.len;simp only at this;omega) Hbag.out).mono ?_;rintro e w2 ⟨v2,rfl,hbag2,ht2,hat2⟩;have hb2:Below w.heap.size w w2:=hb.trans (ht2.toBelow hb.size Hbag.out.sB);obtain⟨a2,c2,hv2⟩:=hbag2.form;have hown2:=hbag2.own;have d0:=hbag2.cell 0;simp only[List.getElem?_cons_zero]at d0;rw[hv2]at hown2 d0;rw[←Hfin.out]at hown2 d0;have Hown2:=Lib.hid hown2;clear hown2 hbag2 ht2 hat2 hv2;go_wp2_with fail
    go_ret
    exact⟨a2,c2,rfl,Hown2.out,hb2⟩
end Go.Proofs.YtkbfhgcjimfgkaaDoor
set_option linter.unusedSimpArgs false
namespace Go.Proofs.YtkbfhgcjimfgkaaDoor
open Go.RowKit
structure Fr where
 kind:Int
 heard:Int
 epoch:Int
 op:Op
 text:Str
instance:Rep Fr where
 n:=5
 rd:=fun A w f cs=>∃a n c,cs=[.int .i64 f.kind,.int .i64 f.heard,.int .i64 f.epoch,.slice a n c,.string f.text]∧RdS A w f.op a n c∧I64 f.kind∧I64 f.heard∧I64 f.epoch∧f.text.size≤strMax
 len:=fun⟨_,_,_,h,_⟩=>by rw[h];rfl
 mono:=fun h ⟨a,n,c,e,hr,h2⟩=>⟨a,n,c,e,hr.mono h,h2⟩
 one:=fun⟨_,_,_,h,_⟩=>by rw[h];simp[Value.oneCell']
 pos:=by decide
def Fr.check (f:Fr):Int:=checkFrame f.kind f.heard f.epoch f.op f.text
def Fr.fits (f:Fr):Prop:=I64 f.kind∧I64 f.heard∧I64 f.epoch∧f.text.size≤strMax
structure Pkt where
 epoch:Int
 number:Int
 bare:Bool
 ack:Int
 f:Fr
def bareFr:Fr:=⟨0,0,0,[],noText⟩
instance:Rep Pkt where
 n:=9
 rd:=fun A w p cs=>∃a n c,cs=[.int .i64 p.epoch,.int .i64 p.number,.bool p.bare,.int .i64 p.ack,.int .i64 p.f.kind,.int .i64 p.f.heard,.int .i64 p.f.epoch,.slice a n c,.string p.f.text]∧RdS A w p.f.op a n c∧I64 p.epoch∧I64 p.number∧I64 p.ack∧p.f.fits
 len:=fun⟨_,_,_,h,_⟩=>by rw[h];rfl
 mono:=fun h ⟨a,n,c,e,hr,h2⟩=>⟨a,n,c,e,hr.mono h,h2⟩
 one:=fun⟨_,_,_,h,_⟩=>by rw[h];simp[Value.oneCell']
 pos:=by decide
structure Lk where
 epoch:Int
 next:Int
 sent:List Fr
 queue:List Fr
 heard:Int
structure Ed where
 sent:Int
 heard:Int
 pending:List Op
theorem RdS.frame {A:Nat→Prop}{w:World}{l:List Fr}{a:Option Addr}{n c:Nat}(hr:RdS A w l a n c)(hn:0<n):
 ∃b off,a=some ⟨b,off,none⟩∧A b∧b<w.heap.size∧∀i (h:i<l.length),∃a' n' c',RdS A w l[i].op a' n' c'∧l[i].fits∧w.cell? ⟨b,off+i*5,none⟩=some (.int .i64 l[i].kind)∧w.cell? ⟨b,off+i*5+1,none⟩=some (.int .i64 l[i].heard)∧
  w.cell? ⟨b,off+i*5+1+1,none⟩=some (.int .i64 l[i].epoch)∧w.cell? ⟨b,off+i*5+1+1+1,none⟩=some (.slice a' n' c')∧w.cell? ⟨b,off+i*5+1+1+1+1,none⟩=some (.string l[i].text):=by
 obtain⟨b,off,e,hA,hb,he⟩:=hr.2.2.2.2 hn;refine⟨b,off,e,hA,hb,fun i h=>?_⟩;obtain⟨xs,⟨a',n',c',rfl,h1,h2⟩,h4⟩:=he i l[i] (List.getElem?_eq_getElem h);exact⟨a',n',c',h1,h2,h4 0 _ rfl,h4 1 _ rfl,h4 2 _ rfl,h4 3 _ rfl,h4 4 _ rfl⟩
theorem RdS.rowO {α:Type} [Rep α] {A:Nat→Prop}{w:World}{ls:List (List α)}{a:Option Addr}{n c:Nat}(hr:RdS A w ls a n c)(hn:0<n):
 ∃b off,a=some ⟨b,off,none⟩∧A b∧b<w.heap.size∧∀i (h:i<ls.length),∃a' n' c',RdS A w ls[i] a' n' c'∧w.cell? ⟨b,off+i,none⟩=some (.slice a' n' c'):=by
 obtain⟨b,off,e,hA,hb,he⟩:=hr.2.2.2.2 hn;refine⟨b,off,e,hA,hb,fun i h=>?_⟩;obtain⟨xs,⟨a',n',c',rfl,h1⟩,h4⟩:=he i ls[i] (List.getElem?_eq_getElem h);have h5:=h4 0 _ rfl;refine⟨a',n',c',h1,?_⟩;have e1:off+i*Rep.n (List α)+0=off+i:=by show off+i*1+0=off+i;omega
 rw[e1]at h5;exact h5
end Go.Proofs.YtkbfhgcjimfgkaaDoor
namespace Go.Proofs.YtkbfhgcjimfgkaaDoor
open Go.RowKit
structure Rec where
 epoch:Int
 op:Op
instance:Rep Rec where
 n:=2
 rd:=fun A w x cs=>∃(a:Option Addr)(n c:Nat),cs=[.int .i64 x.epoch,.slice a n c]∧I64 x.epoch∧RdS A w x.op a n c
 len:=fun⟨_,_,_,h,_⟩=>by rw[h];rfl
 mono:=fun h ⟨a,n,c,e,hi,hr⟩=>⟨a,n,c,e,hi,hr.mono h⟩
 one:=fun⟨_,_,_,h,_⟩=>by rw[h];simp[Value.oneCell']
 pos:=by decide
end Go.Proofs.YtkbfhgcjimfgkaaDoor
namespace Go.Proofs.YtkbfhgcjimfgkaaDoor
open Go.RowKit
theorem bytes_ext {a b:ByteArray}(h:a.data.toList=b.data.toList):a=b:=by
 apply ByteArray.ext;exact Array.ext' h
theorem enc_dec_str (s:Str)(h:valid s=true):Uni.enc (Uni.dec s.data.toList)=s∧∀r∈Uni.dec s.data.toList,Uni.vr r:=by
 obtain⟨h1,h2⟩:=Uni.enc_dec_all s.data.toList h;refine⟨bytes_ext ?_,h2⟩;unfold Uni.enc;simp only;exact h1
theorem valid_ex {s:Str}(h:valid s=true):∃rs,s=Uni.enc rs∧∀r∈rs,Uni.vr r:=⟨_,(enc_dec_str s h).1.symm,(enc_dec_str s h).2⟩
theorem enc_append (a b:List Nat):Uni.enc (a++b)=Uni.enc a++Uni.enc b:=by
 apply bytes_ext;simp[Uni.enc,Uni.encL_append,ByteArray.data_append]
theorem append_valid {a b:Str}(ha:valid a=true)(hb:valid b=true):valid (a++b)=true∧rc (a++b)=rc a+rc b:=by
 obtain⟨x,rfl,hx⟩:=valid_ex ha;obtain⟨y,rfl,hy⟩:=valid_ex hb;have h:∀r∈x++y,Uni.vr r:=fun r hr=>by
  rcases List.mem_append.1 hr with h|h
  ·exact hx r h
  ·exact hy r h
 rw[←enc_append,valid_enc _ h,rc_enc _ h,rc_enc _ hx,rc_enc _ hy,List.length_append];exact⟨rfl,by push_cast;rfl⟩
theorem loop_len (s:ByteArray):∀(n i:Nat)(r:List UInt8),s.size-i≤n→(ByteArray.toList.loop s i r).length=r.length+(s.size-i):=by
 intro n
 induction n with
 |zero=>
  intro i r h;unfold ByteArray.toList.loop;rw[if_neg (by omega),List.length_reverse];omega
 |succ n ih=>
  intro i r h;unfold ByteArray.toList.loop;split
  ·rw[ih _ _ (by omega),List.length_cons];omega
  ·rw[List.length_reverse];omega
theorem emptyS_iff (s:Str):emptyS s=true↔s.size=0:=by
 unfold emptyS;rw[List.isEmpty_iff,←List.length_eq_zero_iff];unfold ByteArray.toList;rw[loop_len s s.size 0 [] (by omega)];simp
theorem emptyS_noText:emptyS noText=true:=by rw[emptyS_iff];rfl
theorem emptyS_append (a b:Str):emptyS (a++b)=(emptyS a&&emptyS b):=by
 have h1:=emptyS_iff a;have h2:=emptyS_iff b;have h3:=emptyS_iff (a++b);rw[size_app]at h3;rw[Bool.eq_iff_iff,Bool.and_eq_true,h1,h2,h3];omega
theorem app_noText (a:Str):a++noText=a:=by apply bytes_ext;simp[noText,ByteArray.data_append]
theorem eq_noText {s:Str}(h:emptyS s=true):s=noText:=by
 rw[emptyS_iff]at h;apply bytes_ext;have:s.data.toList.length=0:=by simpa using h
 rw[List.eq_nil_of_length_eq_zero this];rfl
theorem rc_empty {s:Str}(h:emptyS s=true):rc s=0:=by rw[eq_noText h];rfl
def Proto (p:Part):Prop:=((p.kind=1∨p.kind=3)∧0≤p.n∧p.text=noText)∨(p.kind=2∧p.n=0∧valid p.text=true)
def Solid (p:Part):Prop:=((p.kind=1∨p.kind=3)∧1≤p.n∧p.text=noText)∨(p.kind=2∧p.n=0∧valid p.text=true∧emptyS p.text=false)
def Canon:List Part→Prop
 |[]=>True
 |[p]=>Solid p
 |p::q::r=>Solid p∧clash q.kind p.kind=false∧Canon (q::r)
theorem Canon.tail {p:Part}{r:List Part}(h:Canon (p::r)):Canon r:=by
 cases r with
 |nil=>trivial
 |cons q r=>exact h.2.2
theorem Canon.head {p:Part}{r:List Part}(h:Canon (p::r)):Solid p:=by
 cases r with
 |nil=>exact h
 |cons q r=>exact h.1
theorem Canon.all {r:List Part}(h:Canon r):∀p∈r,Solid p:=by
 induction r with
 |nil=>simp
 |cons q r ih=>
  intro p hp;rcases List.mem_cons.1 hp with rfl|hp
  ·exact h.head
  ·exact ih h.tail p hp
theorem Canon.cons {p:Part}{r:List Part}(h:Canon r)(hp:Solid p)(hc:∀q,r.head?=some q→clash q.kind p.kind=false):Canon (p::r):=by
 cases r with
 |nil=>exact hp
 |cons q r=>exact⟨hp,hc q rfl,h⟩
theorem Proto.solid {p:Part}(h:Proto p)(ht:triv p=false):Solid p:=by
 rcases h with⟨hk,hn,ht2⟩|⟨hk,hn,hv⟩
 ·left;refine⟨hk,?_,ht2⟩;have:p.n≠0:=by
   intro h0;rcases hk with hk|hk<;>simp[triv,hk,h0]at ht
  omega
 ·right;refine⟨hk,hn,hv,?_⟩;simpa[triv,hk]using ht
theorem Solid.proto {p:Part}(h:Solid p):Proto p:=by
 rcases h with⟨a,b,c⟩|⟨a,b,c,_⟩
 ·exact .inl ⟨a,by omega,c⟩
 ·exact .inr ⟨a,b,c⟩
theorem merge_solid {p q:Part}(hq:Solid q)(hp:Proto p)(hk:q.kind=p.kind):Solid ⟨q.kind,q.n+p.n,q.text++p.text⟩:=by
 rcases hq with⟨a,b,c⟩|⟨a,b,c,d⟩
 ·rcases hp with⟨a',b',c'⟩|⟨a',_,_⟩
  ·exact .inl ⟨a,by simp only;omega,by simp only[c,c',app_noText]⟩
  ·omega
 ·rcases hp with⟨a',_,_⟩|⟨a',b',c'⟩
  ·omega
  ·exact .inr ⟨a,by simp only;omega,(append_valid c c').1,by simp only[emptyS_append,d,Bool.false_and]⟩
theorem clash_false {q p:Int}(h1:¬q=p)(h2:¬(p=2∧q=3)):clash q p=false:=by
 unfold clash;simp;exact⟨h1,fun h=>fun h'=>h2 ⟨h',h⟩⟩
theorem addR_canon {p:Part}(hp:Proto p):∀{r:List Part},Canon r→Canon (addR r p)∧(triv p=false→p.kind=2→(∀q,r.head?=some q→q.kind≠3)→∀q,(addR r p).head?=some q→q.kind=2)
 |[],_=>by
  cases ht:triv p with
  |true=>simp[addR,ht,Canon]
  |false=>rw[addR_nil ht];exact⟨hp.solid ht,fun _ hk _ q hq=>by simp at hq;rw[←hq];exact hk⟩
 |q::r,hc=>by
  cases ht:triv p with
  |true=>simp only[addR,ht];exact⟨hc,fun h=>by cases h⟩
  |false=>
   by_cases h1:q.kind=p.kind
   ·rw[addR_merge ht h1];refine⟨hc.tail.cons (merge_solid hc.head hp h1) (fun x hx=>?_),fun _ hk _ y hy=>by simp at hy;rw[←hy];simp only;omega⟩;cases r with
    |nil=>cases hx
    |cons z r=>simp at hx;subst hx;exact hc.2.1
   ·by_cases h2:p.kind=2∧q.kind=3
    ·rw[addR_swap ht h1 h2];have ih:=addR_canon hp hc.tail;have hh:∀x,r.head?=some x→x.kind≠3:=by
      intro x hx;cases r with
      |nil=>cases hx
      |cons z r=>
       simp at hx;subst hx;have:=hc.2.1;unfold clash at this;simp at this;omega
     refine⟨ih.1.cons hc.head (fun x hx=>?_),fun _ _ hq=>absurd h2.2 (hq q rfl)⟩;have:=ih.2 ht h2.1 hh x hx;rw[this,h2.2];rfl
    ·rw[addR_more ht h1 h2];exact⟨⟨hp.solid ht,clash_false h1 h2,hc⟩,fun _ hk _ y hy=>by simp at hy;rw[←hy];exact hk⟩
theorem sum_perm (f:Part→Int)(r:List Part):(r.reverse.map f).sum=(r.map f).sum:=by
 induction r with
 |nil=>rfl
 |cons p r ih=>simp only[List.reverse_cons,List.map_append,List.sum_append,ih,List.map_cons,List.sum_cons,List.map_nil,List.sum_nil];omega
theorem addR_sum (f:Part→Int)(P:Part→Prop){p:Part}(hp:P p)(h0:triv p=true→f p=0)(hadd:∀q,P q→q.kind=p.kind→f ⟨q.kind,q.n+p.n,q.text++p.text⟩=f q+f p):∀r:List Part,(∀q∈r,P q)→((addR r p).map f).sum=(r.map f).sum+f p
 |[],_=>by
  cases ht:triv p with
  |true=>simp[addR,ht,h0 ht]
  |false=>rw[addR_nil ht];simp
 |q::r,hr=>by
  cases ht:triv p with
  |true=>simp[addR,ht,h0 ht]
  |false=>
   by_cases h1:q.kind=p.kind
   ·rw[addR_merge ht h1];simp only[List.map_cons,List.sum_cons];rw[hadd q (hr q (by simp)) h1];omega
   ·by_cases h2:p.kind=2∧q.kind=3
    ·rw[addR_swap ht h1 h2];have ih:=addR_sum f P hp h0 hadd r (fun q h=>hr q (by simp[h]));simp only[List.map_cons,List.sum_cons];omega
    ·rw[addR_more ht h1 h2];simp only[List.map_cons,List.sum_cons];omega
theorem lenF_triv {p:Part}(h:triv p=true):lenF p=0:=by
 unfold triv at h;unfold lenF;simp at h;split
 ·rename_i hk;rcases h with h|h
  ·exact h.2
  ·omega
 ·rfl
theorem lenT_triv {p:Part}(h:triv p=true):lenT p=0:=by
 unfold triv at h;unfold lenT;simp at h;split
 ·rename_i hk;rcases h with h|h
  ·exact h.2
  ·omega
 ·split
  ·rename_i hk;rcases h with h|h
   ·exact absurd hk h.1
   ·exact rc_empty h.2
  ·rfl
theorem lenF_merge (q p:Part)(hk:q.kind=p.kind):lenF ⟨q.kind,q.n+p.n,q.text++p.text⟩=lenF q+lenF p:=by
 unfold lenF;simp only[hk];split<;>omega
theorem lenT_merge {q p:Part}(hq:Proto q)(hp:Proto p)(hk:q.kind=p.kind):lenT ⟨q.kind,q.n+p.n,q.text++p.text⟩=lenT q+lenT p:=by
 unfold lenT;simp only[hk];split
 ·rfl
 ·split
  ·rename_i h1 h2;rcases hq with⟨a,_,_⟩|⟨_,_,c⟩
   ·omega
   ·rcases hp with⟨a,_,_⟩|⟨_,_,c'⟩
    ·omega
    ·exact(append_valid c c').2
  ·rfl
theorem addR_sumF {p:Part}(r:List Part):sumF (addR r p)=sumF r+lenF p:=addR_sum lenF (fun _=>True) trivial lenF_triv (fun _ _ hk=>lenF_merge _ p hk) r (fun _ _=>trivial)
theorem addR_sumT {p:Part}(hp:Proto p)(r:List Part)(hr:Canon r):sumT (addR r p)=sumT r+lenT p:=addR_sum lenT Proto hp lenT_triv (fun _ hq hk=>lenT_merge hq hp hk) r (fun q h=>(hr.all q h).proto)
structure Lays (n:Int) (i:Nat) (st:List Part×Int):Prop where
 canon:Canon st.1
 sumF:sumF st.1+st.2=n
 left:0≤st.2
 sumT:0≤sumT st.1∧sumT st.1+st.2≤n+4*i
theorem proto_keep (k:Int)(h:0≤k):Proto ⟨1,k,noText⟩:=.inl ⟨.inl rfl,h,rfl⟩
theorem proto_del (k:Int)(h:0≤k):Proto ⟨3,k,noText⟩:=.inl ⟨.inr rfl,h,rfl⟩
theorem proto_ins (t:Str)(h:valid t=true):Proto ⟨2,0,t⟩:=.inr ⟨rfl,rfl,h⟩
theorem letters_valid (s:Str)(m:Nat):valid (letters s m)=true:=valid_enc _ (lets_vr s m)
theorem letters_rc (s:Str)(m:Nat):rc (letters s m)=min m s.size:=by
 unfold letters;rw[rc_enc _ (lets_vr s m),lets_len]
theorem lenF_keep (k:Int):lenF ⟨1,k,noText⟩=k:=by simp[lenF]
theorem lenT_keep (k:Int):lenT ⟨1,k,noText⟩=k:=by simp[lenT]
theorem lenF_del (k:Int):lenF ⟨3,k,noText⟩=k:=by simp[lenF]
theorem lenT_del (k:Int):lenT ⟨3,k,noText⟩=0:=by simp[lenT]
theorem lenF_ins (t:Str):lenF ⟨2,0,t⟩=0:=by simp[lenF]
theorem lenT_ins (t:Str):lenT ⟨2,0,t⟩=rc t:=by simp[lenT]
def Texts (f:Raw→Str):Prop:=∀x,valid (f x)=true∧rc (f x)≤4
theorem opStep_lays {n:Int}{i:Nat}{st:List Part×Int}{f:Raw→Str}(hf:Texts f)(x:Raw)(h:Lays n i st):Lays n (i+1) (opStep f st x):=by
 have h1:=h.left;have h2:=h.sumF;have h3:=h.sumT;have ha:=pk_range x.a 6 (by omega);have hk1:0≤min (pk x.a 6) st.2:=by omega
 have hk2:min (pk x.a 6) st.2≤st.2:=by omega
 have hr:=hf x;have hr0:=rc_nonneg (f x);have main:∀st1:List Part×Int,Lays n i st1→Lays n (i+1) (if pk x.b 2=0 then(addR st1.1 ⟨2,0,f x⟩,st1.2)else st1):=by
  intro st1 g;have g3:=g.sumT;by_cases hb:pk x.b 2=0
  ·rw[if_pos hb];exact⟨(addR_canon (proto_ins _ hr.1) g.canon).1,by simp only[addR_sumF,lenF_ins];have:=g.sumF;omega,g.left,by simp only[addR_sumT (proto_ins _ hr.1) _ g.canon,lenT_ins];push_cast;omega⟩
  ·rw[if_neg hb];exact⟨g.canon,g.sumF,g.left,by push_cast;omega⟩
 unfold opStep;simp only;generalize min (pk x.a 6) st.2=k at*;by_cases c1:pk x.kind 4=0∨pk x.kind 4=1
 ·rw[if_pos c1];exact main _ ⟨(addR_canon (proto_keep k hk1) h.canon).1,by simp only[addR_sumF,lenF_keep];omega,by simp only;omega,by simp only[addR_sumT (proto_keep k hk1) _ h.canon,lenT_keep];omega⟩
 ·rw[if_neg c1];by_cases c2:pk x.kind 4=2
  ·rw[if_pos c2];exact main _ ⟨(addR_canon (proto_del k hk1) h.canon).1,by simp only[addR_sumF,lenF_del];omega,by simp only;omega,by simp only[addR_sumT (proto_del k hk1) _ h.canon,lenT_del];omega⟩
  ·rw[if_neg c2];exact main _ h
theorem opRun_lays {f:Raw→Str}(hf:Texts f)(n:Int)(hn:0≤n)(l:List Raw):∀k,k≤l.length→Lays n k (opRun f n (l.take k)):=by
 intro k
 induction k with
 |zero=>intro _;simp only[List.take_zero,opRun,List.foldl_nil];exact⟨trivial,by simp[sumF],hn,by simp[sumT]⟩
 |succ k ih=>
  intro hk;rw[opRun_next f n l k (by omega)];exact opStep_lays hf _ (ih (by omega))
theorem opOf_lays {f:Raw→Str}(hf:Texts f)(n:Int)(hn:0≤n)(l:List Raw):∃r,opOf f n l=r.reverse∧Canon r∧sumF r=n∧0≤sumT r∧sumT r≤n+24:=by
 have h:=opRun_lays hf n hn (l.take 6) (l.take 6).length (Nat.le_refl _);rw[List.take_length]at h;have h3:=h.sumT;have hl:(l.take 6).length≤6:=by rw[List.length_take];omega
 refine⟨_,rfl,(addR_canon (proto_keep _ h.left) h.canon).1,by rw[addR_sumF,lenF_keep];exact h.sumF,?_,?_⟩
 ·rw[addR_sumT (proto_keep _ h.left) _ h.canon,lenT_keep];have:=h.left;omega
 ·rw[addR_sumT (proto_keep _ h.left) _ h.canon,lenT_keep];omega
theorem lens_nonneg {p:Part}(h:Solid p):0≤lenF p∧0≤lenT p:=by
 have:=rc_nonneg p.text;unfold lenF lenT;rcases h with⟨hk,hn,_⟩|⟨hk,hn,_⟩
 ·rcases hk with hk|hk<;>simp[hk]<;>omega
 ·simp[hk];omega
theorem le_sum (f:Part→Int):∀r:List Part,(∀p∈r,0≤f p)→0≤(r.map f).sum∧∀p∈r,f p≤(r.map f).sum
 |[],_=>by simp
 |q::r,h=>by
  have h1:=le_sum f r (fun p hp=>h p (by simp[hp]));have h2:=h q (by simp);simp only[List.map_cons,List.sum_cons];refine⟨by omega,fun p hp=>?_⟩;rcases List.mem_cons.1 hp with rfl|hp
  ·omega
  ·have:=h1.2 p hp;omega
theorem solid_ok {p:Part}(h:Solid p)(hf:lenF p≤4000)(ht:lenT p≤4000):partOk p=0:=by
 unfold partOk checkText;unfold lenF at hf;unfold lenT at ht;rcases h with⟨hk,hn,h3⟩|⟨hk,hn,hv,he⟩
 ·rw[if_pos hk]at hf⊢;rw[if_neg (by omega),h3,emptyS_noText];rfl
 ·simp[hk]at ht;rw[if_neg (by omega),if_pos hk,hv,hn,he];simp;omega
def clashO (q:Option Int)(k:Int):Bool:=match q with|some q=>clash q k|none=>false
def lastK (q:Option Int)(l:Op):Option Int:=match l.getLast? with|some x=>some x.kind|none=>q
theorem checkFrom_snoc (p:Part)(hp:partOk p=0):∀(l:Op)(q:Option Int),checkFrom q l=0→clashO (lastK q l) p.kind=false→checkFrom q (l++[p])=0
 |[],q,_,hc=>by
  rw[List.nil_append,checkFrom_drop q p [] hp hc];rfl
 |x::l,q,h,hc=>by
  have hx:partOk x=0:=by
   by_cases h0:partOk x=0
   ·exact h0
   ·cases q<;>simp only[checkFrom]at h<;>rw[if_pos h0]at h<;>exact h
  have hq:clashO q x.kind=false:=by
   cases hh:clashO q x.kind with
   |false=>rfl
   |true=>rw[checkFrom_clash q x l hx hh]at h;omega
  rw[checkFrom_drop q x l hx hq]at h;rw[List.cons_append,checkFrom_drop q x _ hx hq];refine checkFrom_snoc p hp l (some x.kind) h ?_;cases l with
  |nil=>exact hc
  |cons y l=>
   have e:lastK q (x::y::l)=lastK (some x.kind) (y::l):=by
    unfold lastK;rw[List.getLast?_cons_cons,List.getLast?_eq_some_getLast (by simp)]
   rw[←e];exact hc
theorem canon_from:∀(r:List Part),Canon r→(∀p∈r,partOk p=0)→checkFrom none r.reverse=0
 |[],_,_=>rfl
 |p::r,hc,h=>by
  rw[List.reverse_cons];refine checkFrom_snoc p (h p (by simp)) _ none (canon_from r hc.tail (fun q hq=>h q (by simp[hq]))) ?_;cases r with
  |nil=>rfl
  |cons q r=>unfold lastK;simp;exact hc.2.1
theorem canon_check {r:List Part}(hc:Canon r)(hl:r.length≤8001)(hf:sumF r≤4000)(ht:sumT r≤4000):check r.reverse=0:=by
 have ef:sumF r.reverse=sumF r:=sum_perm lenF r;have et:sumT r.reverse=sumT r:=sum_perm lenT r;have hF:=(le_sum lenF r (fun p hp=>(lens_nonneg (hc.all p hp)).1)).2;have hT:=(le_sum lenT r (fun p hp=>(lens_nonneg (hc.all p hp)).2)).2;have hok:∀p∈r,partOk p=0:=fun p hp=>solid_ok (hc.all p hp) (by have:=hF p hp;unfold sumF at hf;omega) (by have:=hT p hp;unfold sumT at ht;omega);unfold check;rw[if_neg (by rw[List.length_reverse];omega),canon_from r hc hok,ef,et,if_neg (by simp),if_neg (by omega)]
theorem opRun_len (f:Raw→Str)(n:Int)(l:List Raw):(opRun f n l).1.length≤2*l.length:=by
 unfold opRun;have key:∀(l:List Raw)(st:List Part×Int),(l.foldl (opStep f) st).1.length≤st.1.length+2*l.length:=by
  intro l
  induction l with
  |nil=>intro st;simp
  |cons x l ih=>
   intro st;have h1:=ih (opStep f st x);have h2:(opStep f st x).1.length≤st.1.length+2:=by
    unfold opStep;simp only;have a1:=fun k t=>addR_len st.1 ⟨1,k,t⟩;have a3:=fun k t=>addR_len st.1 ⟨3,k,t⟩
    (repeat' split)<;>(try simp only)<;>(first|(refine Nat.le_trans (addR_len _ _) ?_)|skip)<;>(first|(refine Nat.le_trans (Nat.add_le_add_right (addR_len _ _) 1) ?_)|skip)<;>(first|omega|(have:=addR_len st.1 ⟨1,min (pk x.a 6) st.2,noText⟩;have:=addR_len st.1 ⟨3,min (pk x.a 6) st.2,noText⟩;omega))
   simp only[List.foldl_cons,List.length_cons];omega
 have:=key l ([],n);simpa using this
theorem opOf_len (f:Raw→Str)(n:Int)(l:List Raw):(opOf f n l).length≤13:=by
 unfold opOf;simp only[List.length_reverse];have h1:=addR_len (opRun f n (l.take 6)).1 ⟨1,(opRun f n (l.take 6)).2,noText⟩;have h2:=opRun_len f n (l.take 6);rw[List.length_take]at h2;omega
theorem opOf_good {f:Raw→Str}(hf:Texts f)(n:Int)(hn:0≤n)(hn':n≤3976)(l:List Raw):check (opOf f n l)=0∧sumF (opOf f n l)=n∧0≤sumT (opOf f n l)∧sumT (opOf f n l)≤n+24:=by
 obtain⟨r,e,hc,h1,h2,h3⟩:=opOf_lays hf n hn l;have hlen:=opOf_len f n l;rw[e]at hlen⊢;rw[List.length_reverse]at hlen;have ef:sumF r.reverse=sumF r:=sum_perm lenF r;have et:sumT r.reverse=sumT r:=sum_perm lenT r;exact⟨canon_check hc (by omega) (by omega) (by omega),by rw[ef];exact h1,by rw[et];exact h2,by rw[et];exact h3⟩
theorem texts_letters:Texts rawText:=fun x=>⟨letters_valid _ _,by unfold rawText;rw[letters_rc];omega⟩
theorem opOf_fits {f:Raw→Str}(hf:∀x,(f x).size≤16)(n:Int)(hn:0≤n)(hn':n≤1000000000)(l:List Raw):∀p∈opOf f n l,I64 p.kind∧I64 p.n∧p.text.size≤strMax:=by
 have h:=opRun_stands f n hn (l.take 6) (fun x _=>hf x) (l.take 6).length (Nat.le_refl _);rw[List.take_length]at h;have hl:(l.take 6).length≤6:=by rw[List.length_take];omega
 have h2:=(h.keep 1 (by omega) _ ⟨h.left.1,Int.le_refl _⟩).1;intro p hp;unfold opOf at hp;simp only[List.mem_reverse]at hp;have:=h2 p hp;unfold I64 strMax;omega
theorem opOf_rd {f:Raw→Str}(hf:∀x,(f x).size≤16){n:Int}(hn:0≤n)(hn':n≤1000000000){l:List Raw}{w w':World}{a:Option Addr}{c:Nat}
 (h:w'.ownsRow w.heap.size 53 3 (.slice a (opOf f n l).length c) (opOf f n l).length (flat (opOf f n l))):RdS (fun b=>w.heap.size≤b) w' (opOf f n l) a (opOf f n l).length c:=by
 have hp:=opOf_fits hf n hn hn' l;generalize opOf f n l=o at*;obtain⟨a',n',c',hv,hr⟩:=RdS.of_row (α:=Part) (A:=fun b=>w.heap.size≤b) h (fun b hb=>(h.lt b hb).1) (fun i x hx=>⟨partCells x,⟨rfl,hp x (List.mem_of_getElem? hx)⟩,fun j u hu=>by
  obtain⟨h1,h2,h3⟩:=flat_at o i x hx;simp only[Rep.n]
  match j,hu with
  |0,hu=>simp[partCells]at hu;rw[←hu];exact h1
  |1,hu=>simp[partCells]at hu;rw[←hu];exact h2
  |2,hu=>simp[partCells]at hu;rw[←hu];exact h3⟩)
 have e:=(Value.slice.injEq .. ▸hv:a=a'∧o.length=n'∧c=c');obtain⟨rfl,rfl,rfl⟩:=e;exact hr
set_option maxHeartbeats 400000 in
theorem mkOp_any (A:Nat→Prop)(n:Int)(l:List Raw)(a:Option Addr)(m c:Nat)(w:World)(hA:∀b,A b→b<w.heap.size)(hr:RdS A w l a m c)(hn:0≤n)(hn':n≤1000000000):
 Calls Tryd.prog 19 #[.int .i64 n,.slice a m c] w fun e w'=>∃a' c',e=.returned (.slice a' (mkOp n l).length c')∧RdS (fun b=>w.heap.size≤b) w' (mkOp n l) a' (mkOp n l).length c'∧Below w.heap.size w w':=by
 have H:=Lib.hid (op_any A n l a m c w hA hr hn hn');clear hr;have Hrd:Hid (∀(w':World)(a':Option Addr)(c':Nat),w'.ownsRow w.heap.size 53 3 (.slice a' (mkOp n l).length c') (mkOp n l).length (flat (mkOp n l))→RdS (fun b=>w.heap.size≤b) w' (mkOp n l) a' (mkOp n l).length c'):=
  fun w' a' c' h=>opOf_rd (fun x=>by unfold rawText;have:=letters_size x.text 4;omega) hn hn' h
 have e:∀w',OpPost n l rawText w w'=OpPost n l rawText w w':=fun _=>rfl;clear e;unfold OpPost at H;change Hid (Calls _ _ _ _ fun e w'=>∃a c,e=.returned (.slice a (mkOp n l).length c)∧w'.ownsRow w.heap.size 53 3 (.slice a (mkOp n l).length c) (mkOp n l).length (flat (mkOp n l))∧Below w.heap.size w w')at H;generalize mkOp n l=o at*;go_enter Tryd.func19,Tryd.ntmps19;go_wp2_with fail;refine H.out.mono ?_;rintro e w1 ⟨a1,c1,rfl,hown,hb⟩;go_wp2_with fail
 go_ret
 exact⟨a1,c1,rfl,Hrd.out _ _ _ hown,hb⟩
end Go.Proofs.YtkbfhgcjimfgkaaDoor
