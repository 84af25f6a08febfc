/- The walk of text.Apply. -/
import Derived.Test.YtkbfhgcjimfgkaaDoorPartA4
import Derived.Test.YtkbfhgcjimfgkaaDoorPartA2
import Derived.Test.YtkbfhgcjimfgkaaDoorRows
import Derived.Lib.Builder
import Derived.Lib.AppendStr
import Derived.Lib.UnsafeStr
import Derived.Laws.Externs
import Derived.BigQuiet
import Derived.Test.YtkbfhgcjimfgkaaDoorPartA3
set_option linter.unusedVariables false
set_option linter.unusedSimpArgs false
namespace Go.Proofs.YtkbfhgcjimfgkaaDoor
inductive P where
 |k (n:Nat)
 |i (l:List Nat)
 |d (n:Nat)
def P.F:P→Nat
 |.k n=>n
 |.i _=>0
 |.d n=>n
def P.T:P→Nat
 |.k n=>n
 |.i l=>l.length
 |.d _=>0
def P.z:P→Nat
 |.k n=>n
 |.i l=>l.length
 |.d n=>n
def P.cut:P→Nat→P
 |.k m,n=>.k (m-n)
 |.i l,n=>.i (l.drop n)
 |.d m,n=>.d (m-n)
def P.ok:P→Prop
 |.k n=>1≤n
 |.i l=>l≠[]∧∀r∈l,Uni.vr r
 |.d n=>1≤n
def P.part:P→Part
 |.k n=>⟨1,n,noText⟩
 |.i l=>⟨2,0,Uni.enc l⟩
 |.d n=>⟨3,n,noText⟩
def FS:List P→Nat
 |[]=>0
 |p::r=>p.F+FS r
def TS:List P→Nat
 |[]=>0
 |p::r=>p.T+TS r
def ZS:List P→Nat
 |[]=>0
 |p::r=>p.z+ZS r
theorem FS_app (a b:List P):FS (a++b)=FS a+FS b:=by
 induction a with
 |nil=>simp[FS]
 |cons p a ih=>simp only[List.cons_append,FS,ih];omega
theorem TS_app (a b:List P):TS (a++b)=TS a+TS b:=by
 induction a with
 |nil=>simp[TS]
 |cons p a ih=>simp only[List.cons_append,TS,ih];omega
theorem FS_rev (a:List P):FS a.reverse=FS a:=by
 induction a with
 |nil=>rfl
 |cons p a ih=>simp only[List.reverse_cons,FS_app,FS,ih];omega
theorem TS_rev (a:List P):TS a.reverse=TS a:=by
 induction a with
 |nil=>rfl
 |cons p a ih=>simp only[List.reverse_cons,TS_app,TS,ih];omega
def app:List Nat→List P→List Nat
 |_,[]=>[]
 |t,.k n::r=>t.take n++app (t.drop n) r
 |t,.i l::r=>l++app t r
 |t,.d n::r=>app (t.drop n) r
theorem app_app (a b:List P):∀t,app t (a++b)=app t a++app (t.drop (FS a)) b:=by
 induction a with
 |nil=>intro t;simp[app,FS]
 |cons p a ih=>
  intro t;cases p with
  |k n=>simp only[List.cons_append,app,ih,FS,P.F,List.drop_drop,List.append_assoc]
  |i l=>simp only[List.cons_append,app,ih,FS,P.F,List.append_assoc,Nat.zero_add]
  |d n=>simp only[List.cons_append,app,ih,FS,P.F,List.drop_drop]
theorem app_len (a:List P):∀t:List Nat,FS a≤t.length→(app t a).length=TS a:=by
 induction a with
 |nil=>intro t _;rfl
 |cons p a ih=>
  intro t h;cases p with
  |k n=>
   simp only[FS,P.F]at h;simp only[app,TS,P.T,List.length_append,List.length_take];rw[ih _ (by simp;omega)];omega
  |i l=>
   simp only[FS,P.F]at h;simp only[app,TS,P.T,List.length_append];rw[ih _ (by omega)]
  |d n=>
   simp only[FS,P.F]at h;simp only[app,TS,P.T];rw[ih _ (by simp;omega)];omega
theorem app_vr (a:List P):∀t:List Nat,(∀r∈t,Uni.vr r)→(∀p∈a,p.ok)→∀r∈app t a,Uni.vr r:=by
 induction a with
 |nil=>intro t _ _ r hr;cases hr
 |cons p a ih=>
  intro t ht ha r hr;have hta:∀n,∀r∈t.drop n,Uni.vr r:=fun n r h=>ht r (List.mem_of_mem_drop h);have ha':∀p∈a,p.ok:=fun p h=>ha p (List.mem_cons_of_mem _ h);cases p with
  |k n=>
   simp only[app,List.mem_append]at hr;rcases hr with h|h
   ·exact ht r (List.mem_of_mem_take h)
   ·exact ih _ (hta n) ha' r h
  |i l=>
   simp only[app,List.mem_append]at hr;rcases hr with h|h
   ·exact(ha (.i l) (List.mem_cons_self ..)).2 r h
   ·exact ih _ ht ha' r h
  |d n=>exact ih _ (hta n) ha' r hr
def addP:List P→P→List P
 |r,.k n=>if n=0 then r else match r with
  |.k m::r'=>.k (m+n)::r'
  |r'=>.k n::r'
 |r,.d n=>if n=0 then r else match r with
  |.d m::r'=>.d (m+n)::r'
  |r'=>.d n::r'
 |[],.i l=>if l=[]then []else [.i l]
 |.k m::r,.i l=>if l=[]then .k m::r else .i l::.k m::r
 |.i m::r,.i l=>if l=[]then .i m::r else .i (m++l)::r
 |.d m::r,.i l=>if l=[]then .d m::r else .d m::addP r (.i l)
theorem FS_addP (p:P):∀r,FS (addP r p)=FS r+p.F:=by
 cases p with
 |k n=>
  intro r;unfold addP;split
  ·simp[P.F];omega
  ·split
   ·simp only[FS,P.F];omega
   ·simp only[FS,P.F];omega
 |d n=>
  intro r;unfold addP;split
  ·simp[P.F];omega
  ·split
   ·simp only[FS,P.F];omega
   ·simp only[FS,P.F];omega
 |i l=>
  intro r
  induction r with
  |nil=>unfold addP;split<;>simp[FS,P.F]
  |cons q r ih=>
   cases q with
   |k m=>unfold addP;split<;>simp[FS,P.F]
   |i m=>unfold addP;split<;>simp[FS,P.F]
   |d m=>
    unfold addP;split
    ·simp[FS,P.F]
    ·simp only[FS,P.F]at ih⊢;omega
theorem TS_addP (p:P):∀r,TS (addP r p)=TS r+p.T:=by
 cases p with
 |k n=>
  intro r;unfold addP;split
  ·simp[P.T];omega
  ·split
   ·simp only[TS,P.T];omega
   ·simp only[TS,P.T];omega
 |d n=>
  intro r;unfold addP;split
  ·simp[P.T]
  ·split
   ·simp only[TS,P.T];omega
   ·simp only[TS,P.T];omega
 |i l=>
  intro r
  induction r with
  |nil=>unfold addP;split<;>simp_all[TS,P.T]
  |cons q r ih=>
   cases q with
   |k m=>unfold addP;split<;>simp_all[TS,P.T];omega
   |i m=>unfold addP;split<;>simp_all[TS,P.T];omega
   |d m=>
    unfold addP;split
    ·simp_all[TS,P.T]
    ·simp only[TS,P.T]at ih⊢;omega
theorem app_addP (p:P):∀(r:List P)(t:List Nat),app t (addP r p).reverse=app t (p::r).reverse:=by
 have two:∀(x y z:P)(r:List P)(h:∀u,app u [x,y]=app u [z])(hF:FS [x,y]=FS [z])(t:List Nat),app t (z::r).reverse=app t (y::x::r).reverse:=by
  intro x y z r h hF t;simp only[List.reverse_cons,List.append_assoc,List.cons_append,List.nil_append];rw[app_app,app_app,h]
 cases p with
 |k n=>
  intro r t;unfold addP;split
  ·rename_i h;subst h;simp[app_app,app]
  ·split
   ·rename_i m r';exact two (.k m) (.k n) (.k (m+n)) r' (fun u=>by simp[app,List.take_add]) (by simp[FS,P.F]) t
   ·rfl
 |d n=>
  intro r t;unfold addP;split
  ·rename_i h;subst h;simp[app_app,app]
  ·split
   ·rename_i m r';exact two (.d m) (.d n) (.d (m+n)) r' (fun u=>by simp[app]) (by simp[FS,P.F]) t
   ·rfl
 |i l=>
  intro r
  induction r with
  |nil=>intro t;unfold addP;split<;>simp_all[app]
  |cons q r ih=>
   intro t;cases q with
   |k m=>unfold addP;split<;>simp_all[app,app_app]
   |i m=>
    unfold addP;split
    ·simp_all[app,app_app]
    ·exact two (.i m) (.i l) (.i (m++l)) r (fun u=>by simp[app]) (by simp[FS,P.F]) t
   |d m=>
    unfold addP;split
    ·simp_all[app,app_app]
    ·have hF:=FS_addP (.i l) r;rw[List.reverse_cons,app_app,ih t,FS_rev,hF];simp only[List.reverse_cons,app_app,app,List.append_assoc,List.append_nil,List.nil_append]
def P.clash:P→P→Bool
 |.k _,.k _=>true
 |.i _,.i _=>true
 |.d _,.d _=>true
 |.d _,.i _=>true
 |_,_=>false
def Can:List P→Prop
 |[]=>True
 |[p]=>p.ok
 |p::q::r=>p.ok∧q.clash p=false∧Can (q::r)
theorem Can.tail {p:P}{r:List P}(h:Can (p::r)):Can r:=by
 cases r with
 |nil=>trivial
 |cons q r=>exact h.2.2
theorem Can.head {p:P}{r:List P}(h:Can (p::r)):p.ok:=by
 cases r with
 |nil=>exact h
 |cons q r=>exact h.1
theorem Can.all {r:List P}(h:Can r):∀p∈r,p.ok:=by
 induction r with
 |nil=>simp
 |cons q r ih=>
  intro p hp;rcases List.mem_cons.1 hp with rfl|hp
  ·exact h.head
  ·exact ih h.tail p hp
theorem Can.cons {p:P}{r:List P}(h:Can r)(hp:p.ok)(hc:∀q,r.head?=some q→q.clash p=false):Can (p::r):=by
 cases r with
 |nil=>exact hp
 |cons q r=>exact⟨hp,hc q rfl,h⟩
theorem Can.next {p q:P}{r:List P}(h:Can (p::r))(hq:r.head?=some q):q.clash p=false:=by
 cases r with
 |nil=>cases hq
 |cons x r=>simp at hq;subst hq;exact h.2.1
theorem addP_can (p:P)(hp:∀l,p=.i l→∀r∈l,Uni.vr r):∀r:List P,Can r→Can (addP r p):=by
 cases p with
 |k n=>
  intro r hr;unfold addP;split
  ·exact hr
  ·rename_i h0;split
   ·rename_i m r';refine hr.tail.cons (by have:=hr.head;unfold P.ok at*;omega) (fun q hq=>?_);have:=hr.next hq
    cases q<;>simp_all[P.clash]
   ·rename_i hne;refine hr.cons (by unfold P.ok;omega) (fun q hq=>?_);cases q with
    |k m=>
     cases r with
     |nil=>cases hq
     |cons x r=>simp at hq;subst hq;exact absurd rfl (hne m r)
    |i m=>rfl
    |d m=>rfl
 |d n=>
  intro r hr;unfold addP;split
  ·exact hr
  ·rename_i h0;split
   ·rename_i m r';refine hr.tail.cons (by have:=hr.head;unfold P.ok at*;omega) (fun q hq=>?_);have:=hr.next hq
    cases q<;>simp_all[P.clash]
   ·rename_i hne;refine hr.cons (by unfold P.ok;omega) (fun q hq=>?_);cases q with
    |d m=>
     cases r with
     |nil=>cases hq
     |cons x r=>simp at hq;subst hq;exact absurd rfl (hne m r)
    |i m=>rfl
    |k m=>rfl
 |i l=>
  have hl:=hp l rfl;have key:∀r:List P,Can r→Can (addP r (.i l))∧(∀q,(∀x,r.head?=some x→x.clash q=false)→(∃m,q=.d m)→∀x,(addP r (.i l)).head?=some x→x.clash q=false):=by
   intro r
   induction r with
   |nil=>
    intro _;unfold addP;split
    ·exact⟨trivial,fun q _ _ x hx=>by cases hx⟩
    ·rename_i h0;exact⟨⟨h0,hl⟩,fun q _ ⟨m,hm⟩ x hx=>by simp at hx;subst hx hm;rfl⟩
   |cons y r ih=>
    intro hr;cases y with
    |k m=>
     unfold addP;split
     ·exact⟨hr,fun q hq _ x hx=>hq x hx⟩
     ·rename_i h0;exact⟨hr.cons ⟨h0,hl⟩ (fun q hq=>by simp at hq;subst hq;rfl),fun q _ ⟨m,hm⟩ x hx=>by simp at hx;subst hx hm;rfl⟩
    |i m=>
     unfold addP;split
     ·exact⟨hr,fun q hq _ x hx=>hq x hx⟩
     ·rename_i h0;refine⟨hr.tail.cons ?_ (fun q hq=>?_),fun q _ ⟨m,hm⟩ x hx=>by simp at hx;subst hx hm;rfl⟩
      ·refine⟨by simp[h0],fun r' hr'=>?_⟩;rcases List.mem_append.1 hr' with h|h
       ·exact hr.head.2 r' h
       ·exact hl r' h
      ·have:=hr.next hq
       cases q<;>simp_all[P.clash]
    |d m=>
     unfold addP;split
     ·exact⟨hr,fun q hq _ x hx=>hq x hx⟩
     ·have h1:=ih hr.tail;refine⟨h1.1.cons hr.head (fun q hq=>h1.2 (.d m) (fun x hx=>hr.next hx) ⟨m,rfl⟩ q hq),fun q hq hm x hx=>hq x (by simpa using hx)⟩
  exact fun r hr=>(key r hr).1
end Go.Proofs.YtkbfhgcjimfgkaaDoor
set_option linter.unusedSimpArgs false
namespace Go.Proofs.YtkbfhgcjimfgkaaDoor
open Go.RowKit
theorem checkFrom_all:∀(l:Op)(q:Option Int),checkFrom q l=0→∀p∈l,partOk p=0
 |[],_,_,p,hp=>by cases hp
 |p::l,q,h,p',hp'=>by
  have h0:partOk p=0:=by
   by_cases h0:partOk p=0
   ·exact h0
   ·have e:checkFrom q (p::l)=partOk p:=by cases q<;>rw[checkFrom,if_pos h0]
    rw[e]at h;exact absurd h h0
  have h1:checkFrom (some p.kind) l=0:=by
   cases hc:(match q with|some q=>clash q p.kind|none=>false)with
   |false=>rwa[checkFrom_drop q p l h0 hc]at h
   |true=>rw[checkFrom_clash q p l h0 hc]at h;exact absurd h (by decide)
  rcases List.mem_cons.1 hp' with rfl|hp'
  ·exact h0
  ·exact checkFrom_all l _ h1 p' hp'
theorem check_zero {l:Op}(h:check l=0):l.length≤8001∧(∀p∈l,partOk p=0)∧sumF l≤4000∧sumT l≤4000:=by
 unfold check at h;split at h
 ·exact absurd h (by decide)
 ·split at h
  ·rename_i h1;exact absurd h h1
  ·split at h
   ·exact absurd h (by decide)
   ·rename_i h1 h2 h3;exact⟨by omega,checkFrom_all l none (by simpa using h2),by omega,by omega⟩
theorem check_small {l:Op}(h:check l=0):Small l:=by
 obtain⟨h1,h2,_,_⟩:=check_zero h;exact⟨by omega,fun p hp=>by have:=partOk_small (h2 p hp);omega⟩
theorem sum_parts (f:Part→Int)(l:Op)(k:Nat)(h:∀p∈l,0≤f p):((l.take k).map f).sum≤(l.map f).sum∧0≤((l.take k).map f).sum:=by
 induction l generalizing k with
 |nil=>simp
 |cons p l ih=>
  have hp:=h p (by simp);cases k with
  |zero=>
   have:=(ih l.length (fun p hp=>h p (by simp[hp]))).2;rw[List.take_length]at this;simp;omega
  |succ k=>
   have:=ih k (fun p hp=>h p (by simp[hp]));simp only[List.take_succ_cons,List.map_cons,List.sum_cons];omega
theorem partOk_kind {p:Part}(h:partOk p=0):(p.kind=1∧1≤p.n∧p.n≤4000)∨(p.kind=2∧p.n=0∧0≤rc p.text)∨(p.kind=3∧1≤p.n∧p.n≤4000):=by
 have hs:=partOk_small h;unfold partOk at h;by_cases h1:p.kind=1
 ·left;simp only[h1,true_or,if_true]at h;split at h
  ·exact absurd h (by decide)
  ·exact⟨h1,by omega,by omega⟩
 ·by_cases h3:p.kind=3
  ·right;right;simp only[h3,or_true,if_true]at h;split at h
   ·exact absurd h (by decide)
   ·exact⟨h3,by omega,by omega⟩
  ·by_cases h2:p.kind=2
   ·right;left;rw[if_neg (by omega),if_pos h2]at h;split at h
    ·rename_i h4;exact absurd h h4
    ·split at h
     ·exact absurd h (by decide)
     ·rename_i h5;refine⟨h2,?_,?_⟩
      ·by_cases h6:p.n=0
       ·exact h6
       ·exact absurd (.inr h6) h5
      ·have:=hs.2.2.1;simpa[lenT,h2]using this
   ·rw[if_neg (by omega),if_neg h2]at h;exact absurd h (by decide)
theorem i12:((1:Int)=2)=False:=by simp
theorem i32:((3:Int)=2)=False:=by simp
theorem i31:((3:Int)=1)=False:=by simp
def mv (push:Bool):Op→Int→Int→Int→Int
 |[],_,_,new=>new
 |p::l,a,old,new=>
  if p.kind=2 then(if old=a∧push=false then new+a-old else mv push l a old (new+rc p.text))
  else if p.kind=1 then(if a<old+p.n then new+a-old else mv push l a (old+p.n) (new+p.n))
  else mv push l (if a<old+p.n then old+p.n else a) (old+p.n) new
theorem sumF_cons (p:Part)(l:Op):sumF (p::l)=lenF p+sumF l:=by simp[sumF]
theorem sumT_cons (p:Part)(l:Op):sumT (p::l)=lenT p+sumT l:=by simp[sumT]
theorem sumT_nonneg (l:Op)(h:∀p∈l,partOk p=0):0≤sumT l:=by
 have:=(sum_parts lenT l l.length (fun p hp=>(partOk_small (h p hp)).2.2.1)).2;rwa[List.take_length]at this
theorem sumF_nonneg (l:Op)(h:∀p∈l,partOk p=0):0≤sumF l:=by
 have:=(sum_parts lenF l l.length (fun p hp=>(partOk_small (h p hp)).1)).2;rwa[List.take_length]at this
theorem mv_bound (push:Bool)(l:Op)(h:∀p∈l,partOk p=0):∀(a old new:Int),old≤a→new≤mv push l a old new∧mv push l a old new≤new+sumT l:=by
 induction l with
 |nil=>intro a old new _;simp[mv,sumT]
 |cons p l ih=>
  intro a old new ha;have ih2:=ih (fun p hp=>h p (by simp[hp]));have hT:=sumT_nonneg l (fun p hp=>h p (by simp[hp]));rw[sumT_cons];rcases partOk_kind (h p (by simp))with⟨k,n1,n2⟩|⟨k,n1,n2⟩|⟨k,n1,n2⟩
  ·have e:lenT p=p.n:=by simp[lenT,k]
   simp only[mv,k,e,i12,i32,i31,if_false,if_true];split
   ·omega
   ·have:=ih2 a (old+p.n) (new+p.n) (by omega);omega
  ·have e:lenT p=rc p.text:=by simp[lenT,k]
   simp only[mv,k,e,i12,i32,i31,if_false,if_true];split
   ·omega
   ·have:=ih2 a old (new+rc p.text) ha;omega
  ·have e:lenT p=0:=by simp[lenT,k]
   simp only[mv,k,e,i12,i32,i31,if_false,if_true];have:=ih2 (if a<old+p.n then old+p.n else a) (old+p.n) new (by split<;>omega);omega
theorem size_any (p:Part)(w:World)(h2:I64 p.n)(h3:p.text.size≤strMax):
 Calls Tryd.prog 93 #[.agg #[.int .i64 p.kind,.int .i64 p.n,.string p.text]] w fun e w'=>e=.returned (.int .i64 (if p.kind=2 then rc p.text else p.n))∧Below w.heap.size w w':=by
 obtain⟨k,n,t⟩:=p;simp only at h2 h3⊢;rcases Int.decEq k 2 with h|rfl
 ·have g:(k==2)=false:=by simp[h]
  rw[if_neg h];clear h;go_enter Tryd.func93,Tryd.ntmps93;go_wp2_with fail
  go_ret
  exact⟨rfl,by(repeat (first|exact Below.refl _ _|assumption|(refine Below.drew ?_)|(refine below_drewN ?_ _)|(refine Below.alloc ?_ (by first|(simp;done)|(simp;omega)|omega) _)|(refine Below.setCell ?_ (by first|(simp;done)|(simp;omega)|omega) _)|(refine Below.trans ?_ (Below.mono (by assumption) (by first|(simp;done)|(simp;omega)|omega)))))⟩
 ·rw[if_pos rfl];go_enter Tryd.func93,Tryd.ntmps93;go_wp2_with (go_at_call 31;refine(rc_any t _ h3).mono ?_;rintro e w1 ⟨rfl,hb1⟩;obtain⟨hc1,hf1⟩:=bcell hb1)
  go_ret
  exact⟨rfl,by(repeat (first|exact Below.refl _ _|assumption|(refine Below.drew ?_)|(refine below_drewN ?_ _)|(refine Below.alloc ?_ (by first|(simp;done)|(simp;omega)|omega) _)|(refine Below.setCell ?_ (by first|(simp;done)|(simp;omega)|omega) _)|(refine Below.trans ?_ (Below.mono (by assumption) (by first|(simp;done)|(simp;omega)|omega)))))⟩
end Go.Proofs.YtkbfhgcjimfgkaaDoor
namespace Go.Proofs.YtkbfhgcjimfgkaaDoor
open Go.RowKit
def rns (s:Str):List Nat:=Uni.dec s.data.toList
theorem rc_rns (s:Str):rc s=(rns s).length:=by unfold rc rns;rw[Uni.count_dec]
theorem rns_enc {l:List Nat}(h:∀r∈l,Uni.vr r):rns (Uni.enc l)=l:=by unfold rns Uni.enc;exact Uni.dec_enc_all l h
theorem enc_rns {s:Str}(h:valid s=true):Uni.enc (rns s)=s:=(enc_dec_str s h).1
theorem rns_vr {s:Str}(h:valid s=true):∀r∈rns s,Uni.vr r:=(enc_dec_str s h).2
def toP (p:Part):P:=if p.kind=1 then .k p.n.toNat else if p.kind=2 then .i (rns p.text)else .d p.n.toNat
def opP (o:Op):List P:=o.map toP
theorem part_toP {p:P}(h:p.ok):toP p.part=p:=by
 cases p with
 |k n=>simp[toP,P.part]
 |i l=>simp only[toP,P.part];rw[if_neg (by decide),if_true,rns_enc h.2]
 |d n=>simp[toP,P.part]
theorem toP_part {p:Part}(h:Solid p):(toP p).part=p∧(toP p).ok:=by
 obtain⟨k,n,t⟩:=p;rcases h with⟨hk,hn,ht⟩|⟨hk,hn,hv,he⟩
 ·simp only at hk hn ht;subst ht;rcases hk with rfl|rfl
  ·simp only[toP,if_true,P.part,P.ok];exact⟨by congr;omega,by omega⟩
  ·simp only[toP,P.part,P.ok];rw[if_neg (by decide),if_neg (by decide)];exact⟨by simp only;congr;omega,by simp only;omega⟩
 ·simp only at hk hn hv he;subst hk hn;simp only[toP];rw[if_neg (by decide),if_true];refine⟨by simp only[P.part,enc_rns hv],?_,rns_vr hv⟩;intro h0;have:Uni.enc (rns t)=t:=enc_rns hv;rw[h0]at this;rw[←this]at he;have h2:emptyS (Uni.enc [])=true:=by rw[emptyS_iff];rfl
  rw[h2]at he;cases he
theorem part_solid {p:P}(h:p.ok):Solid p.part:=by
 cases p with
 |k n=>exact .inl ⟨.inl rfl,by unfold P.ok at h;simp only[P.part];omega,rfl⟩
 |d n=>exact .inl ⟨.inr rfl,by unfold P.ok at h;simp only[P.part];omega,rfl⟩
 |i l=>
  refine .inr ⟨rfl,rfl,valid_enc _ h.2,?_⟩;simp only[P.part];cases he:emptyS (Uni.enc l)with
  |false=>rfl
  |true=>
   have h1:=rc_empty he;rw[rc_enc _ h.2]at h1;exact absurd (List.eq_nil_of_length_eq_zero (by omega)) h.1
theorem solid_of_ok {p:Part}(h:partOk p=0):Solid p:=by
 obtain⟨k,n,t⟩:=p;unfold partOk at h;simp only at h;by_cases h1:k=1∨k=3
 ·rw[if_pos h1]at h;by_cases h2:n<1∨4000<n
  ·rw[if_pos h2]at h;omega
  ·rw[if_neg h2]at h;cases he:emptyS t with
   |false=>rw[he]at h;simp at h
   |true=>exact .inl ⟨h1,by simp only;omega,eq_noText he⟩
 ·rw[if_neg h1]at h;by_cases h2:k=2
  ·rw[if_pos h2]at h;by_cases h3:checkText t=0
   ·rw[if_neg (by simpa using h3)]at h;have hv:valid t=true:=by
     unfold checkText at h3;cases hv:valid t with
     |true=>rfl
     |false=>rw[hv]at h3;simp at h3
    cases he:emptyS t with
    |true=>rw[he]at h;simp at h
    |false=>
     rw[he]at h;by_cases h0:n=0
     ·exact .inr ⟨h2,h0,hv,he⟩
     ·rw[if_pos (.inr h0)]at h;omega
   ·rw[if_pos h3]at h;omega
  ·rw[if_neg h2]at h;omega
theorem part_F (p:P):lenF p.part=p.F:=by cases p<;>simp[lenF,P.part,P.F]
theorem part_T {p:P}(h:p.ok):lenT p.part=p.T:=by
 cases p with
 |k n=>simp[lenT,P.part,P.T]
 |d n=>simp[lenT,P.part,P.T]
 |i l=>simp only[lenT,P.part,P.T];rw[if_neg (by decide),if_true,rc_enc _ h.2]
theorem sumF_parts (l:List P):sumF (l.map P.part)=FS l:=by
 induction l with
 |nil=>rfl
 |cons p l ih=>simp only[List.map_cons,sumF_cons,ih,FS,part_F];push_cast;rfl
theorem sumT_parts (l:List P)(h:∀p∈l,p.ok):sumT (l.map P.part)=TS l:=by
 induction l with
 |nil=>rfl
 |cons p l ih=>
  simp only[List.map_cons,sumT_cons,TS,part_T (h p (List.mem_cons_self ..))];rw[ih (fun q hq=>h q (List.mem_cons_of_mem _ hq))];push_cast;rfl
theorem clash_part (p q:P):clash p.part.kind q.part.kind=p.clash q:=by
 cases p<;>cases q<;>simp[clash,P.part,P.clash]
theorem can_canon:∀{r:List P},Can r→Canon (r.map P.part)
 |[],_=>trivial
 |[p],h=>part_solid h
 |p::q::r,h=>⟨part_solid h.1,by rw[clash_part];exact h.2.1,can_canon (r:=q::r) h.2.2⟩
theorem canon_can:∀{r:List P},(∀p∈r,p.ok)→Canon (r.map P.part)→Can r
 |[],_,_=>trivial
 |[p],h,_=>h p (List.mem_cons_self ..)
 |p::q::r,h,hc=>⟨h p (List.mem_cons_self ..),by rw[←clash_part];exact hc.2.1,canon_can (r:=q::r) (fun x hx=>h x (List.mem_cons_of_mem _ hx)) hc.2.2⟩
theorem ok_len (l:List P)(h:∀p∈l,p.ok):l.length≤FS l+TS l:=by
 induction l with
 |nil=>simp
 |cons p l ih=>
  have h1:=ih (fun q hq=>h q (List.mem_cons_of_mem _ hq));have h2:=h p (List.mem_cons_self ..);simp only[List.length_cons,FS,TS];cases p with
  |k n=>unfold P.ok at h2;simp only[P.F,P.T];omega
  |d n=>unfold P.ok at h2;simp only[P.F,P.T];omega
  |i l=>
   have:l.length≠0:=fun h=>h2.1 (List.eq_nil_of_length_eq_zero h);simp only[P.F,P.T];omega
theorem from_can:∀(l:Op)(q:Part)(r:List Part),Canon (q::r)→checkFrom (some q.kind) l=0→(∀p∈l,Solid p)→Canon (l.reverse++q::r)
 |[],q,r,h,_,_=>h
 |p::l,q,r,h,hf,hs=>by
  have hp:partOk p=0∧clash q.kind p.kind=false∧checkFrom (some p.kind) l=0:=by
   simp only[checkFrom]at hf;by_cases h1:partOk p=0
   ·rw[if_neg (by simpa using h1)]at hf;cases hc:clash q.kind p.kind with
    |true=>simp[hc]at hf
    |false=>exact⟨h1,rfl,by simpa[hc]using hf⟩
   ·rw[if_pos h1]at hf;exact absurd hf h1
  rw[List.reverse_cons,List.append_assoc];exact from_can l p (q::r) ⟨hs p (List.mem_cons_self ..),hp.2.1,h⟩ hp.2.2 (fun x hx=>hs x (List.mem_cons_of_mem _ hx))
theorem check_canon {o:Op}(h:check o=0):Canon o.reverse:=by
 have h1:=(check_zero h).2.1;have h0:checkFrom none o=0:=by
  unfold check at h;by_cases h8:8001<o.length
  ·rw[if_pos h8]at h;omega
  ·rw[if_neg h8]at h;by_cases h2:checkFrom none o=0
   ·exact h2
   ·rw[if_pos h2]at h;exact h
 have hs:∀p∈o,Solid p:=fun p hp=>solid_of_ok (h1 p hp);cases o with
 |nil=>trivial
 |cons p l=>
  rw[List.reverse_cons];have hp:=h1 p (List.mem_cons_self ..);simp only[checkFrom]at h0;rw[if_neg (by simpa using hp)]at h0;exact from_can l p [] (hs p (List.mem_cons_self ..)) (by simpa using h0) (fun x hx=>hs x (List.mem_cons_of_mem _ hx))
structure OpIs (o:Op) (l:List P):Prop where
 eq:o=l.map P.part
 can:Can l.reverse
 ok:∀p∈l,p.ok
 f:sumF o=FS l
 t:sumT o=TS l
 fl:FS l≤4000
 tl:TS l≤4000
 len:l.length≤8001
theorem opIs {o:Op}(h:check o=0):OpIs o (opP o):=by
 obtain⟨h1,h2,h3,h4⟩:=check_zero h;have hs:∀p∈o,Solid p:=fun p hp=>solid_of_ok (h2 p hp);have hok:∀p∈opP o,p.ok:=by
  intro p hp;simp only[opP,List.mem_map]at hp;obtain⟨q,hq,rfl⟩:=hp;exact(toP_part (hs q hq)).2
 have he:o=(opP o).map P.part:=by
  unfold opP;rw[List.map_map]
  conv=>lhs;rw[←List.map_id o]
  exact List.map_congr_left fun q hq=>((toP_part (hs q hq)).1).symm
 have hf:sumF o=FS (opP o):=by rw[←sumF_parts,←he]
 have ht:sumT o=TS (opP o):=by rw[←sumT_parts _ hok,←he]
 refine⟨he,?_,hok,hf,ht,by omega,by omega,by simp only[opP,List.length_map];omega⟩;refine canon_can (fun p hp=>hok p (by simpa using hp)) ?_;rw[List.map_reverse,←he];exact check_canon h
theorem opIs_of {r:List P}(hc:Can r)(hf:FS r≤4000)(ht:TS r≤4000):OpIs (r.reverse.map P.part) r.reverse:=
 have hok:∀p∈r.reverse,p.ok:=fun p hp=>hc.all p (by simpa using hp)
 ⟨rfl,by rw[List.reverse_reverse];exact hc,hok,sumF_parts _,sumT_parts _ hok,by rw[FS_rev];exact hf,by rw[TS_rev];exact ht,by have:=ok_len r hc.all;simp;omega⟩
theorem OpIs.opP {o:Op}{l:List P}(h:OpIs o l):opP o=l:=by
 rw[h.eq];unfold Go.Proofs.YtkbfhgcjimfgkaaDoor.opP;rw[List.map_map]
 conv=>rhs;rw[←List.map_id l]
 exact List.map_congr_left fun q hq=>part_toP (h.ok q hq)
theorem addR_part (p:P)(hp:∀l,p=.i l→∀r∈l,Uni.vr r):∀r:List P,(∀q∈r,q.ok)→addR (r.map P.part) p.part=(addP r p).map P.part:=by
 have emp:∀l:List Nat,(∀r∈l,Uni.vr r)→emptyS (Uni.enc l)=decide (l=[]):=by
  intro l hl;by_cases h:l=[]
  ·subst h;rw[show emptyS (Uni.enc [])=true from by rw[emptyS_iff];rfl];rfl
  ·have:=(part_solid (p:=.i l) ⟨h,hl⟩);rcases this with⟨h1,_⟩|⟨_,_,_,h4⟩
   ·simp[P.part]at h1
   ·simp only[P.part]at h4;rw[h4];simp[h]
 cases p with
 |k n=>
  intro r hr;have ht:triv (P.part (.k n))=decide (n=0):=by simp[triv,P.part]
  cases r with
  |nil=>simp only[List.map_nil,addR,ht,addP];by_cases h:n=0<;>simp[h]
  |cons q r=>
   simp only[List.map_cons,addR,ht,addP];by_cases h:n=0
   ·simp[h]
   ·cases q<;>simp[h,P.part,app_noText]
 |d n=>
  intro r hr;have ht:triv (P.part (.d n))=decide (n=0):=by simp[triv,P.part]
  cases r with
  |nil=>simp only[List.map_nil,addR,ht,addP];by_cases h:n=0<;>simp[h]
  |cons q r=>
   simp only[List.map_cons,addR,ht,addP];by_cases h:n=0
   ·simp[h]
   ·cases q<;>simp[h,P.part,app_noText]
 |i l=>
  have hl:=hp l rfl;have ht:triv (P.part (.i l))=decide (l=[]):=by simp[triv,P.part,emp l hl]
  intro r
  induction r with
  |nil=>intro _;simp only[List.map_nil,addR,ht,addP];by_cases h:l=[]<;>simp[h]
  |cons q r ih=>
   intro hr;have ih':=ih (fun q hq=>hr q (List.mem_cons_of_mem _ hq));simp only[List.map_cons,addR,ht];by_cases h:l=[]
   ·subst h;cases q<;>simp[addP]
   ·cases q with
    |k m=>simp[addP,h,P.part]
    |i m=>simp[addP,h,P.part,enc_append]
    |d m=>
     rw[show addP (.d m::r) (.i l)=.d m::addP r (.i l)from by simp[addP,h]];simp[h,P.part]at ih'⊢;exact ih'
end Go.Proofs.YtkbfhgcjimfgkaaDoor
namespace Go.Proofs.YtkbfhgcjimfgkaaDoor
open Go.RowKit
theorem infoB:(Tryd.prog.info? 5).map (fun i=>(i.zero,i.size,i.bytes))=some (some (.int .u8 0),1,1):=by kernel_rfl
theorem sizeBld:(Tryd.prog.info? 113).map (·.size)=some 2:=by kernel_rfl
theorem liesBld:liesAt Tryd.prog Tryd.prog.depth 113 (2/Tryd.prog.cellsOf 113) 0 113 1=true:=by kernel_rfl
abbrev Bld (B b:Nat)(l:List UInt8)(w:World):Prop:=Lib.IsBuilder 113 5 B b (Lib.byteCells l) w
set_option maxHeartbeats 1000000 in
set_option maxRecDepth 100000 in
theorem copyCheck_used (b:Nat)(w:World)(h0:w.cell? ⟨b,0,none⟩=some (.pointer (some ⟨b,0,none⟩))):
 Calls Tryd.prog 69 #[.pointer (some ⟨b,0,none⟩)] w fun e w'=>e=.returned (.tuple #[])∧w'=w:=by
 obtain⟨j,hj,_⟩:=Option.map_eq_some_iff.1 sizeBld;go_enter Tryd.func69,Tryd.ntmps69
 go_wp2
 rw[Lib.run_neq_ptr_same w _ Tryd.underlying111 hj]
 go_wp2
 go_end0;exact⟨rfl,rfl⟩
set_option maxHeartbeats 1000000 in
set_option maxRecDepth 100000 in
theorem copyCheck_fresh (b:Nat)(w:World)(h0:w.cell? ⟨b,0,none⟩=some (.pointer none))(hsh:w.shape? b=some (113,2))(hfz:w.frozen? ⟨b,0,none⟩=false):
 Calls Tryd.prog 69 #[.pointer (some ⟨b,0,none⟩)] w fun e w'=>e=.returned (.tuple #[])∧w'=w.setCell ⟨b,0,none⟩ (.pointer (some ⟨b,0,none⟩)):=by
 obtain⟨j,hj,hjs⟩:=Option.map_eq_some_iff.1 sizeBld;go_enter Tryd.func69,Tryd.ntmps69
 go_wp2
 rw[Lib.run_to_unsafe w ⟨b,0,none⟩ Tryd.underlying111 Tryd.underlying175 hj (by rw[hjs];decide) hsh (Nat.zero_lt_succ 1)];simp only[Result.andThen];rw[Oper.upon_value]
 go_wp2
 rw[run_callFunc_extern Tryd.func89 (by kernel_rfl) (by kernel_rfl) (by kernel_rfl) (e:=Extern.AbiNoEscape.same) (by kernel_rfl)];rw[Lib.run_noEscape];simp only[Result.andThen];rw[Oper.upon_value]
 go_wp2
 rw[Lib.run_from_unsafe w ⟨b,0,none⟩ Tryd.underlying175 Tryd.underlying111 hj hsh liesBld];simp only[Result.andThen];rw[Oper.upon_value]
 go_wp2
 go_end0;exact⟨rfl,rfl⟩
theorem copyCheck_any (B b:Nat)(bs:List Value)(w:World)(h:Lib.IsBuilder 113 5 B b bs w):
 Calls Tryd.prog 69 #[.pointer (some ⟨b,0,none⟩)] w fun e w'=>e=.returned (.tuple #[])∧(Lib.BuilderAt 113 5 B b (.pointer (some ⟨b,0,none⟩)) bs w'∧Below B w w'∧∀k,k≠b→w'.heap[k]?=w.heap[k]?):=by
 rcases h with h|h
 ·refine(copyCheck_fresh b w h.cell0 h.shape h.frozen0).mono ?_;rintro e w' ⟨rfl,rfl⟩;exact⟨rfl,h.used _,(Below.refl B w).setCell (p:=⟨b,0,none⟩) h.1 _,fun k hk=>Below.heap_setCell _ _ _ _ hk⟩
 ·refine(copyCheck_used b w h.cell0).mono ?_;rintro e w' ⟨rfl,rfl⟩;exact⟨rfl,h,Below.refl B _,fun _ _=>rfl⟩
theorem bytes_app (l:List UInt8)(s:ByteArray):Lib.byteCells l++Lib.strCells s=Lib.byteCells (l++s.data.toList):=by simp[Lib.byteCells,Lib.strCells]
def Others (b:Nat)(w w':World):Prop:=∀k cs t f,w.heap[k]?=some (.cells cs t f)→t≠5→k≠b→w'.heap[k]?=w.heap[k]?
theorem Bld.lt {B b:Nat}{l:List UInt8}{w:World}(h:Bld B b l w):b<w.heap.size:=by
 rcases h with h|h<;>exact h.lt
theorem Bld.below {B b:Nat}{l:List UInt8}{w w':World}(h:Bld B b l w)(hb:Below w.heap.size w w'):Bld B b l w':=by
 have key:∀p,Lib.BuilderAt 113 5 B b p (Lib.byteCells l) w→Lib.BuilderAt 113 5 B b p (Lib.byteCells l) w':=by
  rintro p ⟨h1,v,h2,h3,h4⟩;refine⟨h1,v,(hb.block b (Array.getElem?_eq_some_iff.1 h2).1).trans h2,⟨h3.1,?_⟩,h4⟩;rcases h3.2 with hn|⟨g,cap,cur,hv,hg,hh,rest⟩
  ·exact .inl hn
  ·exact .inr ⟨g,cap,cur,hv,hg,(hb.block g (Array.getElem?_eq_some_iff.1 hh).1).trans hh,rest⟩
 rcases h with h|h
 ·exact .inl (key _ h)
 ·exact .inr (key _ h)
set_option maxHeartbeats 2000000 in
set_option maxRecDepth 100000 in
theorem wstr_any (B b:Nat)(l:List UInt8)(s:ByteArray)(w:World)(h:Bld B b l w)(hlen:l.length+s.size≤140737488355328)(hBw:B≤w.heap.size):
 Calls Tryd.prog 46 #[.pointer (some ⟨b,0,none⟩),.string s] w fun e w'=>e=.returned (.tuple #[.int .i64 s.size,.nilIface])∧Bld B b (l++s.data.toList) w'∧Below B w w'∧Others b w w':=by
 obtain⟨i0,hi,hz0,hz1,hz2⟩:=info_parts infoB;have hc:=copyCheck_any B b _ w h;have hbl:(Lib.byteCells l).length=l.length:=by simp[Lib.byteCells]
 clear h;go_enter Tryd.func46,Tryd.ntmps46;go_wp2_with fail;refine hc.mono ?_;rintro e w1 ⟨rfl,hat,hb1,hk1⟩;obtain⟨hB,v,hbk,hown,hne⟩:=hat;have hz:=hb1.size;obtain⟨ao,cap,rfl⟩:∃ao cap,v=.slice ao (Lib.byteCells l).length cap:=by
  rcases hown.2 with⟨hv,h0⟩|⟨g,cap,cur,hv,_⟩
  ·exact⟨none,0,by rw[hv,h0]⟩
  ·exact⟨_,_,hv⟩
 have c1:w1.cell? ⟨b,1,none⟩=some (.slice ao (Lib.byteCells l).length cap):=by rw[Lib.cell_of_heap hbk];rfl
 have hblt:b<w1.heap.size:=(Array.getElem?_eq_some_iff.1 hbk).1;have f1:w1.frozen? ⟨b,1,none⟩=false:=Lib.frozen_of_heap hbk 1;have Hk1:=Lib.hid hk1;have Hbk:=Lib.hid hbk;have Hown:=Lib.hid hown;have Hne:=Lib.hid hne;have Hbl:=Lib.hid hbl;clear hbk hown hne hbl hc hk1;go_wp2_with (at_builtin;refine Lib.wpList_append_own_string _ rfl _ _ 50 9 rfl B 5 i0 Tryd.underlying50 Tryd.underlying9 hi hz0 hz1 hz2 _ _ _ rfl Hown.out s rfl ?h1 ?h2 ?h3 ?_)
 case h1=>rw[Hbl.out];unfold maxLen;omega
 case h2=>rw[Hbl.out];omega
 case h3=>omega
 intro v' w2 hown2 hgrow _;obtain⟨ta,tn,tc,rfl⟩:∃ta tn tc,v'=.slice ta tn tc:=by
  rcases hown2.2 with⟨hv,_⟩|⟨g,cap,cur,hv,_⟩
  ·exact⟨none,0,0,hv⟩
  ·exact⟨_,_,_,hv⟩
 have hbk2:w2.heap[b]?=some (.cells #[.pointer (some ⟨b,0,none⟩),.slice ao (Lib.byteCells l).length cap] 113 (0,0)):=(hgrow.block b hblt (fun e=>Hne.out (by rw[e]))).trans Hbk.out;have f2:w2.frozen? ⟨b,1,none⟩=false:=Lib.frozen_of_heap hbk2 1;have d2:w2.cell? ⟨b,1,none⟩=some (.slice ao (Lib.byteCells l).length cap):=by rw[Lib.cell_of_heap hbk2];rfl
 have hfin:Bld B b (l++s.data.toList) (w2.setCell ⟨b,1,none⟩ (.slice ta tn tc))∧Below B w (w2.setCell ⟨b,1,none⟩ (.slice ta tn tc))∧Others b w (w2.setCell ⟨b,1,none⟩ (.slice ta tn tc)):=by
  refine⟨.inr (Lib.BuilderAt.put hB hbk2 ?_ (by decide)),?_,fun k cs t f hk ht hkb=>?_⟩
  ·rw[←bytes_app,List.length_append,Lib.strCells_length];exact hown2
  ·exact(hb1.grown hgrow (by omega) (fun g hg=>(Hown.out.lt g hg).1)).setCell (p:=⟨b,1,none⟩) hB _
  ·have hk0:w1.heap[k]?=w.heap[k]?:=Hk1.out k hkb;rw[Below.heap_setCell _ _ _ _ hkb,hgrow.block k (by rw[hk]at hk0;exact(Array.getElem?_eq_some_iff.1 hk0).1) ?_,hk0];intro e;rcases Hown.out.2 with⟨hv,_⟩|⟨g,cap,cur,hv,_,hg,_⟩
   ·rw[hv]at e;cases e
   ·rw[hv]at e;have e2:k=g:=by simpa[Value.ownBlock]using e
    subst e2;rw[hk,hg]at hk0;injection hk0 with hk0;injection hk0 with _ h2;exact ht h2.symm
 have Hfin:=Lib.hid hfin;have hblt2:b<w2.heap.size:=(Array.getElem?_eq_some_iff.1 hbk2).1;clear hfin hown2 hgrow hbk2 Hk1 Hbk Hown Hne Hbl;go_wp2_with fail
 go_ret2
 exact⟨rfl,Hfin.out⟩
end Go.Proofs.YtkbfhgcjimfgkaaDoor
set_option linter.unusedSimpArgs false
namespace Go.Proofs.YtkbfhgcjimfgkaaDoor
open Go.RowKit
def applyE (s:Str)(o:Op):Int:=if checkText s≠0 then checkText s else if check o≠0 then check o else if sumF o≠rc s then 10 else 0
def applyS (s:Str)(o:Op):Str:=if applyE s o=0 then Uni.enc (app (rns s) (opP o))else noText
def RunesAt (w:World)(g:Nat)(rs:List Nat):Prop:=g<w.heap.size∧∀j r,rs[j]?=some r→w.cell? ⟨g,j,none⟩=some (.int .i32 ((r:Nat):Int))
theorem RunesAt.below {w w':World}{B g:Nat}{rs:List Nat}(h:RunesAt w g rs)(hb:Below B w w')(hB:g<B):RunesAt w' g rs:=
 ⟨Nat.lt_of_lt_of_le h.1 hb.size,fun j r hj=>(hb.cell (p:=⟨g,j,none⟩) hB).trans (h.2 j r hj)⟩
theorem RunesAt.conv {w:World}{g:Nat}{rs:List Nat}(h:RunesAt w g rs)(off m c:Nat)(hm:off+m≤rs.length):
 (convert 86 9 (.slice (some ⟨g,off,none⟩) m c)).run Tryd.prog w=.ok (.string (Uni.enc ((rs.drop off).take m))) w:=by
 have hz:∀j,j<(((rs.drop off).take m).map fun r:Nat=>(r:Int)).length→w.cell? ((⟨g,off,none⟩:Addr).add j)=some (.int .i32 ((((rs.drop off).take m).map fun r:Nat=>(r:Int)).getD j 0)):=by
  intro j hj;simp only[List.length_map,List.length_take,List.length_drop]at hj;have e:(⟨g,off,none⟩:Addr).add j=⟨g,off+j,none⟩:=by
   unfold Addr.add;split
   ·rename_i h0;rw[h0];rfl
   ·rfl
  have h1:off+j<rs.length:=by omega
  rw[e,h.2 (off+j) rs[off+j] (List.getElem?_eq_getElem h1)];simp only[List.getD,List.getElem?_map];rw[List.getElem?_take_of_lt (by omega),List.getElem?_drop,List.getElem?_eq_getElem h1];rfl
 have hr:=run_convert_runes (P:=Tryd.prog) w 86 9 21 ⟨g,off,none⟩ m c (((rs.drop off).take m).map fun r:Nat=>(r:Int)) (by simp;omega) Tryd.underlying86 Tryd.underlying21 Tryd.underlying9 hz;rw[List.take_of_length_le (by simp;omega),runesBytes_enc]at hr;exact hr
theorem runes_of (s:Str)(hs:s.size≤70368744177664):∃R:Array Value,R.size=(rns s).length∧R=((rns s).map fun r:Nat=>Value.int .i32 ((r:Nat):Int)).toArray∧(∀W:World,(convert 9 86 (.string s)).run Tryd.prog W=
 .ok (.slice (some ⟨W.heap.size,0,none⟩) (rns s).length (grownCap W (rns s).length 0 21)) (W.drew.alloc (.cells (R++Array.replicate (grownCap W (rns s).length 0 21-(rns s).length) (.int .i32 0)) 21))):=by
 have hR:Conv.runesFrom s s.size 0 #[]=((rns s).map fun r:Nat=>Value.int .i32 ((r:Nat):Int)).toArray:=by
  rw[Uni.runesFrom_dec];simp[rns,Uni.dec]
 have hz:(Conv.runesFrom s s.size 0 #[]).size=(rns s).length:=by rw[hR];simp
 refine⟨Conv.runesFrom s s.size 0 #[],hz,hR,fun W=>?_⟩;have h:=run_runes_of_string (P:=Tryd.prog) W 9 86 21 s Tryd.underlying9 Tryd.underlying86 Tryd.underlying21
  (by rw[hz];have h2:=rc_rns s;have h3:=rc_le s;omega)
 rw[hz]at h;exact h
theorem runesAt_new (W:World)(R:Array Value)(J:Array Value)(rs:List Nat)(hR:R=(rs.map fun r:Nat=>Value.int .i32 ((r:Nat):Int)).toArray)(t:TypeId):RunesAt (W.alloc (.cells (R++J) t)).drew W.heap.size rs:=by
 subst hR;refine⟨by simp,fun j r hj=>?_⟩
 show(W.alloc (.cells _ t)).cell? _=_
 rw[cell_of_row _ W.heap.size j _ t (0,0) (heap_new_at _ _ _ (by simp))];have hlt:=(List.getElem?_eq_some_iff.1 hj).1;rw[Array.getElem?_append_left (by simpa using hlt)];simp[hj]
theorem OpIs.cells {o:Op}{l:List P}(h:OpIs o l){A:Nat→Prop}{w:World}{a:Option Addr}{n c:Nat}(hr:RdS A w o a n c)(hn:0<n):
 ∃b off,a=some ⟨b,off,none⟩∧A b∧b<w.heap.size∧∀i p,l[i]?=some p→
  w.cell? ⟨b,off+i*3,none⟩=some (.int .i64 p.part.kind)∧w.cell? ⟨b,off+i*3+1,none⟩=some (.int .i64 p.part.n)∧w.cell? ⟨b,off+i*3+2,none⟩=some (.string p.part.text):=by
 obtain⟨b,off,e,hA,hb,hc⟩:=hr.part hn;refine⟨b,off,e,hA,hb,fun i p hi=>?_⟩;have hil:i<o.length:=by rw[h.eq];simpa using(List.getElem?_eq_some_iff.1 hi).1
 have hoi:o[i]=p.part:=by
  have h1:o[i]?=some p.part:=by rw[h.eq,List.getElem?_map,hi];rfl
  rw[List.getElem?_eq_getElem hil]at h1;exact Option.some.inj h1
 have:=hc i hil;rw[hoi]at this;exact this.2.2.2
theorem FS_take (l:List P)(k:Nat):FS (l.take k)≤FS l:=by
 have:=FS_app (l.take k) (l.drop k);rw[List.take_append_drop]at this;omega
theorem TS_take (l:List P)(k:Nat):TS (l.take k)≤TS l:=by
 have:=TS_app (l.take k) (l.drop k);rw[List.take_append_drop]at this;omega
theorem FS_next (l:List P)(k:Nat)(h:k<l.length):FS (l.take (k+1))=FS (l.take k)+l[k].F:=by
 rw[take_next l k h,FS_app];simp[FS]
theorem TS_next (l:List P)(k:Nat)(h:k<l.length):TS (l.take (k+1))=TS (l.take k)+l[k].T:=by
 rw[take_next l k h,TS_app];simp[TS]
theorem app_next (l:List P)(k:Nat)(h:k<l.length)(t:List Nat):app t (l.take (k+1))=app t (l.take k)++app (t.drop (FS (l.take k))) [l[k]]:=by
 rw[take_next l k h,app_app]
theorem enc_bytes (l:List Nat):(Uni.enc l).data.toList=Uni.encL l:=rfl
set_option maxRecDepth 100000 in
set_option maxHeartbeats 4000000 in
theorem apply_ok (s:Str)(o:Op)(a:Option Addr)(n c:Nat)(w:World)(hg:Good w)(hr:RdS (· <w.heap.size) w o a n c)(hs:s.size≤70368744177664)(h0:checkText s=0)(h1:check o=0)(h2:sumF o=rc s):
 Calls Tryd.prog 22 #[.string s,.slice a n c] w fun e w'=>e=.returned (.tuple #[.string (Uni.enc (app (rns s) (opP o))),.int .i64 0])∧Below w.heap.size w w':=by
 have hss:s.size≤strMax:=by unfold strMax;omega
 have HT:=Lib.hid (by have:=checkText_any s w hg hss;rw[h0]at this;exact this);have HC:=Lib.hid (fun W (hb:Below w.heap.size w W)=>by
  have:=check_any (· <w.heap.size) o a n c W (hg.below' hb) (fun b h=>Nat.lt_of_lt_of_le h hb.size) (hr.below (fun _ h=>h) hb);rw[h1]at this;exact this)
 have HL:=Lib.hid (fun W (hb:Below w.heap.size w W)=>lengths_any (· <w.heap.size) o a n c W (hr.below (fun _ h=>h) hb) (check_small h1));have hv:valid s=true:=by
  unfold checkText at h0;cases hv:valid s with
  |true=>rfl
  |false=>rw[hv]at h0;simp at h0
 have hvr:=rns_vr hv;have hrc:=rc_rns s;obtain⟨R,hRz,hR,hconv⟩:=runes_of s hs;have hcl:=rc_le s;have hO:=opIs h1;have hnl:n=(opP o).length:=by have h:=hr.1;rw[h];unfold opP;simp
 have hn2:n≤8001:=by rw[hnl];exact hO.len
 have hcells:=fun h=>hO.cells hr h;have hFl:=hO.fl;have hTl:=hO.tl;have hF:FS (opP o)=(rns s).length:=by have:=hO.f;omega
 rw[h2,hrc]at HL;have hok:=hO.ok;have htn:=sumT o;clear hr hO h0 h1 h2 hss hv hg htn hrc hcl;generalize sumT o=tn at*;generalize opP o=l at*;generalize rns s=rs at*;have Hcells:=Lib.hid hcells;have Hl:=Lib.hid hnl;have HF:=Lib.hid hF;have HRz:=Lib.hid hRz;have HR:=Lib.hid hR;have Hvr:=Lib.hid hvr;have Hok:=Lib.hid hok;clear hcells hnl hF hRz hR hvr hok;have Hout:Hid (∀k,k≤l.length→(Uni.encL (app rs (l.take k))).length≤16000):=by
  unfold Hid;intro k hk;have h1:=Uni.encL_append;have h2:=encL_size (app rs (l.take k)) (app_vr _ _ Hvr.out (fun p hp=>Hok.out p (List.mem_of_mem_take hp)));have h3:=app_len (l.take k) rs (by have:=FS_take l k;have:=HF.out;omega);have h4:=TS_take l k;omega
 go_enter Tryd.func22,Tryd.ntmps22;go_wp2_with fail;refine HT.out.mono ?_;rintro e w1 ⟨rfl,hb1⟩;clear HT;go_wp2_with fail;refine(HC.out _ hb1).mono ?_;rintro e w2 ⟨rfl,hb2⟩;clear HC;have hb2:=hb1.trans (hb2.mono hb1.size);clear hb1;go_wp2_with fail;have hz2:=hb2.size;have hg2:RunesAt (w2.alloc (.cells (R++Array.replicate (grownCap w2 rs.length 0 21-rs.length) (.int .i32 0)) 21)).drew w2.heap.size rs:=runesAt_new w2 R _ rs HR.out _;have hcap:=grownCap_ge w2 rs.length 0 21;have hcapm:grownCap w2 rs.length 0 21≤maxLen:=grownCap_le_maxLen w2 rs.length 0 21 (by have:=HF.out;unfold maxLen;omega);have hbW:Below w.heap.size w (w2.alloc (.cells (R++Array.replicate (grownCap w2 rs.length 0 21-rs.length) (.int .i32 0)) 21)).drew:=by(repeat (first|exact Below.refl _ _|assumption|(refine Below.drew ?_)|(refine below_drewN ?_ _)|(refine Below.alloc ?_ (by first|(simp;done)|(simp;omega)|omega) _)|(refine Below.setCell ?_ (by first|(simp;done)|(simp;omega)|omega) _)|(refine Below.trans ?_ (Below.mono (by assumption) (by first|(simp;done)|(simp;omega)|omega)))))
 have hz3:w2.heap.size<(w2.alloc (.cells (R++Array.replicate (grownCap w2 rs.length 0 21-rs.length) (.int .i32 0)) 21)).drew.heap.size:=hg2.1;generalize (w2.alloc (.cells (R++Array.replicate (grownCap w2 rs.length 0 21-rs.length) (.int .i32 0)) 21)).drew=w3 at*;generalize grownCap w2 rs.length 0 21=cap at*;generalize w2.heap.size=g at*;clear hb2 hconv HRz HR;refine(HL.out _ hbW).mono ?_;rintro e w4 ⟨rfl,hb4⟩;have hbW:=hbW.trans (hb4.mono hbW.size);have hg4:=hg2.below hb4 hz3;have hz4:=hb4.size;clear hb4 HL hg2;unfold maxLen at hcapm;go_wp2_with fail;have hBw:w.heap.size≤w4.heap.size:=hbW.size;have hgB:g<w4.heap.size:=by omega
 have h0:Bld w4.heap.size w4.heap.size (Uni.encL (app rs (l.take 0))) (w4.alloc (.cells #[.pointer none,.slice none 0 0] 113)):=Lib.fresh_isBuilder _ _ w4;have h1:RunesAt (w4.alloc (.cells #[.pointer none,.slice none 0 0] 113)) g rs:=hg4.below ((Below.refl _ _).alloc (Nat.le_refl _) _) hgB;have H0:=Lib.hid h0;have H1:=Lib.hid h1;have H2:=Lib.hid (hbW.alloc hBw (.cells #[.pointer none,.slice none 0 0] 113));have H3:Hid (w4.heap.size≤(w4.alloc (.cells #[.pointer none,.slice none 0 0] 113)).heap.size):=by unfold Hid;simp
 clear h0 h1 hbW hg4;generalize (w4.alloc (.cells #[.pointer none,.slice none 0 0] 113))=w5 at*;generalize w4.heap.size=B at*;go_loopw [12,38] (fun t i wr=>∃k:Nat,k≤n∧i=.int .i64 k∧t=.int .i64 ((FS (l.take k):Nat):Int)∧Bld B B (Uni.encL (app rs (l.take k))) wr∧RunesAt wr g rs∧B≤wr.heap.size∧Below w.heap.size w wr) (fun _ i _=>n-(intOf i).toNat)
 case atStart=>exact⟨0,by omega,rfl,rfl,H0.out,H1.out,H3.out,H2.out⟩
 case round=>
  obtain⟨k,hk,rfl,rfl,hbld,hrun,hBr,hb⟩:=hrel;clear H0 H1 H2 H3;by_cases hlt:k<n
  ·obtain⟨b,off,rfl,_,hbs,hcs⟩:=Hcells.out (by omega);have hkl:k<l.length:=by have:=Hl.out;omega
   obtain⟨c0,c1,c2⟩:=hcs k l[k] (List.getElem?_eq_getElem hkl);clear hcs;obtain⟨hcb,hfb⟩:=bcell hb;have HFn:=Lib.hid (FS_next l k hkl);have Hap:=Lib.hid (app_next l k hkl rs);have hFk:=FS_take l (k+1);have hFl2:=HF.out;have hok:=Hok.out l[k] (List.getElem_mem hkl);have hlen:=Hout.out k (by omega);have hTn:=TS_next l k hkl;have hTt:=TS_take l (k+1);rw[hTn]at hTt;clear hTn;have hx:FS (l.take (k+1))=FS (l.take k)+l[k].F:=FS_next l k hkl;rw[hx]at hFk;clear hx;have hBlt:=hbld.lt;have Hbld:=Lib.hid hbld;have Hrun:=Lib.hid hrun;clear hbld hrun;generalize FS (l.take k)=F at*;generalize l[k]=p at*;generalize TS (l.take k)=tt at*;cases p with
   |k m=>
    clear hTt;simp only[P.part,P.F,P.ok]at c0 c1 c2 hFk hok HFn;have hrl:F+m≤rs.length:=by omega
    have hm4:m≤4000:=by omega
    clear hFl2 hFl;have Hcv:Hid (∀W C,Below B wr W→(convert 86 9 (.slice (some ⟨g,F,none⟩) m C)).run Tryd.prog W=.ok (.string (Uni.enc ((rs.drop F).take m))) W):=fun W C hW=>(Hrun.out.below hW hgB).conv F m C hrl
    have hcv:=Hcv.out (wr.alloc (.cells #[.int .i64 1,.int .i64 ((m:Nat):Int),.string noText] 53)) (cap-F) ((Below.refl _ _).alloc hBr _);have Hal:=Lib.hid (Hbld.out.below ((Below.refl _ _).alloc (Nat.le_refl _) (.cells #[.int .i64 1,.int .i64 ((m:Nat):Int),.string noText] 53)));have hsz:=enc_size ((rs.drop F).take m) (fun r h=>Hvr.out r (List.mem_of_mem_drop (List.mem_of_mem_take h)));have hsz2:((rs.drop F).take m).length≤4000:=by rw[List.length_take];omega
    have Hpc:Hid (Uni.encL (app rs (l.take k))++(Uni.enc ((rs.drop F).take m)).data.toList=Uni.encL (app rs (l.take (k+1)))):=by
     unfold Hid;rw[Hap.out,Uni.encL_append];simp[app,enc_bytes]
    generalize Uni.enc ((rs.drop F).take m)=T at*;clear Hap;go_wp2_with fail;refine(wstr_any B B _ T _ Hal.out (by omega) (by simp;omega)).mono ?_;rintro e w6 ⟨rfl,hbld6,hb6,hot⟩;have hpb:=hot wr.heap.size _ _ _ (heap_new_at wr _ _ rfl) (by decide) (by omega);have d1:w6.cell? ⟨wr.heap.size,1,none⟩=some (.int .i64 ((m:Nat):Int)):=(cell_keep hpb).trans (by rw[cell_of_row _ _ _ _ _ _ (heap_new_at _ _ _ rfl)];rfl);rw[Hpc.out]at hbld6;have Hb6:=Lib.hid hbld6;have hbz:=hb.size;have Hbelow:Hid (Below w.heap.size w w6):=by unfold Hid;exact(hb.alloc hbz _).trans (hb6.mono (by omega))
    have Hrun6:Hid (RunesAt w6 g rs):=Hrun.out.below (((Below.refl _ _).alloc hBr _).trans hb6) hgB;have hB6:B≤w6.heap.size:=by have:=hb6.size;simp at this;omega
    clear hbld6 hb6 hot hpb Hal Hpc hcv Hcv hcb hfb;go_wp2_with fail;go_roundw
    case rel=>exact⟨k+1,by omega,by go_num,by rw[HFn.out];go_num,Hb6.out,Hrun6.out,hB6,Hbelow.out⟩
    case measure=>simp[intOf];omega
   |i t=>
    simp only[P.part,P.F,P.ok,P.T]at c0 c1 c2 hFk hok HFn hTt;have Hal:=Lib.hid (Hbld.out.below ((Below.refl _ _).alloc (Nat.le_refl _) (.cells #[.int .i64 2,.int .i64 0,.string (Uni.enc t)] 53)));have hsz:=enc_size t hok.2;have Hpc:Hid (Uni.encL (app rs (l.take k))++(Uni.enc t).data.toList=Uni.encL (app rs (l.take (k+1)))):=by
     unfold Hid;rw[Hap.out,Uni.encL_append];simp[app,enc_bytes]
    have hsz2:t.length≤4000:=by
     omega
    generalize Uni.enc t=T at*;clear Hap hok;go_wp2_with fail;refine(wstr_any B B _ T _ Hal.out (by omega) (by simp;omega)).mono ?_;rintro e w6 ⟨rfl,hbld6,hb6,hot⟩;rw[Hpc.out]at hbld6;have Hb6:=Lib.hid hbld6;have hbz:=hb.size;have Hbelow:Hid (Below w.heap.size w w6):=by unfold Hid;exact(hb.alloc hbz _).trans (hb6.mono (by omega))
    have Hrun6:Hid (RunesAt w6 g rs):=Hrun.out.below (((Below.refl _ _).alloc hBr _).trans hb6) hgB;have hB6:B≤w6.heap.size:=by have:=hb6.size;simp at this;omega
    clear hbld6 hb6 hot Hal Hpc hcb hfb;go_wp2_with fail;go_roundw
    case rel=>exact⟨k+1,by omega,by go_num,by rw[HFn.out];go_num,Hb6.out,Hrun6.out,hB6,Hbelow.out⟩
    case measure=>simp[intOf];omega
   |d m=>
    clear hTt;simp only[P.part,P.F,P.ok]at c0 c1 c2 hFk hok HFn;have Hpc:Hid (app rs (l.take k)=app rs (l.take (k+1))):=by
     unfold Hid;rw[Hap.out];simp[app]
    have hbz:=hb.size;have hrl:F+m≤rs.length:=by omega
    have Hfin:Hid (∀W,Below wr.heap.size wr W→Bld B B (Uni.encL (app rs (l.take (k+1)))) W∧RunesAt W g rs∧B≤W.heap.size∧Below w.heap.size w W):=by
     unfold Hid;intro W hW;rw[←Hpc.out];exact⟨Hbld.out.below hW,Hrun.out.below hW (by omega),by have:=hW.size;omega,hb.trans (hW.mono hbz)⟩
    clear Hap Hpc Hbld Hrun hFl2 hFl;go_wp2_with fail;go_roundw
    case rel=>exact⟨k+1,by omega,by go_num,by rw[HFn.out];go_num,Hfin.out _ (by(repeat (first|exact Below.refl _ _|assumption|(refine Below.drew ?_)|(refine below_drewN ?_ _)|(refine Below.alloc ?_ (by first|(simp;done)|(simp;omega)|omega) _)|(refine Below.setCell ?_ (by first|(simp;done)|(simp;omega)|omega) _)|(refine Below.trans ?_ (Below.mono (by assumption) (by first|(simp;done)|(simp;omega)|omega))))))⟩
    case measure=>simp[intOf];omega
  ·have hkn:k=l.length:=by have:=Hl.out;omega
   have hbz:=hb.size;have Hb:=Lib.hid hb;rw[hkn,List.take_length]at hbld;have Hbld:=Lib.hid hbld;clear hb hbld;go_wp2_with fail;refine(Tryd.Builder_String_any B B _ wr Hbld.out hBr).mono ?_;rintro e w6 ⟨rfl,hb6⟩;have Hb6:=Lib.hid (Hb.out.trans (hb6.mono hBw));clear hb6;go_wp2_with fail
   go_ret2
   exact⟨rfl,Hb6.out⟩
set_option maxRecDepth 100000 in
set_option maxHeartbeats 2000000 in
theorem apply_any (s:Str)(o:Op)(a:Option Addr)(n c:Nat)(w:World)(hg:Good w)(hr:RdS (· <w.heap.size) w o a n c)(hs:s.size≤70368744177664):
 Calls Tryd.prog 22 #[.string s,.slice a n c] w fun e w'=>e=.returned (.tuple #[.string (applyS s o),.int .i64 (applyE s o)])∧Below w.heap.size w w':=by
 have hss:s.size≤strMax:=by unfold strMax;omega
 have HT:=Lib.hid (checkText_any s w hg hss);have HC:=Lib.hid (fun W (hb:Below w.heap.size w W)=>check_any (· <w.heap.size) o a n c W (hg.below' hb) (fun b h=>Nat.lt_of_lt_of_le h hb.size) (hr.below (fun _ h=>h) hb));by_cases h0:checkText s=0
 ·by_cases h1:check o=0
  ·by_cases h2:sumF o=rc s
   ·have hE:applyE s o=0:=by unfold applyE;rw[if_neg (by simpa using h0),if_neg (by simpa using h1),if_neg (by simpa using h2)]
    unfold applyS;rw[hE,if_pos rfl];exact apply_ok s o a n c w hg hr hs h0 h1 h2
   ·have hE:applyE s o=10:=by unfold applyE;rw[if_neg (by simpa using h0),if_neg (by simpa using h1),if_pos (by simpa using h2)]
    unfold applyS;rw[hE,if_neg (by decide)];have HL:=Lib.hid (fun W (hb:Below w.heap.size w W)=>lengths_any (· <w.heap.size) o a n c W (hr.below (fun _ h=>h) hb) (check_small h1));obtain⟨R,hRz,hR,hconv⟩:=runes_of s hs;have hcl:=rc_le s;have hne:((sumF o !=rc s))=true:=by simpa using h2
    rw[rc_rns s]at hne;have hlim:((rns s).length:Int)≤70368744177664:=by have:=rc_rns s;omega
    rw[h0]at HT;rw[h1]at HC;clear hR hRz hr h0 h1 h2 hE hcl hss hg;generalize sumF o=x at*;generalize sumT o=y at*;generalize rns s=rs at*;go_enter Tryd.func22,Tryd.ntmps22;go_wp2_with fail;refine HT.out.mono ?_;rintro e w1 ⟨rfl,hb1⟩;clear HT;go_wp2_with fail;refine(HC.out _ hb1).mono ?_;rintro e w2 ⟨rfl,hb2⟩;clear HC;have hb2:=hb1.trans (hb2.mono hb1.size);clear hb1;go_wp2_with fail;have hz2:=hb2.size;have hbW:Below w.heap.size w (w2.alloc (.cells (R++Array.replicate (grownCap w2 rs.length 0 21-rs.length) (.int .i32 0)) 21)).drew:=by(repeat (first|exact Below.refl _ _|assumption|(refine Below.drew ?_)|(refine below_drewN ?_ _)|(refine Below.alloc ?_ (by first|(simp;done)|(simp;omega)|omega) _)|(refine Below.setCell ?_ (by first|(simp;done)|(simp;omega)|omega) _)|(refine Below.trans ?_ (Below.mono (by assumption) (by first|(simp;done)|(simp;omega)|omega)))))
    refine(HL.out _ hbW).mono ?_;rintro e w4 ⟨rfl,hb4⟩;have hbW:=hbW.trans (hb4.mono hbW.size);go_wp2_with fail
    go_ret2
    exact⟨rfl,hbW⟩
  ·have hE:applyE s o=check o:=by unfold applyE;rw[if_neg (by simpa using h0),if_pos h1]
   unfold applyS;rw[hE,if_neg h1];rw[h0]at HT;have hne:(check o !=0)=true:=by simpa using h1
   clear hr h0 h1 hE hss hg;generalize check o=x at*;go_enter Tryd.func22,Tryd.ntmps22;go_wp2_with fail;refine HT.out.mono ?_;rintro e w1 ⟨rfl,hb1⟩;clear HT;go_wp2_with fail;refine(HC.out _ hb1).mono ?_;rintro e w2 ⟨rfl,hb2⟩;clear HC;have hb2:=hb1.trans (hb2.mono hb1.size);clear hb1;go_wp2_with fail
   go_ret2
   exact⟨rfl,hb2⟩
 ·have hE:applyE s o=checkText s:=by unfold applyE;rw[if_pos h0]
  unfold applyS;rw[hE,if_neg h0];have hne:(checkText s !=0)=true:=by simpa using h0
  clear hr h0 hE hss hg HC;generalize checkText s=x at*;go_enter Tryd.func22,Tryd.ntmps22;go_wp2_with fail;refine HT.out.mono ?_;rintro e w1 ⟨rfl,hb1⟩;clear HT;go_wp2_with fail
  go_ret2
  exact⟨rfl,hb1⟩
end Go.Proofs.YtkbfhgcjimfgkaaDoor
