/- Transform, as laws use it. -/
import Derived.Test.YtkbfhgcjimfgkaaDoorPartA5
import Derived.Test.YtkbfhgcjimfgkaaDoorPartA6
import Derived.Test.YtkbfhgcjimfgkaaDoorPartA4
import Derived.Test.YtkbfhgcjimfgkaaDoorPartA3
import Derived.Test.YtkbfhgcjimfgkaaDoorPartA7
import Derived.Handy
import Derived.Deep.LoopGhost
set_option linter.unusedVariables false
set_option linter.unusedSimpArgs false
namespace Go.Proofs.YtkbfhgcjimfgkaaDoor
def pass:List P→Nat→List P
 |[],_=>[]
 |p::r,n=>if n=p.z then r else p.cut n::r
def build (l:List P):List P:=l.foldl addP []
def AllOk (l:List P):Prop:=∀p∈l,p.ok
def P.Ins:P→Bool
 |.i _=>true
 |_=>false
theorem allOk_cons {p:P}{l:List P}:AllOk (p::l)↔p.ok∧AllOk l:=by simp[AllOk]
theorem allOk_app {a b:List P}:AllOk (a++b)↔AllOk a∧AllOk b:=by simp[AllOk,or_imp,forall_and]
theorem P.ok_z {p:P}(h:p.ok):1≤p.z:=by
 cases p with
 |k n=>exact h
 |i l=>have:=List.length_pos_iff.2 h.1;exact this
 |d n=>exact h
theorem ZS_pos {p:P}{l:List P}(h:p.ok):1≤ZS (p::l):=by have:=P.ok_z h;simp only[ZS];omega
theorem pass_ok {p:P}{l:List P}{n:Nat}(h:AllOk (p::l))(hn:n≤p.z):AllOk (pass (p::l) n):=by
 rw[allOk_cons]at h;simp only[pass];split
 ·exact h.2
 ·rw[allOk_cons];refine⟨?_,h.2⟩;cases p with
  |k m=>simp only[P.z,P.cut,P.ok]at*;omega
  |d m=>simp only[P.z,P.cut,P.ok]at*;omega
  |i t=>
   simp only[P.z,P.cut,P.ok]at*;refine⟨fun h0=>?_,fun r hr=>h.1.2 r (List.mem_of_mem_drop hr)⟩;have:=congrArg List.length h0;simp at this;omega
theorem P.cut_z (p:P)(n:Nat):(p.cut n).z=p.z-n:=by cases p<;>simp[P.cut,P.z]
theorem pass_Z {p:P}{l:List P}{n:Nat}(hn:n≤p.z):ZS (pass (p::l) n)+n=ZS (p::l):=by
 simp only[pass];split
 ·simp only[ZS];omega
 ·simp only[ZS,P.cut_z];omega
theorem P.F_noins {p:P}(h:p.Ins=false):p.F=p.z:=by cases p<;>simp_all[P.F,P.z,P.Ins]
theorem pass_F {p:P}{l:List P}{n:Nat}(hp:p.Ins=false)(hn:n≤p.z):FS (pass (p::l) n)+n=FS (p::l):=by
 simp only[pass];split
 ·simp only[FS,P.F_noins hp];omega
 ·cases p with
  |k m=>simp only[FS,P.cut,P.F,P.z]at*;omega
  |d m=>simp only[FS,P.cut,P.F,P.z]at*;omega
  |i t=>cases hp
theorem pass_eq {p:P}{l:List P}{n:Nat}(h:n=p.z):pass (p::l) n=l:=by simp only[pass,if_pos h]
theorem pass_ne {p:P}{l:List P}{n:Nat}(h:n≠p.z):pass (p::l) n=p.cut n::l:=by simp only[pass,if_neg h]
theorem pass_k {m n:Nat}{l:List P}(h:n≤m)(t:List Nat):app t (.k m::l)=t.take n++app (t.drop n) (pass (.k m::l) n):=by
 by_cases hz:n=m
 ·rw[pass_eq (p:=.k m) hz];subst hz;rfl
 ·rw[pass_ne (p:=.k m) hz];simp only[P.cut,app,List.drop_drop,←List.append_assoc];rw[show t.take m=t.take n++(t.drop n).take (m-n)from by rw[←List.take_add];congr 1;omega,show n+(m-n)=m from by omega]
theorem pass_d {m n:Nat}{l:List P}(h:n≤m)(t:List Nat):app t (.d m::l)=app (t.drop n) (pass (.d m::l) n):=by
 by_cases hz:n=m
 ·rw[pass_eq (p:=.d m) hz];subst hz;rfl
 ·rw[pass_ne (p:=.d m) hz];simp only[P.cut,app,List.drop_drop];rw[show n+(m-n)=m from by omega]
theorem pass_Tk {m n:Nat}{l:List P}(h:n≤m):TS (pass (.k m::l) n)+n=TS (.k m::l):=by
 by_cases hz:n=m
 ·rw[pass_eq (p:=.k m) hz];simp only[TS,P.T];omega
 ·rw[pass_ne (p:=.k m) hz];simp only[TS,P.cut,P.T];omega
theorem pass_Td {m n:Nat}{l:List P}:TS (pass (.d m::l) n)=TS (.d m::l):=by
 by_cases hz:n=m
 ·rw[pass_eq (p:=.d m) hz];simp only[TS,P.T];omega
 ·rw[pass_ne (p:=.d m) hz];simp only[TS,P.cut,P.T]
theorem foldl_can (l:List P):∀r:List P,Can r→(∀p∈l,∀t,p=.i t→∀r∈t,Uni.vr r)→Can (l.foldl addP r):=by
 induction l with
 |nil=>intro r h _;exact h
 |cons p l ih=>intro r h hl;exact ih _ (addP_can p (fun t ht=>hl p (List.mem_cons_self ..) t ht) r h) (fun q hq=>hl q (List.mem_cons_of_mem _ hq))
theorem ok_vr {p:P}(h:p.ok):∀t,p=.i t→∀r∈t,Uni.vr r:=by rintro t rfl;exact h.2
theorem build_can {l:List P}(h:AllOk l):Can (build l):=foldl_can l [] trivial (fun p hp=>ok_vr (h p hp))
theorem foldl_FS (l:List P):∀r:List P,FS (l.foldl addP r)=FS r+FS l:=by
 induction l with
 |nil=>intro r;simp[FS]
 |cons p l ih=>intro r;simp only[List.foldl_cons,ih,FS_addP,FS];omega
theorem foldl_TS (l:List P):∀r:List P,TS (l.foldl addP r)=TS r+TS l:=by
 induction l with
 |nil=>intro r;simp[TS]
 |cons p l ih=>intro r;simp only[List.foldl_cons,ih,TS_addP,TS];omega
theorem build_FS (l:List P):FS (build l)=FS l:=by simp[build,foldl_FS,FS]
theorem build_TS (l:List P):TS (build l)=TS l:=by simp[build,foldl_TS,TS]
theorem foldl_app (l:List P):∀(r:List P)(t:List Nat),app t (l.foldl addP r).reverse=app t (r.reverse++l):=by
 induction l with
 |nil=>intro r t;simp
 |cons p l ih=>
  intro r t;rw[List.foldl_cons,ih,app_app,app_addP,FS_rev,FS_addP,List.reverse_cons,app_app,FS_rev,app_app,FS_rev];cases p<;>simp[app,P.F,List.append_assoc]
theorem build_app (l:List P)(t:List Nat):app t (build l).reverse=app t l:=by simp[build,foldl_app]
def opOfP (l:List P):Op:=(build l).reverse.map P.part
theorem opOfP_is {l:List P}(h:AllOk l)(hf:FS l≤4000)(ht:TS l≤4000):OpIs (opOfP l) (build l).reverse:=
 opIs_of (build_can h) (by rw[build_FS];exact hf) (by rw[build_TS];exact ht)
theorem opOfP_sumF {l:List P}:sumF (opOfP l)=FS l:=by unfold opOfP;rw[sumF_parts,FS_rev,build_FS]
theorem opOfP_sumT {l:List P}(h:AllOk l):sumT (opOfP l)=TS l:=by
 unfold opOfP;rw[sumT_parts _ (fun p hp=>(build_can h).all p (by simpa using hp)),TS_rev,build_TS]
theorem opOfP_opP {l:List P}(h:AllOk l)(hf:FS l≤4000)(ht:TS l≤4000):opP (opOfP l)=(build l).reverse:=(opOfP_is h hf ht).opP
theorem opOfP_app {l:List P}(h:AllOk l)(hf:FS l≤4000)(ht:TS l≤4000)(t:List Nat):app t (opP (opOfP l))=app t l:=by rw[opOfP_opP h hf ht,build_app]
def xe1:P→P→Nat→List P
 |.k _,.k _,n=>[.k n]
 |.d _,.k _,n=>[.d n]
 |_,_,_=>[]
def xe2:P→P→Nat→List P
 |.k _,.k _,n=>[.k n]
 |.k _,.d _,n=>[.d n]
 |_,_,_=>[]
def xf:Nat→List P→List P→List P×List P
 |0,_,_=>([],[])
 |f+1,.i t::a,b=>(.i t::(xf f a b).1,.k t.length::(xf f a b).2)
 |f+1,a,.i t::b=>(.k t.length::(xf f a b).1,.i t::(xf f a b).2)
 |f+1,x::a,y::b=>
  (xe1 x y (min x.z y.z)++(xf f (pass (x::a) (min x.z y.z)) (pass (y::b) (min x.z y.z))).1,
   xe2 x y (min x.z y.z)++(xf f (pass (x::a) (min x.z y.z)) (pass (y::b) (min x.z y.z))).2)
 |_+1,_,_=>([],[])
theorem xf_i1 (f:Nat)(t:List Nat)(a b:List P):xf (f+1) (.i t::a) b=(.i t::(xf f a b).1,.k t.length::(xf f a b).2):=by
 simp only[xf]
theorem xf_i2 (f:Nat)(t:List Nat)(a b:List P)(h:∀u r,a≠.i u::r):xf (f+1) a (.i t::b)=(.k t.length::(xf f a b).1,.i t::(xf f a b).2):=by
 cases a with
 |nil=>simp only[xf]
 |cons x a=>cases x<;>first|exact absurd rfl (h _ _)|simp only[xf]
theorem xf_2 (f:Nat)(x y:P)(a b:List P)(hx:x.Ins=false)(hy:y.Ins=false):xf (f+1) (x::a) (y::b)=
 (xe1 x y (min x.z y.z)++(xf f (pass (x::a) (min x.z y.z)) (pass (y::b) (min x.z y.z))).1,
  xe2 x y (min x.z y.z)++(xf f (pass (x::a) (min x.z y.z)) (pass (y::b) (min x.z y.z))).2):=by
 cases x<;>cases y<;>first|(simp only[xf];done)|(cases hx;done)|(cases hy;done)
theorem FS_zero {l:List P}(h:AllOk l)(hf:FS l=0):l=[]∨∃t r,l=.i t::r:=by
 cases l with
 |nil=>exact .inl rfl
 |cons p l=>
  refine .inr ?_;rw[allOk_cons]at h;cases p with
  |k n=>simp only[FS,P.F]at hf;have:=h.1;simp only[P.ok]at this;omega
  |d n=>simp only[FS,P.F]at hf;have:=h.1;simp only[P.ok]at this;omega
  |i t=>exact⟨t,l,rfl⟩
theorem two_ways {a b:List P}(ha:AllOk a)(hb:AllOk b)(h:FS a=FS b):
 (a=[]∧b=[])∨(∃t r,a=.i t::r)∨(∃t r,b=.i t::r∧∀u s,a≠.i u::s)∨(∃x r y s,a=x::r∧b=y::s∧x.Ins=false∧y.Ins=false):=by
 cases a with
 |nil=>
  rcases FS_zero hb (by simpa[FS]using h.symm)with rfl|⟨t,r,rfl⟩
  ·exact .inl ⟨rfl,rfl⟩
  ·exact .inr (.inr (.inl ⟨t,r,rfl,by simp⟩))
 |cons x a=>
  cases hx:x.Ins with
  |true=>
   cases x with
   |i t=>exact .inr (.inl ⟨t,a,rfl⟩)
   |k n=>cases hx
   |d n=>cases hx
  |false=>
   have hne:∀u s,x::a≠.i u::s:=by
    intro u s he;simp only[List.cons.injEq]at he;rw[he.1]at hx;cases hx
   cases b with
   |nil=>
    rcases FS_zero ha (by simpa[FS]using h)with h|⟨t,r,h⟩
    ·cases h
    ·exact absurd h (hne t r)
   |cons y b=>
    cases hy:y.Ins with
    |true=>
     cases y with
     |i t=>exact .inr (.inr (.inl ⟨t,b,rfl,hne⟩))
     |k n=>cases hy
     |d n=>cases hy
    |false=>exact .inr (.inr (.inr ⟨x,a,y,b,rfl,rfl,hx,hy⟩))
theorem xe_ok {x y:P}{n:Nat}(h:1≤n):AllOk (xe1 x y n)∧AllOk (xe2 x y n):=by
 cases x<;>cases y<;>simp[xe1,xe2,AllOk,P.ok]<;>omega
theorem xf_laws (f:Nat):∀a b:List P,AllOk a→AllOk b→FS a=FS b→ZS a+ZS b≤f→
 AllOk (xf f a b).1∧AllOk (xf f a b).2∧FS (xf f a b).1=TS b∧FS (xf f a b).2=TS a∧TS (xf f a b).1=TS (xf f a b).2∧
 (∀t:List Nat,t.length=FS a→app (app t b) (xf f a b).1=app (app t a) (xf f a b).2):=by
 induction f with
 |zero=>
  intro a b ha hb h hz;have h1:a=[]:=by
   cases a with
   |nil=>rfl
   |cons p a=>have:=ZS_pos (l:=a) ((allOk_cons.1 ha).1);omega
  have h2:b=[]:=by
   cases b with
   |nil=>rfl
   |cons p b=>have:=ZS_pos (l:=b) ((allOk_cons.1 hb).1);omega
  subst h1 h2;simp[xf,AllOk,FS,TS,app]
 |succ f ih=>
  intro a b ha hb h hz;rcases two_ways ha hb h with⟨rfl,rfl⟩|⟨t,r,rfl⟩|⟨t,r,rfl,hne⟩|⟨x,r,y,s,rfl,rfl,hx,hy⟩
  ·simp[xf,AllOk,FS,TS,app]
  ·obtain⟨h1,h2⟩:=allOk_cons.1 ha;have hp:=P.ok_z h1;simp only[ZS,P.z]at hz hp;obtain⟨i1,i2,i3,i4,i5,i6⟩:=ih r b h2 hb (by simpa[FS,P.F]using h) (by omega);rw[xf_i1];refine⟨allOk_cons.2 ⟨h1,i1⟩,allOk_cons.2 ⟨hp,i2⟩,?_,?_,?_,fun u hu=>?_⟩
   ·simp only[FS,P.F];omega
   ·simp only[FS,P.F,TS,P.T];omega
   ·simp only[TS,P.T];omega
   ·simp only[app];rw[List.take_left,List.drop_left,i6 u (by simpa[FS,P.F]using hu)]
  ·obtain⟨h1,h2⟩:=allOk_cons.1 hb;have hp:=P.ok_z h1;simp only[ZS,P.z]at hz hp;obtain⟨i1,i2,i3,i4,i5,i6⟩:=ih a r ha h2 (by simpa[FS,P.F]using h) (by omega);rw[xf_i2 _ _ _ _ hne];refine⟨allOk_cons.2 ⟨hp,i1⟩,allOk_cons.2 ⟨h1,i2⟩,?_,?_,?_,fun u hu=>?_⟩
   ·simp only[FS,P.F,TS,P.T];omega
   ·simp only[FS,P.F];omega
   ·simp only[TS,P.T];omega
   ·simp only[app];rw[List.take_left,List.drop_left,i6 u hu]
  ·obtain⟨ox,hr⟩:=allOk_cons.1 ha;obtain⟨oy,hs⟩:=allOk_cons.1 hb;have zx:=P.ok_z ox;have zy:=P.ok_z oy;have hn:1≤min x.z y.z:=by omega
   have hnx:min x.z y.z≤x.z:=Nat.min_le_left _ _;have hny:min x.z y.z≤y.z:=Nat.min_le_right _ _;rw[xf_2 _ _ _ _ _ hx hy];generalize min x.z y.z=n at*;have za:=pass_Z (l:=r) hnx;have zb:=pass_Z (l:=s) hny;have fa:=pass_F (l:=r) hx hnx;have fb:=pass_F (l:=s) hy hny;obtain⟨i1,i2,i3,i4,i5,i6⟩:=ih _ _ (pass_ok ha hnx) (pass_ok hb hny) (by omega) (by omega);have ho:=xe_ok (x:=x) (y:=y) hn;refine⟨allOk_app.2 ⟨ho.1,i1⟩,allOk_app.2 ⟨ho.2,i2⟩,?_⟩;cases x with
   |i t=>cases hx
   |k m=>
    cases y with
    |i t=>cases hy
    |k m'=>
     simp only[P.z]at hnx hny;have ta:=pass_Tk (l:=r) hnx;have tb:=pass_Tk (l:=s) hny;simp only[xe1,xe2,List.cons_append,List.nil_append,FS,TS,P.F,P.T]at*;refine⟨by omega,by omega,by omega,fun u hu=>?_⟩;rw[pass_k hnx u,pass_k hny u];have hl:(u.take n).length=n:=by rw[List.length_take];omega
     simp only[app];rw[List.take_left' hl,List.drop_left' hl,List.take_left' hl,List.drop_left' hl,i6 (u.drop n) (by rw[List.length_drop];omega)]
    |d m'=>
     simp only[P.z]at hnx hny;have ta:=pass_Tk (l:=r) hnx;have tb:=pass_Td (m:=m') (n:=n) (l:=s);simp only[xe1,xe2,List.cons_append,List.nil_append,FS,TS,P.F,P.T]at*;refine⟨by omega,by omega,by omega,fun u hu=>?_⟩;rw[pass_k hnx u,pass_d hny u];have hl:(u.take n).length=n:=by rw[List.length_take];omega
     simp only[app];rw[List.drop_left' hl,i6 (u.drop n) (by rw[List.length_drop];omega)]
   |d m=>
    cases y with
    |i t=>cases hy
    |k m'=>
     simp only[P.z]at hnx hny;have ta:=pass_Td (m:=m) (n:=n) (l:=r);have tb:=pass_Tk (l:=s) hny;simp only[xe1,xe2,List.cons_append,List.nil_append,FS,TS,P.F,P.T]at*;refine⟨by omega,by omega,by omega,fun u hu=>?_⟩;rw[pass_d hnx u,pass_k hny u];have hl:(u.take n).length=n:=by rw[List.length_take];omega
     simp only[app];rw[List.drop_left' hl,i6 (u.drop n) (by rw[List.length_drop];omega)]
    |d m'=>
     simp only[P.z]at hnx hny;have ta:=pass_Td (m:=m) (n:=n) (l:=r);have tb:=pass_Td (m:=m') (n:=n) (l:=s);simp only[xe1,xe2,List.nil_append,FS,TS,P.F,P.T]at*;refine⟨by omega,by omega,by omega,fun u hu=>?_⟩;rw[pass_d hnx u,pass_d hny u,i6 (u.drop n) (by rw[List.length_drop];omega)]
def iv:List Nat→List P→List P
 |_,[]=>[]
 |t,.k n::r=>.k n::iv (t.drop n) r
 |t,.i l::r=>.d l.length::iv t r
 |t,.d n::r=>.i (t.take n)::iv (t.drop n) r
end Go.Proofs.YtkbfhgcjimfgkaaDoor
set_option linter.unusedSimpArgs false
namespace Go.Proofs.YtkbfhgcjimfgkaaDoor
open Go.RowKit
theorem iv_app (a:List P):∀(t:List Nat)(b:List P),iv t (a++b)=iv t a++iv (t.drop (FS a)) b:=by
 induction a with
 |nil=>intro t b;simp[iv,FS]
 |cons p a ih=>intro t b;cases p<;>simp[iv,FS,P.F,ih,List.drop_drop]
def invO (t:Str)(o:Op):Op:=opOfP (iv (rns t) (opP o))
end Go.Proofs.YtkbfhgcjimfgkaaDoor
set_option linter.unusedSimpArgs false
namespace Go.Proofs.YtkbfhgcjimfgkaaDoor
open Go.RowKit
set_option maxRecDepth 100000 in
set_option maxHeartbeats 1000000 in
theorem last_none (B b:Nat)(v:Value)(k:Int)(r:List Part)(w:World)(hl:r.length≤1000000000000)(hk:∀q,r.head?=some q→q.kind≠k)
 (hbag:Bag 160 B b v [] r.reverse w):
 Calls Tryd.prog 92 #[.pointer (some ⟨b,0,none⟩),.int .i64 k] w fun e w'=>e=.returned (.pointer none)∧w=w':=by
 obtain⟨a,c,hv⟩:=hbag.form;have hc0:=hbag.cell 0;simp only[List.getElem?_cons_zero,List.length_reverse]at hc0 hv;rw[hv]at hc0;cases r with
 |nil=>
  clear hbag hv hk;simp only[List.length_nil]at hc0;go_enter Tryd.func92,Tryd.ntmps92;go_wp2_with fail
  go_ret
  exact⟨rfl,rfl⟩
 |cons q r=>
  obtain⟨g,rfl,hg,hq0,hq1,hq2⟩:=hbag.last (by rw[hv]);have hcap:r.length+1≤c:=by
   rcases hbag.own.2 with⟨_,h0⟩|⟨g',cap,cur,hv',_,_,hnc,_⟩
   ·simp at h0
   ·rw[hv]at hv';injection hv' with _ _ h3;simp at hnc;omega
  have hne:(q.kind==k)=false:=by simpa using hk q rfl
  clear hbag hv hk hg;simp only[List.length_cons]at hc0 hl;have h0:0<r.length+1:=by omega
  generalize r.length=n at*;go_enter Tryd.func92,Tryd.ntmps92;go_wp2_with fail
  go_ret
  exact⟨rfl,rfl⟩
set_option maxRecDepth 100000 in
set_option maxHeartbeats 1000000 in
theorem last_some (B b:Nat)(v:Value)(k:Int)(q:Part)(r:List Part)(w:World)(hl:r.length≤1000000000000)(hk:q.kind=k)(g:Nat)(hg0:v.ownBlock=some g)
 (hbag:Bag 160 B b v [] (q::r).reverse w):
 Calls Tryd.prog 92 #[.pointer (some ⟨b,0,none⟩),.int .i64 k] w fun e w'=>e=.returned (.pointer (some ⟨g,r.length*3,none⟩))∧w=w':=by
 obtain⟨a,c,hv⟩:=hbag.form;have hc0:=hbag.cell 0;simp only[List.getElem?_cons_zero,List.length_reverse]at hc0 hv;rw[hv]at hc0;obtain⟨g',rfl,hg,hq0,hq1,hq2⟩:=hbag.last (by rw[hv]);have hgg:g'=g:=by rw[hg]at hg0;injection hg0
 subst hgg;have hcap:r.length+1≤c:=by
  rcases hbag.own.2 with⟨_,h0⟩|⟨g',cap,cur,hv',_,_,hnc,_⟩
  ·simp at h0
  ·rw[hv]at hv';injection hv' with _ _ h3;simp at hnc;omega
 have hne:(q.kind==k)=true:=by simpa using hk
 clear hbag hv hk hg hg0;simp only[List.length_cons]at hc0 hl;have h0:0<r.length+1:=by omega
 generalize r.length=n at*;go_enter Tryd.func92,Tryd.ntmps92;go_wp2_with fail
 go_ret
 exact⟨by simp[Nat.mul_comm],rfl⟩
theorem merge_fin {T B b:Nat}{v:Value}{ex:List Value}{q p:Part}{r:List Part}{w:World}{g:Nat}(hk:p.kind=q.kind)(hbag:Bag T B b v ex (q::r).reverse w)(hg:v.ownBlock=some g):
 ∀W:World,Touch (fun _=>False) w W→
 ((p.text=q.text→AddPost T B b v ex (p::r) w (.returned (.tuple #[])) (W.setCell ⟨g,r.length*3+1,none⟩ (.int .i64 p.n)))∧
  (p.n=q.n→AddPost T B b v ex (p::r) w (.returned (.tuple #[])) (W.setCell ⟨g,r.length*3+2,none⟩ (.string p.text)))):=by
 intro W hW;obtain⟨a,c,hv⟩:=hbag.form;simp only[List.length_reverse]at hv;have hbgn:b≠g:=fun e=>hbag.ne (by rw[hg,e]);have hbW:=hbag.touch hW (fun _ _ h=>h);have hoW:=hbW.own;rw[hv]at hoW hg;simp only[List.length_reverse,List.length_cons]at hoW;have hag:a=some ⟨g,0,none⟩:=by
  rcases hoW.2 with⟨h1,h2⟩|⟨g',cap,cur,h1,_⟩
  ·simp at h2
  ·injection h1 with h1 _ _;subst h1;simp[Value.ownBlock]at hg;rw[hg]
 subst hag;have hset:=flat_set p q r hk;have hfl:=flat_len (q::r).reverse;simp only[List.length_reverse,List.length_cons]at hfl;have h0:=flat_snoc q r;have hl0:(flat r.reverse).length=r.length*3:=by rw[flat_len,List.length_reverse]
 refine⟨fun ht=>?_,fun hn=>?_⟩
 ·have h1:=(hoW.stored (r.length*3+1) (.int .i64 p.n)).1;have e:(flat (q::r).reverse).set (r.length*3+1) (.int .i64 p.n)=flat (p::r).reverse:=by
   rw[←hset];symm;apply List.ext_getElem?;intro i;by_cases hi:i=r.length*3+2
   ·subst hi;rw[List.getElem?_set_self (by rw[List.length_set,hfl];omega),List.getElem?_set_ne (by omega),h0,List.getElem?_append_right (by omega),hl0];rw[show r.length*3+2-r.length*3=2 from by omega,ht];rfl
   ·rw[List.getElem?_set_ne (by omega)]
  rw[e]at h1;refine⟨v,rfl,⟨hbag.base,?_,?_,hbag.ne⟩,?_,.inl rfl⟩
  ·rw[Below.heap_setCell _ _ _ _ hbgn];exact hbW.blk
  ·rw[hv];simpa using h1
  ·exact((hW.mono (fun _ _ h=>h.elim)).setCell (p:=⟨g,r.length*3+1,none⟩) (.inl (.inr (by rw[hv];rfl))) _)
 ·have h1:=(hoW.stored (r.length*3+2) (.string p.text)).1;have e:(flat (q::r).reverse).set (r.length*3+2) (.string p.text)=flat (p::r).reverse:=by
   rw[←hset];symm;apply List.ext_getElem?;intro i;by_cases hi:i=r.length*3+1
   ·subst hi;rw[List.getElem?_set_ne (by omega),List.getElem?_set_self (by omega),List.getElem?_set_ne (by omega),h0,List.getElem?_append_right (by omega),hl0];rw[show r.length*3+1-r.length*3=1 from by omega,hn];rfl
   ·by_cases hi2:i=r.length*3+2
    ·subst hi2;rw[List.getElem?_set_self (by rw[List.length_set,hfl];omega),List.getElem?_set_self (by omega)]
    ·rw[List.getElem?_set_ne (by omega),List.getElem?_set_ne (by omega),List.getElem?_set_ne (by omega)]
  rw[e]at h1;refine⟨v,rfl,⟨hbag.base,?_,?_,hbag.ne⟩,?_,.inl rfl⟩
  ·rw[Below.heap_setCell _ _ _ _ hbgn];exact hbW.blk
  ·rw[hv];simpa using h1
  ·exact((hW.mono (fun _ _ h=>h.elim)).setCell (p:=⟨g,r.length*3+2,none⟩) (.inl (.inr (by rw[hv];rfl))) _)
theorem addR_ge {p:Part}{r:List Part}(ht:triv p=false)(h:∀q,r.head?=some q→¬q.kind=p.kind∧¬(p.kind=2∧q.kind=3)):addR r p=p::r:=by
 cases r with
 |nil=>exact addR_nil ht
 |cons q r=>exact addR_more ht (h q rfl).1 (h q rfl).2
set_option maxRecDepth 100000 in
set_option maxHeartbeats 2000000 in
theorem remove_any (B b:Nat)(v:Value)(n:Int)(r:List Part)(w:World)(hn:0≤n∧n≤1000000000000)(hr:∀q∈r,Mild q)(hl:r.length≤1000000000000)
 (hbag:Bag 160 B b v [] r.reverse w):
 Calls Tryd.prog 78 #[.pointer (some ⟨b,0,none⟩),.int .i64 n] w (AddPost 160 B b v [] (addR r ⟨3,n,noText⟩) w):=by
 by_cases hq:∃q r',r=q::r'∧q.kind=3
 ·obtain⟨q,r',rfl,hk⟩:=hq;have he:AddPost 160 B b v [] (addR (q::r') ⟨3,n,noText⟩) w=AddPost 160 B b v [] (⟨q.kind,q.n+n,q.text⟩::r') w:=by
   by_cases h0:n=0
   ·subst h0;rw[show addR (q::r') ⟨3,0,noText⟩=q::r' from by simp[addR,triv]];congr 2;simp
   ·rw[addR_merge (by simp[triv,h0]) hk];simp only[app_noText]
  rw[he];clear he;obtain⟨a,c,hv⟩:=hbag.form;simp only[List.length_reverse]at hv;obtain⟨g,rfl,hg,hq0,hq1,hq2⟩:=hbag.last (by rw[hv]);have hrow:=(hbag.rowlt g hg);have hown:=hbag.own;rw[hv]at hown;simp only[List.length_reverse,List.length_cons]at hown;have hf1:=hown.frozenAt (r'.length*3+1);have hfin:=fun W (hW:Touch (fun _=>False) w W)=>(merge_fin (q:=q) (p:=⟨q.kind,q.n+n,q.text⟩) rfl hbag hg W hW).1 rfl;have Hlast:=Lib.hid (last_some B b v 3 q r' w (by simp at hl;omega) hk g hg hbag);have Hfin:=Lib.hid hfin;have hmq:=(hr q (List.mem_cons_self ..)).n;have hgl:=hrow.2;clear hfin hown hbag hv hg hrow hr hk;obtain⟨qk,qn,qt⟩:=q;simp only at*;generalize r'.length*3=o at*;go_enter Tryd.func78,Tryd.ntmps78;go_wp2_with fail;refine Hlast.out.mono ?_;rintro e w1 ⟨rfl,rfl⟩;go_wp2_with fail;go_end0;exact Hfin.out _ (Touch.refl _ _)
 ·have hh:∀q,r.head?=some q→q.kind≠3:=by
   intro q hq2 hk;cases r with
   |nil=>cases hq2
   |cons x r=>simp at hq2;subst hq2;exact hq ⟨x,r,rfl,hk⟩
  have Hlast:=Lib.hid (last_none B b v 3 r w hl hh hbag);by_cases h0:n=0
  ·subst h0;have he:addR r ⟨3,0,noText⟩=r:=by cases r<;>simp[addR,triv]
   rw[he];have Hfin:Hid (AddPost 160 B b v [] r w (.returned (.tuple #[])) w):=⟨v,rfl,hbag,Touch.refl _ _,.inl rfl⟩;clear hbag he hr hq hh hn;go_enter Tryd.func78,Tryd.ntmps78;go_wp2_with fail;refine Hlast.out.mono ?_;rintro e w1 ⟨rfl,rfl⟩;go_wp2_with fail;go_end0;exact Hfin.out
  ·obtain⟨i0,hi,hz0,hz1,hz2⟩:=info_parts infoP;rw[addR_ge (by simp[triv,h0]) (fun q hq2=>⟨hh q hq2,by simp⟩)];obtain⟨a,c,hv⟩:=hbag.form;simp only[List.length_reverse]at hv;have hown:=hbag.own;rw[hv]at hown;simp only[List.length_reverse]at hown;have hc0:=hbag.cell 0;have hf0:=hbag.frozen 0;have hlt:=hbag.lt;have hbase:=hbag.base;simp only[List.getElem?_cons_zero]at hc0;rw[hv]at hc0;have hne:=hbag.ne;rw[hv]at hne;have hp:0<n:=by omega
   have Hne:=Lib.hid hne;have Hv:=Lib.hid hv;have Hbag:=Lib.hid hbag;have Hown:=Lib.hid hown;clear hne hv hbag hown hr hq hh h0;go_enter Tryd.func78,Tryd.ntmps78;go_wp2_with fail;refine Hlast.out.mono ?_;rintro e w1 ⟨rfl,rfl⟩;clear Hlast;go_wp2_with (at_builtin;refine wpList_append_lies _ rfl _ _ _ (by rfl) B 53 i0 _ 3 32 Tryd.underlying42 hi hz0 hz1 hz2 rfl (by omega) (.slice a r.length c) r.length (flat r.reverse) (by rfl) (Hown.out.alloc _) ⟨w.heap.size,0,none⟩ 1 1 [.int .i64 3,.int .i64 n,.string ⟨#[]⟩] (by rfl) (by rfl) (news_at (heap_new_at _ _ _ (by simp))) (by simp[Value.oneCell']) (by omega) (by unfold maxLen;omega) (by omega) (by simp;omega) (w.heap.size+1) (by simp) ?_);intro gg cap w1 hown1 hgrow hat hlt1;have hbk1:w1.heap[b]?=w.heap[b]?:=(hgrow.block b (by simp;omega) (Ne.symm Hne.out)).trans (Below.heap_alloc w _ b hlt);have hf1:w1.frozen? ⟨b,0,none⟩=false:=(World.frozen?_of_block (a:=⟨b,0,none⟩) hbk1).trans hf0;have hd1:=(cell_keep (o:=0) hbk1).trans hc0;have Hown1:=Lib.hid hown1;have Hgrow:=Lib.hid hgrow;have Hat:=Lib.hid hat;have Hbk1:=Lib.hid hbk1;clear hown1 hgrow hat hbk1;go_wp2_with fail;go_end0;exact add_fin hbase Hv.out Hbag.out.blk Hbk1.out (by rw[flat_snoc];simpa[partCells,noText]using Hown1.out) ((Touch.refl _ w).alloc _) Hgrow.out (Hat.out.imp_right (fun h=>by omega))
theorem AddPost.from {T B b:Nat}{v v1:Value}{ex:List Value}{r:List Part}{w w1 w2:World}{e:Ending}(h1:Touch (Bag.S b v) w w1)(hv1:v1.ownBlock=v.ownBlock∨∀g,v1.ownBlock=some g→w.heap.size≤g)
 (h2:AddPost T B b v1 ex r w1 e w2):AddPost T B b v ex r w e w2:=by
 obtain⟨v2,he,hb,ht,hv2⟩:=h2;have hsub:∀k,k<w.heap.size→Bag.S b v1 k→Bag.S b v k:=by
  rintro k hk (rfl|h)
  ·exact .inl rfl
  ·rcases hv1 with h'|h'
   ·exact .inr (h'▸h)
   ·have:=h' k h;omega
 refine⟨v2,he,hb,h1.then_ ht hsub,?_⟩;rcases hv2 with h|h
 ·rcases hv1 with h'|h'
  ·exact .inl (h.trans h')
  ·exact .inr fun g hg=>h' g (by rw[←h];exact hg)
 ·exact .inr fun g hg=>Nat.le_trans h1.size (h g hg)
set_option maxRecDepth 100000 in
set_option maxHeartbeats 2000000 in
theorem insert_top (B b:Nat)(v:Value)(s:Str)(r:List Part)(w:World)(hs:s.size≤1000000000000)(hr:∀q∈r,Mild q)(hl:r.length≤1000000000000)(hn3:∀q,r.head?=some q→q.kind≠3)
 (hbag:Bag 160 B b v [] r.reverse w):
 Calls Tryd.prog 79 #[.pointer (some ⟨b,0,none⟩),.string s] w (AddPost 160 B b v [] (addR r ⟨2,0,s⟩) w):=by
 cases he:emptyS s with
 |true=>
  have h1:addR r ⟨2,0,s⟩=r:=by cases r<;>simp[addR,triv,he]
  rw[h1];have Hfin:Hid (AddPost 160 B b v [] r w (.returned (.tuple #[])) w):=⟨v,rfl,hbag,Touch.refl _ _,.inl rfl⟩;have h2:s.toList.isEmpty=true:=he;clear he h1 hbag hr hn3;go_enter Tryd.func79,Tryd.ntmps79;go_wp2_with fail;go_end0;exact Hfin.out
 |false=>
  have ht:triv ⟨2,0,s⟩=false:=by simp[triv,he]
  have h2:s.toList.isEmpty=false:=he;by_cases hq:∃q r',r=q::r'∧q.kind=2
  ·obtain⟨q,r',rfl,hk⟩:=hq;rw[addR_merge ht hk];obtain⟨a,c,hv⟩:=hbag.form;simp only[List.length_reverse]at hv;obtain⟨g,rfl,hg,hq0,hq1,hq2⟩:=hbag.last (by rw[hv]);have hrow:=(hbag.rowlt g hg);have hown:=hbag.own;rw[hv]at hown;simp only[List.length_reverse,List.length_cons]at hown;have hf1:=hown.frozenAt (r'.length*3+2);have hfin:=fun W (hW:Touch (fun _=>False) w W)=>(merge_fin (q:=q) (p:=⟨q.kind,q.n+0,q.text++s⟩) rfl hbag hg W hW).2 (by simp);have Hlast:=Lib.hid (last_some B b v 2 q r' w (by simp at hl;omega) hk g hg hbag);have Hfin:=Lib.hid hfin;have hadd:∀W:World,(Op.stringOp .add q.text s).run Tryd.prog W=.ok (.string (q.text++s)) W:=fun W=>run_string_add_sum W _ _ (by have h1:=(hr q (List.mem_cons_self ..)).t;omega);have hgl:=hrow.2;clear hfin hown hbag hv hg hrow hr hk ht he hn3;obtain⟨qk,qn,qt⟩:=q;simp only at*;generalize r'.length*3=o at*;go_enter Tryd.func79,Tryd.ntmps79;go_wp2_with fail;refine Hlast.out.mono ?_;rintro e w1 ⟨rfl,rfl⟩;go_wp2_with fail;go_end0;exact Hfin.out _ (Touch.refl _ _)
  ·have hh:∀q,r.head?=some q→q.kind≠2:=by
    intro q hq2 hk;cases r with
    |nil=>cases hq2
    |cons x r=>simp at hq2;subst hq2;exact hq ⟨x,r,rfl,hk⟩
   have Hl2:=Lib.hid (last_none B b v 2 r w hl hh hbag);have Hl3:=Lib.hid (last_none B b v 3 r w hl hn3 hbag);obtain⟨i0,hi,hz0,hz1,hz2⟩:=info_parts infoP;rw[addR_ge ht (fun q hq2=>⟨hh q hq2,fun h=>hn3 q hq2 h.2⟩)];obtain⟨a,c,hv⟩:=hbag.form;simp only[List.length_reverse]at hv;have hown:=hbag.own;rw[hv]at hown;simp only[List.length_reverse]at hown;have hc0:=hbag.cell 0;have hf0:=hbag.frozen 0;have hlt:=hbag.lt;have hbase:=hbag.base;simp only[List.getElem?_cons_zero]at hc0;rw[hv]at hc0;have hne:=hbag.ne;rw[hv]at hne;have Hne:=Lib.hid hne;have Hv:=Lib.hid hv;have Hbag:=Lib.hid hbag;have Hown:=Lib.hid hown;clear hne hv hbag hown hr hq hh ht he hn3;go_enter Tryd.func79,Tryd.ntmps79;go_wp2_with fail;refine Hl2.out.mono ?_;rintro e w1 ⟨rfl,rfl⟩;clear Hl2;go_wp2_with fail;refine Hl3.out.mono ?_;rintro e w1 ⟨rfl,rfl⟩;clear Hl3;go_wp2_with (at_builtin;refine wpList_append_lies _ rfl _ _ _ (by rfl) B 53 i0 _ 3 32 Tryd.underlying42 hi hz0 hz1 hz2 rfl (by omega) (.slice a r.length c) r.length (flat r.reverse) (by rfl) (Hown.out.alloc _) ⟨w.heap.size,0,none⟩ 1 1 [.int .i64 2,.int .i64 0,.string s] (by rfl) (by rfl) (news_at (heap_new_at _ _ _ (by simp))) (by simp[Value.oneCell']) (by omega) (by unfold maxLen;omega) (by omega) (by simp;omega) (w.heap.size+1) (by simp) ?_);intro gg cap w1 hown1 hgrow hat hlt1;have hbk1:w1.heap[b]?=w.heap[b]?:=(hgrow.block b (by simp;omega) (Ne.symm Hne.out)).trans (Below.heap_alloc w _ b hlt);have hf1:w1.frozen? ⟨b,0,none⟩=false:=(World.frozen?_of_block (a:=⟨b,0,none⟩) hbk1).trans hf0;have hd1:=(cell_keep (o:=0) hbk1).trans hc0;have Hown1:=Lib.hid hown1;have Hgrow:=Lib.hid hgrow;have Hat:=Lib.hid hat;have Hbk1:=Lib.hid hbk1;clear hown1 hgrow hat hbk1;go_wp2_with fail;go_end0;exact add_fin hbase Hv.out Hbag.out.blk Hbk1.out (by rw[flat_snoc];simpa[partCells,noText]using Hown1.out) ((Touch.refl _ w).alloc _) Hgrow.out (Hat.out.imp_right (fun h=>by omega))
set_option maxRecDepth 100000 in
set_option maxHeartbeats 2000000 in
theorem insert_any (B b:Nat)(v:Value)(s:Str)(r:List Part)(w:World)(hs:s.size≤1000000000000)(hval:valid s=true)(hc:Canon r)(hr0:∀q∈r,Mild q∧q.text.size+s.size≤1000000000000)(hl:r.length≤100000000000)
 (hbag:Bag 160 B b v [] r.reverse w):
 Calls Tryd.prog 79 #[.pointer (some ⟨b,0,none⟩),.string s] w (AddPost 160 B b v [] (addR r ⟨2,0,s⟩) w):=by
 have hr:∀q∈r,Mild q:=fun q hq=>(hr0 q hq).1;by_cases hq:∃q r',r=q::r'∧q.kind=3∧emptyS s=false
 ·obtain⟨q,r',rfl,hk,he⟩:=hq;have ht:triv ⟨2,0,s⟩=false:=by simp[triv,he]
  have h2:s.toList.isEmpty=false:=he;have hq3:∀x,r'.head?=some x→x.kind≠3:=by
   intro x hx;cases r' with
   |nil=>cases hx
   |cons y r'=>
    simp at hx;subst hx;have:=hc.2.1;unfold clash at this;simp at this;intro h;exact this.1 (by omega)
  rw[addR_swap ht (by simp[hk]) ⟨rfl,hk⟩];have hadd:=(addR_canon (proto_ins s hval) hc.tail).2 ht rfl hq3;have hqs:q=⟨3,q.n,noText⟩∧1≤q.n:=by
   obtain⟨qk,qn,qt⟩:=q;simp only at hk;subst hk;rcases hc.head with⟨_,h1,h3⟩|⟨h1,_⟩
   ·simp only at h1 h3;subst h3;exact⟨rfl,h1⟩
   ·simp at h1
  have hend:addR (addR r' ⟨2,0,s⟩) ⟨3,q.n,noText⟩=q::addR r' ⟨2,0,s⟩:=by
   rw[addR_ge (by simp[triv];have:=hqs.2;omega) (fun x hx=>⟨by have:=hadd x hx;simp only;omega,by simp⟩),←hqs.1]
  obtain⟨a,c,hv⟩:=hbag.form;simp only[List.length_reverse,List.length_cons]at hv;obtain⟨g,rfl,hg,hq0,hq1,hq2⟩:=hbag.last (by rw[hv]);have hrow:=(hbag.rowlt g hg);have hcap:r'.length+1≤c:=by
   rcases hbag.own.2 with⟨_,h0⟩|⟨g',cap,cur,hv',_,_,hnc,_⟩
   ·simp at h0
   ·rw[hv]at hv';injection hv' with _ _ h3;simp at hnc;omega
  have hc0:=hbag.cell 0;have hf0:=hbag.frozen 0;simp only[List.getElem?_cons_zero]at hc0;rw[hv]at hc0;have Hl2:=Lib.hid (last_none B b v 2 (q::r') w (by simp at hl⊢;omega) (fun x hx=>by simp at hx;subst hx;omega) hbag);have Hl3:=Lib.hid (last_some B b v 3 q r' w (by simp at hl;omega) hk g hg hbag);have hr':∀x∈r',Mild x:=fun x hx=>hr x (List.mem_cons_of_mem _ hx);have hl':r'.length≤100000000000:=by simp at hl;omega
  have hcut:∀W:World,Touch (fun _=>False) w W→Bag 160 B b (.slice (some ⟨g,0,none⟩) r'.length c) [] r'.reverse (W.setCell ⟨b,0,none⟩ (.slice (some ⟨g,0,none⟩) r'.length c)):=by
   intro W hW;have hbW:=hbag.touch hW (fun _ _ h=>h);have hoW:=hbW.own;rw[hv]at hoW;simp only[List.length_reverse,List.length_cons]at hoW;have h1:=ownsRow_cut hoW r'.length (by omega);rw[flat_snoc]at h1;have h2:(flat r'.reverse++partCells q).take (r'.length*3)=flat r'.reverse:=by
    have:=flat_len r'.reverse;rw[List.length_reverse]at this;rw[←this,List.take_left]
   rw[h2]at h1;exact Bag.put hbag.base hbW.blk (by simpa using h1) (by decide)
  have HI:=Lib.hid (fun W h=>insert_top B b (.slice (some ⟨g,0,none⟩) r'.length c) s r' W hs hr' (by omega) hq3 h);have HR:=Lib.hid (fun v W (hm:∀x∈addR r' ⟨2,0,s⟩,Mild x) h=>remove_any B b v q.n (addR r' ⟨2,0,s⟩) W ⟨by have:=hqs.2;omega,(hr q (List.mem_cons_self ..)).n.2⟩ hm (by have:=addR_len r' ⟨2,0,s⟩;omega) h);have Hmild:Hid (∀x∈addR r' ⟨2,0,s⟩,Mild x):=by
   unfold Hid;refine addR_each (fun q=>Mild q∧q.text.size+s.size≤1000000000000) Mild _ ⟨by simp only;omega,by simp only;omega,hs⟩ (fun q h=>h.1) (fun q h hk=>⟨h.1.k,by have:=h.1.n;simp only;omega,by simp only[size_app];exact h.2⟩) r' (fun x hx=>hr0 x (List.mem_cons_of_mem _ hx))
  rw[hend]at HR;have Hcut:=Lib.hid hcut;have Hg:=Lib.hid hg;have hlt:=hbag.lt;have hgl:=hrow.2;clear hcut hbag hv hrow hr hr' hr0 hadd hend hc hval hq3 hg;have hqk:=hqs.2;clear hqs;obtain⟨qk,qn,qt⟩:=q;simp only at*;have h0:0<r'.length+1:=by omega
  generalize hF:(⟨qk,qn,qt⟩::addR r' ⟨2,0,s⟩:List Part)=F at*;have HF:=Lib.hid hF;clear hF;generalize addR r' ⟨2,0,s⟩=R at*;go_enter Tryd.func79,Tryd.ntmps79;go_wp2_with fail;refine Hl2.out.mono ?_;rintro e w1 ⟨rfl,rfl⟩;clear Hl2;go_wp2_with fail;refine Hl3.out.mono ?_;rintro e w1 ⟨rfl,rfl⟩;clear Hl3;go_wp2_with fail
  go_region
  go_wp2_with fail;refine(HI.out _ ((Hcut.out w (Touch.refl _ _)).touch (Touch.refl (fun _=>False) _).drew (fun _ _ h=>h))).mono ?_;rintro e w2 ⟨v2,rfl,hbag2,ht2,hat2⟩;have Hb2:=Lib.hid hbag2;have Ht2:=Lib.hid ht2;have Hat2:=Lib.hid hat2;clear hbag2 ht2 hat2;go_wp2_with fail;refine(HR.out _ _ Hmild.out Hb2.out).mono ?_;rintro e w3 hpost;have hpost:AddPost 160 B b v [] F w e w3:=by
   have t0:Touch (Bag.S b v) w (w.setCell ⟨b,0,none⟩ (.slice (some ⟨g,0,none⟩) r'.length c)).drew:=((Touch.refl _ w).setCell (p:=⟨b,0,none⟩) (.inl (.inl rfl)) _).drew;refine AddPost.from (v1:=v2) (t0.then_ Ht2.out (fun k _ h=>?_)) ?_ hpost
   ·rcases h with rfl|h
    ·exact .inl rfl
    ·exact .inr (Hg.out.trans h)
   ·rcases Hat2.out with h|h
    ·exact .inl (by rw[h,Hg.out];rfl)
    ·exact .inr fun k hk=>by have:=h k hk;simpa using this
  obtain⟨v3,rfl,h3,h4,h5⟩:=hpost;have Hfin:Hid (AddPost 160 B b v [] F w (.returned (.tuple #[])) w3):=⟨v3,rfl,h3,h4,h5⟩;clear h3 h4 h5;go_wp2_with fail;go_end0;exact Hfin.out
 ·cases he:emptyS s with
  |false=>exact insert_top B b v s r w hs hr (by omega) (fun x hx hk=>by
   cases r with
   |nil=>cases hx
   |cons y r=>simp at hx;subst hx;exact hq ⟨y,r,rfl,hk,he⟩) hbag
  |true=>
   have h1:addR r ⟨2,0,s⟩=r:=by cases r<;>simp[addR,triv,he]
   rw[h1];have Hfin:Hid (AddPost 160 B b v [] r w (.returned (.tuple #[])) w):=⟨v,rfl,hbag,Touch.refl _ _,.inl rfl⟩;have h2:s.toList.isEmpty=true:=he;clear he h1 hbag hr hr0 hc hq hval;go_enter Tryd.func79,Tryd.ntmps79;go_wp2_with fail;go_end0;exact Hfin.out
end Go.Proofs.YtkbfhgcjimfgkaaDoor
set_option linter.unusedSimpArgs false
namespace Go.Proofs.YtkbfhgcjimfgkaaDoor
open Go.RowKit
set_option maxRecDepth 100000 in
set_option maxHeartbeats 2000000 in
theorem keep_any (B b:Nat)(v:Value)(n:Int)(r:List Part)(w:World)(hn:0≤n∧n≤1000000000000)(hr:∀q∈r,Mild q)(hl:r.length≤1000000000000)
 (hbag:Bag 160 B b v [] r.reverse w):
 Calls Tryd.prog 77 #[.pointer (some ⟨b,0,none⟩),.int .i64 n] w (AddPost 160 B b v [] (addR r ⟨1,n,noText⟩) w):=by
 by_cases hq:∃q r',r=q::r'∧q.kind=1
 ·obtain⟨q,r',rfl,hk⟩:=hq;have he:AddPost 160 B b v [] (addR (q::r') ⟨1,n,noText⟩) w=AddPost 160 B b v [] (⟨q.kind,q.n+n,q.text⟩::r') w:=by
   by_cases h0:n=0
   ·subst h0;rw[show addR (q::r') ⟨1,0,noText⟩=q::r' from by simp[addR,triv]];congr 2;simp
   ·rw[addR_merge (by simp[triv,h0]) hk];simp only[app_noText]
  rw[he];clear he;obtain⟨a,c,hv⟩:=hbag.form;simp only[List.length_reverse]at hv;obtain⟨g,rfl,hg,hq0,hq1,hq2⟩:=hbag.last (by rw[hv]);have hrow:=(hbag.rowlt g hg);have hown:=hbag.own;rw[hv]at hown;simp only[List.length_reverse,List.length_cons]at hown;have hf1:=hown.frozenAt (r'.length*3+1);have hfin:=fun W (hW:Touch (fun _=>False) w W)=>(merge_fin (q:=q) (p:=⟨q.kind,q.n+n,q.text⟩) rfl hbag hg W hW).1 rfl;have Hlast:=Lib.hid (last_some B b v 1 q r' w (by simp at hl;omega) hk g hg hbag);have Hfin:=Lib.hid hfin;have hmq:=(hr q (List.mem_cons_self ..)).n;have hgl:=hrow.2;clear hfin hown hbag hv hg hrow hr hk;obtain⟨qk,qn,qt⟩:=q;simp only at*;generalize r'.length*3=o at*;go_enter Tryd.func77,Tryd.ntmps77;go_wp2_with fail;refine Hlast.out.mono ?_;rintro e w1 ⟨rfl,rfl⟩;go_wp2_with fail;go_end0;exact Hfin.out _ (Touch.refl _ _)
 ·have hh:∀q,r.head?=some q→q.kind≠1:=by
   intro q hq2 hk;cases r with
   |nil=>cases hq2
   |cons x r=>simp at hq2;subst hq2;exact hq ⟨x,r,rfl,hk⟩
  have Hlast:=Lib.hid (last_none B b v 1 r w hl hh hbag);by_cases h0:n=0
  ·subst h0;have he:addR r ⟨1,0,noText⟩=r:=by cases r<;>simp[addR,triv]
   rw[he];have Hfin:Hid (AddPost 160 B b v [] r w (.returned (.tuple #[])) w):=⟨v,rfl,hbag,Touch.refl _ _,.inl rfl⟩;clear hbag he hr hq hh hn;go_enter Tryd.func77,Tryd.ntmps77;go_wp2_with fail;refine Hlast.out.mono ?_;rintro e w1 ⟨rfl,rfl⟩;go_wp2_with fail;go_end0;exact Hfin.out
  ·obtain⟨i0,hi,hz0,hz1,hz2⟩:=info_parts infoP;rw[addR_ge (by simp[triv,h0]) (fun q hq2=>⟨hh q hq2,by simp⟩)];obtain⟨a,c,hv⟩:=hbag.form;simp only[List.length_reverse]at hv;have hown:=hbag.own;rw[hv]at hown;simp only[List.length_reverse]at hown;have hc0:=hbag.cell 0;have hf0:=hbag.frozen 0;have hlt:=hbag.lt;have hbase:=hbag.base;simp only[List.getElem?_cons_zero]at hc0;rw[hv]at hc0;have hne:=hbag.ne;rw[hv]at hne;have hp:0<n:=by omega
   have Hne:=Lib.hid hne;have Hv:=Lib.hid hv;have Hbag:=Lib.hid hbag;have Hown:=Lib.hid hown;clear hne hv hbag hown hr hq hh h0;go_enter Tryd.func77,Tryd.ntmps77;go_wp2_with fail;refine Hlast.out.mono ?_;rintro e w1 ⟨rfl,rfl⟩;clear Hlast;go_wp2_with (at_builtin;refine wpList_append_lies _ rfl _ _ _ (by rfl) B 53 i0 _ 3 32 Tryd.underlying42 hi hz0 hz1 hz2 rfl (by omega) (.slice a r.length c) r.length (flat r.reverse) (by rfl) (Hown.out.alloc _) ⟨w.heap.size,0,none⟩ 1 1 [.int .i64 1,.int .i64 n,.string ⟨#[]⟩] (by rfl) (by rfl) (news_at (heap_new_at _ _ _ (by simp))) (by simp[Value.oneCell']) (by omega) (by unfold maxLen;omega) (by omega) (by simp;omega) (w.heap.size+1) (by simp) ?_);intro gg cap w1 hown1 hgrow hat hlt1;have hbk1:w1.heap[b]?=w.heap[b]?:=(hgrow.block b (by simp;omega) (Ne.symm Hne.out)).trans (Below.heap_alloc w _ b hlt);have hf1:w1.frozen? ⟨b,0,none⟩=false:=(World.frozen?_of_block (a:=⟨b,0,none⟩) hbk1).trans hf0;have hd1:=(cell_keep (o:=0) hbk1).trans hc0;have Hown1:=Lib.hid hown1;have Hgrow:=Lib.hid hgrow;have Hat:=Lib.hid hat;have Hbk1:=Lib.hid hbk1;clear hown1 hgrow hat hbk1;go_wp2_with fail;go_end0;exact add_fin hbase Hv.out Hbag.out.blk Hbk1.out (by rw[flat_snoc];simpa[partCells,noText]using Hown1.out) ((Touch.refl _ w).alloc _) Hgrow.out (Hat.out.imp_right (fun h=>by omega))
end Go.Proofs.YtkbfhgcjimfgkaaDoor
set_option linter.unusedSimpArgs false
namespace Go.Proofs.YtkbfhgcjimfgkaaDoor
open Go.RowKit
structure Bd (D B b:Nat) (R:List P) (v:Value) (w:World):Prop where
 bag:Bag 160 D b v [] (R.map P.part).reverse w
 can:Can R
 row:∀g,v.ownBlock=some g→B≤g
theorem Bd.go {D B b:Nat}{R:List P}{v:Value}{w w':World}(h:Bd D B b R v w)(hb:Below w.heap.size w w'):Bd D B b R v w':=⟨h.bag.below hb,h.can,h.row⟩
theorem can_mild {R:List P}(h:Can R)(hs:FS R+TS R≤100000):∀q∈R.map P.part,Mild q∧q.text.size≤400000:=by
 intro q hq;obtain⟨p,hp,rfl⟩:=List.mem_map.1 hq;have hok:=h.all p hp;have h1:p.F≤FS R∧p.T≤TS R:=by
  clear hok h hs hq
  induction R with
  |nil=>cases hp
  |cons x R ih=>
   rcases List.mem_cons.1 hp with rfl|hp
   ·simp only[FS,TS];omega
   ·have:=ih hp;simp only[FS,TS];omega
 cases p with
 |k n=>simp only[P.F,P.T]at h1;exact⟨⟨by simp[P.part],by simp only[P.part];omega,by simp only[P.part,noText_size];omega⟩,by simp only[P.part,noText_size];omega⟩
 |d n=>simp only[P.F,P.T]at h1;exact⟨⟨by simp[P.part],by simp only[P.part];omega,by simp only[P.part,noText_size];omega⟩,by simp only[P.part,noText_size];omega⟩
 |i t=>
  simp only[P.F,P.T]at h1;have:=enc_size t hok.2;exact⟨⟨by simp[P.part],by simp only[P.part];omega,by simp only[P.part];omega⟩,by simp only[P.part];omega⟩
theorem can_len {R:List P}(h:Can R)(hs:FS R+TS R≤100000):(R.map P.part).length≤100000:=by
 have:=ok_len R h.all;simp;omega
def AddB (D B b:Nat)(R:List P)(v:Value)(w:World)(e:Ending)(w':World):Prop:=
 ∃v',e=.returned (.tuple #[])∧Bd D B b R v' w'∧Touch (Bag.S b v) w w'∧(v'.ownBlock=v.ownBlock∨∀g,v'.ownBlock=some g→w.heap.size≤g)
theorem addB_of {D B b:Nat}{R:List P}{p:P}{v:Value}{w w':World}{e:Ending}(h:Bd D B b R v w)(hB:B≤w.heap.size)(hp:∀l,p=.i l→∀r∈l,Uni.vr r)(h2:AddPost 160 D b v [] (addR (R.map P.part) p.part) w e w'):AddB D B b (addP R p) v w e w':=by
 obtain⟨v',he,hb,ht,hv⟩:=h2;rw[addR_part p hp R h.can.all]at hb;refine⟨v',he,⟨hb,addP_can p hp R h.can,fun g hg=>?_⟩,ht,hv⟩;rcases hv with hv|hv
 ·exact h.row g (by rw[←hv];exact hg)
 ·have:=hv g hg;omega
theorem bkeep (D B b:Nat)(R:List P)(v:Value)(n:Nat)(w:World)(h:Bd D B b R v w)(hs:FS R+TS R≤100000)(hn:n≤100000)(hB:B≤w.heap.size):
 Calls Tryd.prog 77 #[.pointer (some ⟨b,0,none⟩),.int .i64 (n:Int)] w (AddB D B b (addP R (.k n)) v w):=
 (keep_any D b v (n:Int) (R.map P.part) w (by omega) (fun q hq=>(can_mild h.can hs q hq).1) (by have:=can_len h.can hs;omega) h.bag).mono fun e w' h2=>addB_of (p:=.k n) h hB (fun l hl=>by cases hl) h2
theorem bremove (D B b:Nat)(R:List P)(v:Value)(n:Nat)(w:World)(h:Bd D B b R v w)(hs:FS R+TS R≤100000)(hn:n≤100000)(hB:B≤w.heap.size):
 Calls Tryd.prog 78 #[.pointer (some ⟨b,0,none⟩),.int .i64 (n:Int)] w (AddB D B b (addP R (.d n)) v w):=
 (remove_any D b v (n:Int) (R.map P.part) w (by omega) (fun q hq=>(can_mild h.can hs q hq).1) (by have:=can_len h.can hs;omega) h.bag).mono fun e w' h2=>addB_of (p:=.d n) h hB (fun l hl=>by cases hl) h2
theorem binsert (D B b:Nat)(R:List P)(v:Value)(t:List Nat)(w:World)(h:Bd D B b R v w)(hs:FS R+TS R≤100000)(ht:t.length≤100000)(hv:∀r∈t,Uni.vr r)(hB:B≤w.heap.size):
 Calls Tryd.prog 79 #[.pointer (some ⟨b,0,none⟩),.string (Uni.enc t)] w (AddB D B b (addP R (.i t)) v w):=by
 have hz:=enc_size t hv;exact(insert_any D b v (Uni.enc t) (R.map P.part) w (by omega) (valid_enc t hv) (can_canon h.can) (fun q hq=>by have:=can_mild h.can hs q hq;exact⟨this.1,by omega⟩) (by have:=can_len h.can hs;omega) h.bag).mono fun e w' h2=>addB_of (p:=.i t) h hB (fun l hl=>by injection hl with hl;subst hl;exact hv) h2
end Go.Proofs.YtkbfhgcjimfgkaaDoor
set_option linter.unusedSimpArgs false
namespace Go.Proofs.YtkbfhgcjimfgkaaDoor
open Go.RowKit
def bothE (a b:Op):Int:=if check a≠0 then check a else if check b≠0 then check b else if sumF a≠sumF b then 10 else 0
theorem bothE_zero {a b:Op}:bothE a b=0↔check a=0∧check b=0∧sumF a=sumF b:=by
 unfold bothE;by_cases h1:check a=0
 ·by_cases h2:check b=0
  ·by_cases h3:sumF a=sumF b<;>simp[h1,h2,h3]
  ·simp[h1,h2]
 ·simp[h1]
def fitE (o q:Op):Int:=if check o≠0 then check o else check q
end Go.Proofs.YtkbfhgcjimfgkaaDoor
set_option linter.unusedSimpArgs false
namespace Go.Proofs.YtkbfhgcjimfgkaaDoor
open Go.RowKit
theorem can_fit {R:List P}(h:Can R)(hs:FS R+TS R≤100000)(q:Part)(hq:q∈(R.map P.part).reverse):I64 q.kind∧I64 q.n∧q.text.size≤strMax:=by
 obtain⟨⟨⟨_,_⟩,⟨_,_⟩,_⟩,h4⟩:=can_mild h hs q (by simpa using hq);refine⟨⟨by omega,by omega⟩,⟨by omega,by omega⟩,by unfold strMax;omega⟩
end Go.Proofs.YtkbfhgcjimfgkaaDoor
set_option linter.unusedSimpArgs false
namespace Go.Proofs.YtkbfhgcjimfgkaaDoor
open Go.RowKit
def trX (o q:Op):Op:=opOfP (xf (ZS (opP o)+ZS (opP q)) (opP o) (opP q)).1
def trY (o q:Op):Op:=opOfP (xf (ZS (opP o)+ZS (opP q)) (opP o) (opP q)).2
def trE (o q:Op):Int:=if bothE o q≠0 then bothE o q else fitE (trX o q) (trY o q)
def trA (o q:Op):Op:=if trE o q=0 then trX o q else []
def trB (o q:Op):Op:=if trE o q=0 then trY o q else []
theorem trE_inv {o q:Op}(h:trE o q=0):check o=0∧check q=0∧sumF o=sumF q∧check (trX o q)=0∧check (trY o q)=0∧trA o q=trX o q∧trB o q=trY o q:=by
 have hA:trA o q=trX o q:=if_pos h;have hB:trB o q=trY o q:=if_pos h;unfold trE at h;by_cases hb:bothE o q=0
 ·rw[if_neg (by simpa using hb)]at h;obtain⟨e1,e2,e3⟩:=bothE_zero.1 hb;unfold fitE at h;by_cases h1:check (trX o q)=0
  ·rw[if_neg (by simpa using h1)]at h;exact⟨e1,e2,e3,h1,h,hA,hB⟩
  ·rw[if_pos h1]at h;exact absurd h h1
 ·rw[if_pos hb]at h;exact absurd h hb
theorem trE_laws {o q:Op}(h:trE o q=0):sumF (trX o q)=sumT q∧sumF (trY o q)=sumT o∧sumT (trX o q)=sumT (trY o q)∧0≤sumT (trX o q)∧
 (∀t:List Nat,(t.length:Int)=sumF o→app (app t (opP q)) (opP (trX o q))=app (app t (opP o)) (opP (trY o q))):=by
 obtain⟨h1,h2,h3,c1,c2,-,-⟩:=trE_inv h;have hI1:=opIs h1;have hI2:=opIs h2;have hFF:FS (opP o)=FS (opP q):=by have:=hI1.f;have:=hI2.f;omega
 obtain⟨l1,l2,l3,l4,l5,l6⟩:=xf_laws _ _ _ hI1.ok hI2.ok hFF (Nat.le_refl _);have e1:=hI1.t;have e2:=hI2.t;have e3:=hI1.f;have z1:=(check_zero c1).2.2;have t1:TS (xf (ZS (opP o)+ZS (opP q)) (opP o) (opP q)).1≤4000:=by
  have:=z1;unfold trX at this;rw[opOfP_sumT l1]at this;omega
 have f1:FS (xf (ZS (opP o)+ZS (opP q)) (opP o) (opP q)).1≤4000:=by have:=(check_zero h2).2.2;omega
 have f2:FS (xf (ZS (opP o)+ZS (opP q)) (opP o) (opP q)).2≤4000:=by have:=(check_zero h1).2.2;omega
 unfold trX trY;refine⟨by rw[opOfP_sumF];omega,by rw[opOfP_sumF];omega,by rw[opOfP_sumT l1,opOfP_sumT l2];omega,by rw[opOfP_sumT l1];omega,fun t ht=>?_⟩;rw[opOfP_app l1 f1 t1,opOfP_app l2 f2 (by omega)];exact l6 t (by omega)
end Go.Proofs.YtkbfhgcjimfgkaaDoor
