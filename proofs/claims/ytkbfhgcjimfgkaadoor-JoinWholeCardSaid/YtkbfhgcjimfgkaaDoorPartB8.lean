/- Plain: what node.Begin makes is a node that may be; who is not the root asks its parent. No program in sight. -/
import Derived.Test.YtkbfhgcjimfgkaaDoorPartB3
import Derived.Test.YtkbfhgcjimfgkaaDoorPartB7
import Derived.Test.YtkbfhgcjimfgkaaDoorPartB6
import Derived.Test.YtkbfhgcjimfgkaaDoorPartB5
import Derived.Test.YtkbfhgcjimfgkaaDoorPartA3
import Derived.Test.YtkbfhgcjimfgkaaDoorPartA5
import Derived.Handy
import Derived.Deep.LoopGhost
import Derived.Outline
import Derived.Test.YtkbfhgcjimfgkaaDoorPartA9
import Derived.Test.YtkbfhgcjimfgkaaDoorPartB4
set_option linter.unusedVariables false
set_option linter.unusedSimpArgs false
set_option linter.unusedSimpArgs false
namespace Go.Proofs.YtkbfhgcjimfgkaaDoor
open Go.RowKit
def Tn.note (t:Tn)(o:Op):Tn:={t with recs:=t.recs++[⟨0,o⟩]}
def Tn.recd (t:Tn)(o:Op):Tn:=if t.node.me=0 then t.note o else t
def edE (s:Sd)(o:Op):Sd:={s with e:=⟨s.e.sent+1,s.e.heard,s.e.pending++[o]⟩}
def editFr (h:Int)(o:Op):Fr:=⟨1,h,0,o,noText⟩
def Tn.tell (t:Tn)(o:Op)(i:Nat):Tn:=(t.setSide i (edE (t.side i) o)).send i (editFr (t.side i).e.heard o)
def Tn.fwd1 (t:Tn)(o:Op)(but:Int)(i:Nat):Tn:=if(i:Int)=but∨(t.side i).joined=false then t else t.tell o i
def Tn.fwdK (t:Tn)(o:Op)(but:Int):Nat→Tn
 |0=>t
 |k+1=>(t.fwdK o but k).fwd1 o but k
def Tn.forward (t:Tn)(o:Op)(but:Int):Tn:=(t.recd o).fwdK o but t.node.sides.length
theorem side_set (t:Tn)(s:Nat)(y:Sd)(h:s<t.node.sides.length):(t.setSide s y).side s=y:=by
 show(t.node.sides.set s y).getD s noSd=y
 rw[List.getD_eq_getElem?_getD,List.getElem?_set_self h];rfl
theorem len_send (t:Tn)(s:Nat)(f:Fr):(t.send s f).node.sides.length=t.node.sides.length:=by
 unfold Tn.send;simp only;split
 ·show(t.node.sides.set s _).length=_;simp
 ·rfl
theorem len_fwd1 (t:Tn)(o:Op)(but:Int)(i:Nat):(t.fwd1 o but i).node.sides.length=t.node.sides.length:=by
 unfold Tn.fwd1;split
 ·rfl
 ·unfold Tn.tell;rw[len_send];show(t.node.sides.set i _).length=_;simp
theorem len_fwdK (t:Tn)(o:Op)(but:Int):∀k,(t.fwdK o but k).node.sides.length=t.node.sides.length
 |0=>rfl
 |k+1=>by unfold Tn.fwdK;rw[len_fwd1,len_fwdK t o but k]
theorem len_recd (t:Tn)(o:Op):(t.recd o).node.sides.length=t.node.sides.length:=by unfold Tn.recd;split<;>rfl
end Go.Proofs.YtkbfhgcjimfgkaaDoor
set_option linter.unusedSimpArgs false
namespace Go.Proofs.YtkbfhgcjimfgkaaDoor
open Go.RowKit
theorem side_ne (t:Tn)(s i:Nat)(y:Sd)(h:i≠s):(t.setSide s y).side i=t.side i:=by
 show(t.node.sides.set s y).getD i noSd=t.node.sides.getD i noSd
 rw[List.getD_eq_getElem?_getD,List.getElem?_set_ne (fun e=>h e.symm),←List.getD_eq_getElem?_getD]
theorem send_side_ne (t:Tn)(s i:Nat)(f:Fr)(h:i≠s):(t.send s f).side i=t.side i:=by
 unfold Tn.send;simp only;split
 ·exact side_ne t s i _ h
 ·rfl
theorem fwd1_side_ne (t:Tn)(o:Op)(but:Int)(k i:Nat)(h:i≠k):(t.fwd1 o but k).side i=t.side i:=by
 unfold Tn.fwd1;split
 ·rfl
 ·unfold Tn.tell;rw[send_side_ne _ _ _ _ h,side_ne _ _ _ _ h]
theorem fwdK_side (t:Tn)(o:Op)(but:Int):∀k i,k≤i→(t.fwdK o but k).side i=t.side i
 |0,_,_=>rfl
 |k+1,i,h=>by
  unfold Tn.fwdK;rw[fwd1_side_ne _ _ _ _ _ (by omega),fwdK_side t o but k i (by omega)]
theorem recd_side (t:Tn)(o:Op)(i:Nat):(t.recd o).side i=t.side i:=by
 unfold Tn.recd;split<;>rfl
theorem send_posts (t:Tn)(s:Nat)(f:Fr):(t.send s f).posts.length≤t.posts.length+8:=by
 unfold Tn.send;split
 ·show(t.posts++_).length≤_
  rw[List.length_append,List.length_map];have:=(sendL_fits (t.side s).l f).2;omega
 ·omega
theorem fwd1_posts (t:Tn)(o:Op)(but:Int)(k:Nat):(t.fwd1 o but k).posts.length≤t.posts.length+8:=by
 unfold Tn.fwd1;split
 ·omega
 ·exact send_posts _ _ _
theorem fwdK_posts (t:Tn)(o:Op)(but:Int):∀k,(t.fwdK o but k).posts.length≤t.posts.length+8*k
 |0=>by show t.posts.length≤_;omega
 |k+1=>by
  have h1:=fwd1_posts (t.fwdK o but k) o but k;have h2:=fwdK_posts t o but k
  show((t.fwdK o but k).fwd1 o but k).posts.length≤_
  omega
theorem recd_posts (t:Tn)(o:Op):(t.recd o).posts=t.posts:=by
 unfold Tn.recd;split<;>rfl
end Go.Proofs.YtkbfhgcjimfgkaaDoor
set_option linter.unusedSimpArgs false
namespace Go.Proofs.YtkbfhgcjimfgkaaDoor
open Go.RowKit
theorem lastT_cons {p q:Op}{l:List Op}:lastT (p::q::l)=lastT (q::l):=by unfold lastT;rw[List.getLast?_cons_cons]
theorem chain_snoc:∀(l:List Op)(q:Option Int)(o:Op),chainFrom q l=true→check o=0→(l=[]→∀t,q=some t→sumF o=t)→(∀t,lastT l=some t→sumF o=t)→chainFrom q (l++[o])=true
 |[],q,o,_,ho,h1,_=>by
  cases q with
  |none=>show chainFrom none [o]=true;rw[chain_none ho];rfl
  |some t=>show chainFrom (some t) [o]=true;rw[chain_on ho (h1 rfl t rfl)];rfl
 |p::l,q,o,h,ho,_,h2=>by
  have hp:check p=0:=by
   by_cases h0:check p=0
   ·exact h0
   ·rw[chain_bad h0]at h;cases h
  have hl:chainFrom (some (sumT p)) l=true:=by
   cases q with
   |none=>rw[chain_none hp]at h;exact h
   |some t=>
    have hs:sumF p=t:=by
     by_cases h0:sumF p=t
     ·exact h0
     ·rw[chain_off h0]at h;cases h
    rw[chain_on hp hs]at h;exact h
  have ih:=chain_snoc l (some (sumT p)) o hl ho (fun e t ht=>by
   subst e;injection ht with ht;subst ht;exact h2 _ rfl) (fun t ht=>by
   cases l with
   |nil=>cases ht
   |cons r l=>exact h2 t (by rw[lastT_cons];exact ht))
  show chainFrom q (p::(l++[o]))=true
  cases q with
  |none=>rw[chain_none hp];exact ih
  |some t=>
   have hs:sumF p=t:=by
    by_cases h0:sumF p=t
    ·exact h0
    ·rw[chain_off h0]at h;cases h
   rw[chain_on hp hs];exact ih
theorem edge_mk {s h:Int}{l:List Op}(s0:0≤s)(s1:s≤1048576)(h0:0≤h)(h1:h≤1048576)(hl:(l.length:Int)≤s)(hc:chainFrom none l=true):edgeCheck s h l=0:=by
 have ho:¬edgeOdd s h l:=by unfold edgeOdd;omega
 unfold edgeCheck;rw[if_neg ho,if_pos hc]
end Go.Proofs.YtkbfhgcjimfgkaaDoor
set_option linter.unusedSimpArgs false
namespace Go.Proofs.YtkbfhgcjimfgkaaDoor
open Go.RowKit
def sdTold (s:Sd)(o:Op):Sd:={edE s o with l:=if s.l.sendE (editFr s.e.heard o)=0 then s.l.sendL (editFr s.e.heard o)else s.l}
theorem tell_side (t:Tn)(o:Op)(i:Nat)(h:i<t.node.sides.length):(t.tell o i).side i=sdTold (t.side i) o:=by
 unfold Tn.tell Tn.send;simp only;rw[side_set t i _ h];have hl:(edE (t.side i) o).l=(t.side i).l:=rfl;rw[hl];by_cases hE:(t.side i).l.sendE (editFr (t.side i).e.heard o)=0
 ·rw[if_pos hE]
  show((t.setSide i (edE (t.side i) o)).setSide i _).side i=_
  rw[side_set _ i _ (by show i<(t.node.sides.set i _).length;rw[List.length_set];exact h)];unfold sdTold;rw[if_pos hE]
 ·rw[if_neg hE,side_set t i _ h];unfold sdTold;rw[if_neg hE];rfl
theorem send_node (t:Tn)(s:Nat)(f:Fr):(t.send s f).node={t.node with sides:=(t.send s f).node.sides}:=by
 unfold Tn.send;split<;>rfl
theorem tell_node (t:Tn)(o:Op)(i:Nat):(t.tell o i).node={t.node with sides:=(t.tell o i).node.sides}:=by
 unfold Tn.tell;rw[send_node];rfl
theorem fwd1_node (t:Tn)(o:Op)(but:Int)(i:Nat):(t.fwd1 o but i).node={t.node with sides:=(t.fwd1 o but i).node.sides}:=by
 unfold Tn.fwd1;split
 ·rfl
 ·rw[tell_node]
theorem fwdK_node (t:Tn)(o:Op)(but:Int):∀k,(t.fwdK o but k).node={t.node with sides:=(t.fwdK o but k).node.sides}
 |0=>rfl
 |k+1=>by
  have h:=fwdK_node t o but k
  show((t.fwdK o but k).fwd1 o but k).node=_
  rw[fwd1_node,h];rfl
theorem recd_node (t:Tn)(o:Op):(t.recd o).node=t.node:=by
 unfold Tn.recd;split<;>rfl
theorem fwdK_at (t:Tn)(o:Op)(but:Int):∀k,k≤t.node.sides.length→∀i,i<k→(t.fwdK o but k).side i=if(i:Int)=but∨(t.side i).joined=false then t.side i else sdTold (t.side i) o
 |0,_,i,h=>by omega
 |k+1,hk,i,h=>by
  show((t.fwdK o but k).fwd1 o but k).side i=_
  by_cases e:i=k
  ·subst e;have h1:=fwdK_side t o but i i (Nat.le_refl _);unfold Tn.fwd1;rw[h1];split
   ·rename_i hc;exact h1
   ·rename_i hc;rw[tell_side _ _ _ (by rw[len_fwdK];omega),h1]
  ·rw[fwd1_side_ne _ _ _ _ _ e];exact fwdK_at t o but k (by omega) i (by omega)
theorem forward_at (t:Tn)(o:Op)(but:Int)(i:Nat)(h:i<t.node.sides.length):(t.forward o but).side i=if(i:Int)=but∨(t.side i).joined=false then t.side i else sdTold (t.side i) o:=by
 unfold Tn.forward;rw[fwdK_at _ _ _ _ (by rw[len_recd];exact Nat.le_refl _) i h];rw[recd_side]
theorem forward_node (t:Tn)(o:Op)(but:Int):(t.forward o but).node={t.node with sides:=(t.forward o but).node.sides}:=by
 unfold Tn.forward;rw[fwdK_node,recd_node]
theorem forward_len (t:Tn)(o:Op)(but:Int):(t.forward o but).node.sides.length=t.node.sides.length:=by
 unfold Tn.forward;rw[len_fwdK,len_recd]
def SdB (b:Int)(s:Sd):Prop:=s.e.sent≤b∧s.e.heard≤b∧s.l.next+s.l.queue.length≤b∧s.l.heard≤b
def NdB (b:Int)(n:Nd):Prop:=∀s∈n.sides,SdB b s
theorem SdB.up {b c:Int}{s:Sd}(h:SdB b s)(hc:b≤c):SdB c s:=⟨by have:=h.1;omega,by have:=h.2.1;omega,by have:=h.2.2.1;omega,by have:=h.2.2.2;omega⟩
theorem sideOk_all {n:Nd}{s:Sd}(h:sideOk n s=true):edgeCheck s.e.sent s.e.heard s.e.pending=0∧s.l.check=0∧(s.joined=false→s.e.sent+s.e.heard=0)∧(s.joined=true→sideLast n s=true∧n.ready=true∧0<s.l.epoch):=by
 unfold sideOk at h;by_cases h1:edgeCheck s.e.sent s.e.heard s.e.pending=0
 ·rw[if_neg (by simpa using h1)]at h;by_cases h2:s.l.check=0
  ·rw[if_neg (by simpa using h2)]at h;cases hj:s.joined with
   |false=>
    rw[if_pos hj]at h;exact⟨h1,h2,fun _=>by simpa using h,fun h=>by cases h⟩
   |true=>
    rw[if_neg (by simp[hj])]at h;by_cases h3:sideLast n s=true
    ·rw[if_neg (by simp[h3])]at h;simp only[Bool.and_eq_true,decide_eq_true_eq]at h;exact⟨h1,h2,(fun h=>by cases h),fun _=>⟨h3,h.1,h.2⟩⟩
    ·rw[if_pos (by simpa using h3)]at h;cases h
  ·rw[if_pos h2]at h;cases h
 ·rw[if_pos h1]at h;cases h
theorem sideOk_mk {n:Nd}{s:Sd}(h1:edgeCheck s.e.sent s.e.heard s.e.pending=0)(h2:s.l.check=0)(h3:s.joined=false→s.e.sent+s.e.heard=0)(h4:s.joined=true→sideLast n s=true∧n.ready=true∧0<s.l.epoch):sideOk n s=true:=by
 unfold sideOk;rw[if_neg (by simpa using h1),if_neg (by simpa using h2)];cases hj:s.joined with
 |false=>rw[if_pos rfl];simpa using h3 hj
 |true=>
  obtain⟨k1,k2,k3⟩:=h4 hj;rw[if_neg (by simp),if_neg (by simp[k1]),k2];simpa using k3
theorem sideLast_eq {n:Nd}{s:Sd}(h:sideLast n s=true):∀t,lastT s.e.pending=some t→rc n.text=t:=by
 intro t ht;unfold sideLast at h;rw[ht]at h;simp only[beq_iff_eq]at h;exact h.symm
theorem sideLast_mk {n:Nd}{s:Sd}(h:∀t,lastT s.e.pending=some t→rc n.text=t):sideLast n s=true:=by
 unfold sideLast;cases hl:lastT s.e.pending with
 |none=>rfl
 |some t=>simp only[beq_iff_eq];exact(h t hl).symm
theorem lastT_snoc (l:List Op)(o:Op):lastT (l++[o])=some (sumT o):=by unfold lastT;simp
theorem send_link {l:Lk}{f:Fr}{b:Int}(h1:l.check=0)(h2:l.next+l.queue.length≤b)(h3:b<1000000):(if l.sendE f=0 then l.sendL f else l).check=0∧(if l.sendE f=0 then l.sendL f else l).epoch=l.epoch∧(if l.sendE f=0 then l.sendL f else l).heard=l.heard∧
 (if l.sendE f=0 then l.sendL f else l).next+(if l.sendE f=0 then l.sendL f else l).queue.length≤b+1:=by
 by_cases hE:l.sendE f=0
 ·rw[if_pos hE];have hF:=push_all h1 f;have hs:l.sendL f=l.push f:=by unfold Lk.sendL;rw[if_pos hE]
  refine⟨sendL_check hE (by omega),by rw[hs];exact hF.ep,by rw[hs];exact hF.he,?_⟩;rw[hs];have h4:=congrArg List.length hF.all;have h5:=hF.nx;have h6:=hF.more;simp only[List.length_append,List.length_singleton]at h4 h5 h6;omega
 ·rw[if_neg hE];exact⟨h1,rfl,rfl,by omega⟩
theorem told_ok {n n':Nd}{s:Sd}{o:Op}{b:Int}(h:sideOk n s=true)(hj:s.joined=true)(ho:check o=0)(hF:sumF o=rc n.text)(hT:rc n'.text=sumT o)(hr:n'.ready=true)(hb:SdB b s)(hb1:b<1000000):sideOk n' (sdTold s o)=true∧SdB (b+1) (sdTold s o):=by
 obtain⟨k1,k2,-,k4⟩:=sideOk_all h;obtain⟨k5,k6,k7⟩:=k4 hj;obtain⟨b1,b2,b3,b4⟩:=hb;obtain⟨e1,e2,e3,e4,e5,e6⟩:=edgeCheck_zero k1;obtain⟨l1,l2,l3,l4⟩:=send_link (f:=editFr s.e.heard o) k2 b3 hb1;have h6:=sideLast_eq k5;refine⟨sideOk_mk ?_ l1 (fun h=>by have h':s.joined=false:=h;rw[hj]at h';cases h') (fun _=>⟨sideLast_mk fun t ht=>?_,hr,by rw[show(sdTold s o).l.epoch=s.l.epoch from l2];exact k7⟩),?_⟩
 ·show edgeCheck (s.e.sent+1) s.e.heard (s.e.pending++[o])=0
  refine edge_mk (by omega) (by omega) e3 e4 (by simp;omega) (chain_snoc _ _ _ e6 ho (fun _ t ht=>by cases ht) (fun t ht=>by have:=h6 t ht;omega))
 ·have ht':lastT (s.e.pending++[o])=some t:=ht;rw[lastT_snoc]at ht';injection ht' with ht';omega
 ·exact⟨by show s.e.sent+1≤b+1;omega,by show s.e.heard≤b+1;omega,l4,by rw[show(sdTold s o).l.heard=s.l.heard from l3];omega⟩
theorem idle_ok {n n':Nd}{s:Sd}(h:sideOk n s=true)(hj:s.joined=false):sideOk n' s=true:=by
 obtain⟨k1,k2,k3,-⟩:=sideOk_all h;exact sideOk_mk k1 k2 k3 (fun h=>by rw[hj]at h;cases h)
end Go.Proofs.YtkbfhgcjimfgkaaDoor
namespace Go.Proofs.YtkbfhgcjimfgkaaDoor
def pass:List P→Nat→List P
 |[],_=>[]
 |p::r,n=>if n=p.z then r else p.cut n::r
def build (l:List P):List P:=l.foldl addP []
def AllOk (l:List P):Prop:=∀p∈l,p.ok
def P.Ins:P→Bool
 |.i _=>true
 |_=>false
theorem allOk_cons {p:P}{l:List P}:AllOk (p::l)↔p.ok∧AllOk l:=by simp[AllOk]
theorem allOk_app {a b:List P}:AllOk (a++b)↔AllOk a∧AllOk b:=by simp[AllOk,or_imp,forall_and]
theorem P.ok_z {p:P}(h:p.ok):1≤p.z:=by
 cases p with
 |k n=>exact h
 |i l=>have:=List.length_pos_iff.2 h.1;exact this
 |d n=>exact h
theorem ZS_pos {p:P}{l:List P}(h:p.ok):1≤ZS (p::l):=by have:=P.ok_z h;simp only[ZS];omega
theorem pass_ok {p:P}{l:List P}{n:Nat}(h:AllOk (p::l))(hn:n≤p.z):AllOk (pass (p::l) n):=by
 rw[allOk_cons]at h;simp only[pass];split
 ·exact h.2
 ·rw[allOk_cons];refine⟨?_,h.2⟩;cases p with
  |k m=>simp only[P.z,P.cut,P.ok]at*;omega
  |d m=>simp only[P.z,P.cut,P.ok]at*;omega
  |i t=>
   simp only[P.z,P.cut,P.ok]at*;refine⟨fun h0=>?_,fun r hr=>h.1.2 r (List.mem_of_mem_drop hr)⟩;have:=congrArg List.length h0;simp at this;omega
theorem P.cut_z (p:P)(n:Nat):(p.cut n).z=p.z-n:=by cases p<;>simp[P.cut,P.z]
theorem pass_Z {p:P}{l:List P}{n:Nat}(hn:n≤p.z):ZS (pass (p::l) n)+n=ZS (p::l):=by
 simp only[pass];split
 ·simp only[ZS];omega
 ·simp only[ZS,P.cut_z];omega
theorem P.F_noins {p:P}(h:p.Ins=false):p.F=p.z:=by cases p<;>simp_all[P.F,P.z,P.Ins]
theorem pass_F {p:P}{l:List P}{n:Nat}(hp:p.Ins=false)(hn:n≤p.z):FS (pass (p::l) n)+n=FS (p::l):=by
 simp only[pass];split
 ·simp only[FS,P.F_noins hp];omega
 ·cases p with
  |k m=>simp only[FS,P.cut,P.F,P.z]at*;omega
  |d m=>simp only[FS,P.cut,P.F,P.z]at*;omega
  |i t=>cases hp
theorem pass_eq {p:P}{l:List P}{n:Nat}(h:n=p.z):pass (p::l) n=l:=by simp only[pass,if_pos h]
theorem pass_ne {p:P}{l:List P}{n:Nat}(h:n≠p.z):pass (p::l) n=p.cut n::l:=by simp only[pass,if_neg h]
theorem pass_k {m n:Nat}{l:List P}(h:n≤m)(t:List Nat):app t (.k m::l)=t.take n++app (t.drop n) (pass (.k m::l) n):=by
 by_cases hz:n=m
 ·rw[pass_eq (p:=.k m) hz];subst hz;rfl
 ·rw[pass_ne (p:=.k m) hz];simp only[P.cut,app,List.drop_drop,←List.append_assoc];rw[show t.take m=t.take n++(t.drop n).take (m-n)from by rw[←List.take_add];congr 1;omega,show n+(m-n)=m from by omega]
theorem pass_d {m n:Nat}{l:List P}(h:n≤m)(t:List Nat):app t (.d m::l)=app (t.drop n) (pass (.d m::l) n):=by
 by_cases hz:n=m
 ·rw[pass_eq (p:=.d m) hz];subst hz;rfl
 ·rw[pass_ne (p:=.d m) hz];simp only[P.cut,app,List.drop_drop];rw[show n+(m-n)=m from by omega]
theorem pass_Tk {m n:Nat}{l:List P}(h:n≤m):TS (pass (.k m::l) n)+n=TS (.k m::l):=by
 by_cases hz:n=m
 ·rw[pass_eq (p:=.k m) hz];simp only[TS,P.T];omega
 ·rw[pass_ne (p:=.k m) hz];simp only[TS,P.cut,P.T];omega
theorem pass_Td {m n:Nat}{l:List P}:TS (pass (.d m::l) n)=TS (.d m::l):=by
 by_cases hz:n=m
 ·rw[pass_eq (p:=.d m) hz];simp only[TS,P.T];omega
 ·rw[pass_ne (p:=.d m) hz];simp only[TS,P.cut,P.T]
theorem foldl_can (l:List P):∀r:List P,Can r→(∀p∈l,∀t,p=.i t→∀r∈t,Uni.vr r)→Can (l.foldl addP r):=by
 induction l with
 |nil=>intro r h _;exact h
 |cons p l ih=>intro r h hl;exact ih _ (addP_can p (fun t ht=>hl p (List.mem_cons_self ..) t ht) r h) (fun q hq=>hl q (List.mem_cons_of_mem _ hq))
theorem ok_vr {p:P}(h:p.ok):∀t,p=.i t→∀r∈t,Uni.vr r:=by rintro t rfl;exact h.2
theorem build_can {l:List P}(h:AllOk l):Can (build l):=foldl_can l [] trivial (fun p hp=>ok_vr (h p hp))
theorem foldl_FS (l:List P):∀r:List P,FS (l.foldl addP r)=FS r+FS l:=by
 induction l with
 |nil=>intro r;simp[FS]
 |cons p l ih=>intro r;simp only[List.foldl_cons,ih,FS_addP,FS];omega
theorem foldl_TS (l:List P):∀r:List P,TS (l.foldl addP r)=TS r+TS l:=by
 induction l with
 |nil=>intro r;simp[TS]
 |cons p l ih=>intro r;simp only[List.foldl_cons,ih,TS_addP,TS];omega
theorem build_FS (l:List P):FS (build l)=FS l:=by simp[build,foldl_FS,FS]
theorem build_TS (l:List P):TS (build l)=TS l:=by simp[build,foldl_TS,TS]
theorem foldl_app (l:List P):∀(r:List P)(t:List Nat),app t (l.foldl addP r).reverse=app t (r.reverse++l):=by
 induction l with
 |nil=>intro r t;simp
 |cons p l ih=>
  intro r t;rw[List.foldl_cons,ih,app_app,app_addP,FS_rev,FS_addP,List.reverse_cons,app_app,FS_rev,app_app,FS_rev];cases p<;>simp[app,P.F,List.append_assoc]
theorem build_app (l:List P)(t:List Nat):app t (build l).reverse=app t l:=by simp[build,foldl_app]
def opOfP (l:List P):Op:=(build l).reverse.map P.part
theorem opOfP_is {l:List P}(h:AllOk l)(hf:FS l≤4000)(ht:TS l≤4000):OpIs (opOfP l) (build l).reverse:=
 opIs_of (build_can h) (by rw[build_FS];exact hf) (by rw[build_TS];exact ht)
theorem opOfP_sumF {l:List P}:sumF (opOfP l)=FS l:=by unfold opOfP;rw[sumF_parts,FS_rev,build_FS]
theorem opOfP_sumT {l:List P}(h:AllOk l):sumT (opOfP l)=TS l:=by
 unfold opOfP;rw[sumT_parts _ (fun p hp=>(build_can h).all p (by simpa using hp)),TS_rev,build_TS]
theorem opOfP_opP {l:List P}(h:AllOk l)(hf:FS l≤4000)(ht:TS l≤4000):opP (opOfP l)=(build l).reverse:=(opOfP_is h hf ht).opP
theorem opOfP_app {l:List P}(h:AllOk l)(hf:FS l≤4000)(ht:TS l≤4000)(t:List Nat):app t (opP (opOfP l))=app t l:=by rw[opOfP_opP h hf ht,build_app]
def xe1:P→P→Nat→List P
 |.k _,.k _,n=>[.k n]
 |.d _,.k _,n=>[.d n]
 |_,_,_=>[]
def xe2:P→P→Nat→List P
 |.k _,.k _,n=>[.k n]
 |.k _,.d _,n=>[.d n]
 |_,_,_=>[]
def xf:Nat→List P→List P→List P×List P
 |0,_,_=>([],[])
 |f+1,.i t::a,b=>(.i t::(xf f a b).1,.k t.length::(xf f a b).2)
 |f+1,a,.i t::b=>(.k t.length::(xf f a b).1,.i t::(xf f a b).2)
 |f+1,x::a,y::b=>
  (xe1 x y (min x.z y.z)++(xf f (pass (x::a) (min x.z y.z)) (pass (y::b) (min x.z y.z))).1,
   xe2 x y (min x.z y.z)++(xf f (pass (x::a) (min x.z y.z)) (pass (y::b) (min x.z y.z))).2)
 |_+1,_,_=>([],[])
theorem xf_i1 (f:Nat)(t:List Nat)(a b:List P):xf (f+1) (.i t::a) b=(.i t::(xf f a b).1,.k t.length::(xf f a b).2):=by
 simp only[xf]
theorem xf_i2 (f:Nat)(t:List Nat)(a b:List P)(h:∀u r,a≠.i u::r):xf (f+1) a (.i t::b)=(.k t.length::(xf f a b).1,.i t::(xf f a b).2):=by
 cases a with
 |nil=>simp only[xf]
 |cons x a=>cases x<;>first|exact absurd rfl (h _ _)|simp only[xf]
theorem xf_2 (f:Nat)(x y:P)(a b:List P)(hx:x.Ins=false)(hy:y.Ins=false):xf (f+1) (x::a) (y::b)=
 (xe1 x y (min x.z y.z)++(xf f (pass (x::a) (min x.z y.z)) (pass (y::b) (min x.z y.z))).1,
  xe2 x y (min x.z y.z)++(xf f (pass (x::a) (min x.z y.z)) (pass (y::b) (min x.z y.z))).2):=by
 cases x<;>cases y<;>first|(simp only[xf];done)|(cases hx;done)|(cases hy;done)
theorem FS_zero {l:List P}(h:AllOk l)(hf:FS l=0):l=[]∨∃t r,l=.i t::r:=by
 cases l with
 |nil=>exact .inl rfl
 |cons p l=>
  refine .inr ?_;rw[allOk_cons]at h;cases p with
  |k n=>simp only[FS,P.F]at hf;have:=h.1;simp only[P.ok]at this;omega
  |d n=>simp only[FS,P.F]at hf;have:=h.1;simp only[P.ok]at this;omega
  |i t=>exact⟨t,l,rfl⟩
theorem two_ways {a b:List P}(ha:AllOk a)(hb:AllOk b)(h:FS a=FS b):
 (a=[]∧b=[])∨(∃t r,a=.i t::r)∨(∃t r,b=.i t::r∧∀u s,a≠.i u::s)∨(∃x r y s,a=x::r∧b=y::s∧x.Ins=false∧y.Ins=false):=by
 cases a with
 |nil=>
  rcases FS_zero hb (by simpa[FS]using h.symm)with rfl|⟨t,r,rfl⟩
  ·exact .inl ⟨rfl,rfl⟩
  ·exact .inr (.inr (.inl ⟨t,r,rfl,by simp⟩))
 |cons x a=>
  cases hx:x.Ins with
  |true=>
   cases x with
   |i t=>exact .inr (.inl ⟨t,a,rfl⟩)
   |k n=>cases hx
   |d n=>cases hx
  |false=>
   have hne:∀u s,x::a≠.i u::s:=by
    intro u s he;simp only[List.cons.injEq]at he;rw[he.1]at hx;cases hx
   cases b with
   |nil=>
    rcases FS_zero ha (by simpa[FS]using h)with h|⟨t,r,h⟩
    ·cases h
    ·exact absurd h (hne t r)
   |cons y b=>
    cases hy:y.Ins with
    |true=>
     cases y with
     |i t=>exact .inr (.inr (.inl ⟨t,b,rfl,hne⟩))
     |k n=>cases hy
     |d n=>cases hy
    |false=>exact .inr (.inr (.inr ⟨x,a,y,b,rfl,rfl,hx,hy⟩))
theorem xe_ok {x y:P}{n:Nat}(h:1≤n):AllOk (xe1 x y n)∧AllOk (xe2 x y n):=by
 cases x<;>cases y<;>simp[xe1,xe2,AllOk,P.ok]<;>omega
theorem xf_laws (f:Nat):∀a b:List P,AllOk a→AllOk b→FS a=FS b→ZS a+ZS b≤f→
 AllOk (xf f a b).1∧AllOk (xf f a b).2∧FS (xf f a b).1=TS b∧FS (xf f a b).2=TS a∧TS (xf f a b).1=TS (xf f a b).2∧
 (∀t:List Nat,t.length=FS a→app (app t b) (xf f a b).1=app (app t a) (xf f a b).2):=by
 induction f with
 |zero=>
  intro a b ha hb h hz;have h1:a=[]:=by
   cases a with
   |nil=>rfl
   |cons p a=>have:=ZS_pos (l:=a) ((allOk_cons.1 ha).1);omega
  have h2:b=[]:=by
   cases b with
   |nil=>rfl
   |cons p b=>have:=ZS_pos (l:=b) ((allOk_cons.1 hb).1);omega
  subst h1 h2;simp[xf,AllOk,FS,TS,app]
 |succ f ih=>
  intro a b ha hb h hz;rcases two_ways ha hb h with⟨rfl,rfl⟩|⟨t,r,rfl⟩|⟨t,r,rfl,hne⟩|⟨x,r,y,s,rfl,rfl,hx,hy⟩
  ·simp[xf,AllOk,FS,TS,app]
  ·obtain⟨h1,h2⟩:=allOk_cons.1 ha;have hp:=P.ok_z h1;simp only[ZS,P.z]at hz hp;obtain⟨i1,i2,i3,i4,i5,i6⟩:=ih r b h2 hb (by simpa[FS,P.F]using h) (by omega);rw[xf_i1];refine⟨allOk_cons.2 ⟨h1,i1⟩,allOk_cons.2 ⟨hp,i2⟩,?_,?_,?_,fun u hu=>?_⟩
   ·simp only[FS,P.F];omega
   ·simp only[FS,P.F,TS,P.T];omega
   ·simp only[TS,P.T];omega
   ·simp only[app];rw[List.take_left,List.drop_left,i6 u (by simpa[FS,P.F]using hu)]
  ·obtain⟨h1,h2⟩:=allOk_cons.1 hb;have hp:=P.ok_z h1;simp only[ZS,P.z]at hz hp;obtain⟨i1,i2,i3,i4,i5,i6⟩:=ih a r ha h2 (by simpa[FS,P.F]using h) (by omega);rw[xf_i2 _ _ _ _ hne];refine⟨allOk_cons.2 ⟨hp,i1⟩,allOk_cons.2 ⟨h1,i2⟩,?_,?_,?_,fun u hu=>?_⟩
   ·simp only[FS,P.F,TS,P.T];omega
   ·simp only[FS,P.F];omega
   ·simp only[TS,P.T];omega
   ·simp only[app];rw[List.take_left,List.drop_left,i6 u hu]
  ·obtain⟨ox,hr⟩:=allOk_cons.1 ha;obtain⟨oy,hs⟩:=allOk_cons.1 hb;have zx:=P.ok_z ox;have zy:=P.ok_z oy;have hn:1≤min x.z y.z:=by omega
   have hnx:min x.z y.z≤x.z:=Nat.min_le_left _ _;have hny:min x.z y.z≤y.z:=Nat.min_le_right _ _;rw[xf_2 _ _ _ _ _ hx hy];generalize min x.z y.z=n at*;have za:=pass_Z (l:=r) hnx;have zb:=pass_Z (l:=s) hny;have fa:=pass_F (l:=r) hx hnx;have fb:=pass_F (l:=s) hy hny;obtain⟨i1,i2,i3,i4,i5,i6⟩:=ih _ _ (pass_ok ha hnx) (pass_ok hb hny) (by omega) (by omega);have ho:=xe_ok (x:=x) (y:=y) hn;refine⟨allOk_app.2 ⟨ho.1,i1⟩,allOk_app.2 ⟨ho.2,i2⟩,?_⟩;cases x with
   |i t=>cases hx
   |k m=>
    cases y with
    |i t=>cases hy
    |k m'=>
     simp only[P.z]at hnx hny;have ta:=pass_Tk (l:=r) hnx;have tb:=pass_Tk (l:=s) hny;simp only[xe1,xe2,List.cons_append,List.nil_append,FS,TS,P.F,P.T]at*;refine⟨by omega,by omega,by omega,fun u hu=>?_⟩;rw[pass_k hnx u,pass_k hny u];have hl:(u.take n).length=n:=by rw[List.length_take];omega
     simp only[app];rw[List.take_left' hl,List.drop_left' hl,List.take_left' hl,List.drop_left' hl,i6 (u.drop n) (by rw[List.length_drop];omega)]
    |d m'=>
     simp only[P.z]at hnx hny;have ta:=pass_Tk (l:=r) hnx;have tb:=pass_Td (m:=m') (n:=n) (l:=s);simp only[xe1,xe2,List.cons_append,List.nil_append,FS,TS,P.F,P.T]at*;refine⟨by omega,by omega,by omega,fun u hu=>?_⟩;rw[pass_k hnx u,pass_d hny u];have hl:(u.take n).length=n:=by rw[List.length_take];omega
     simp only[app];rw[List.drop_left' hl,i6 (u.drop n) (by rw[List.length_drop];omega)]
   |d m=>
    cases y with
    |i t=>cases hy
    |k m'=>
     simp only[P.z]at hnx hny;have ta:=pass_Td (m:=m) (n:=n) (l:=r);have tb:=pass_Tk (l:=s) hny;simp only[xe1,xe2,List.cons_append,List.nil_append,FS,TS,P.F,P.T]at*;refine⟨by omega,by omega,by omega,fun u hu=>?_⟩;rw[pass_d hnx u,pass_k hny u];have hl:(u.take n).length=n:=by rw[List.length_take];omega
     simp only[app];rw[List.drop_left' hl,i6 (u.drop n) (by rw[List.length_drop];omega)]
    |d m'=>
     simp only[P.z]at hnx hny;have ta:=pass_Td (m:=m) (n:=n) (l:=r);have tb:=pass_Td (m:=m') (n:=n) (l:=s);simp only[xe1,xe2,List.nil_append,FS,TS,P.F,P.T]at*;refine⟨by omega,by omega,by omega,fun u hu=>?_⟩;rw[pass_d hnx u,pass_d hny u,i6 (u.drop n) (by rw[List.length_drop];omega)]
end Go.Proofs.YtkbfhgcjimfgkaaDoor
set_option linter.unusedSimpArgs false
namespace Go.Proofs.YtkbfhgcjimfgkaaDoor
open Go.RowKit
def bothE (a b:Op):Int:=if check a≠0 then check a else if check b≠0 then check b else if sumF a≠sumF b then 10 else 0
theorem bothE_zero {a b:Op}:bothE a b=0↔check a=0∧check b=0∧sumF a=sumF b:=by
 unfold bothE;by_cases h1:check a=0
 ·by_cases h2:check b=0
  ·by_cases h3:sumF a=sumF b<;>simp[h1,h2,h3]
  ·simp[h1,h2]
 ·simp[h1]
def fitE (o q:Op):Int:=if check o≠0 then check o else check q
end Go.Proofs.YtkbfhgcjimfgkaaDoor
set_option linter.unusedSimpArgs false
namespace Go.Proofs.YtkbfhgcjimfgkaaDoor
open Go.RowKit
def trX (o q:Op):Op:=opOfP (xf (ZS (opP o)+ZS (opP q)) (opP o) (opP q)).1
def trY (o q:Op):Op:=opOfP (xf (ZS (opP o)+ZS (opP q)) (opP o) (opP q)).2
def trE (o q:Op):Int:=if bothE o q≠0 then bothE o q else fitE (trX o q) (trY o q)
def trA (o q:Op):Op:=if trE o q=0 then trX o q else []
def trB (o q:Op):Op:=if trE o q=0 then trY o q else []
theorem trE_inv {o q:Op}(h:trE o q=0):check o=0∧check q=0∧sumF o=sumF q∧check (trX o q)=0∧check (trY o q)=0∧trA o q=trX o q∧trB o q=trY o q:=by
 have hA:trA o q=trX o q:=if_pos h;have hB:trB o q=trY o q:=if_pos h;unfold trE at h;by_cases hb:bothE o q=0
 ·rw[if_neg (by simpa using hb)]at h;obtain⟨e1,e2,e3⟩:=bothE_zero.1 hb;unfold fitE at h;by_cases h1:check (trX o q)=0
  ·rw[if_neg (by simpa using h1)]at h;exact⟨e1,e2,e3,h1,h,hA,hB⟩
  ·rw[if_pos h1]at h;exact absurd h h1
 ·rw[if_pos hb]at h;exact absurd h hb
theorem trE_laws {o q:Op}(h:trE o q=0):sumF (trX o q)=sumT q∧sumF (trY o q)=sumT o∧sumT (trX o q)=sumT (trY o q)∧0≤sumT (trX o q)∧
 (∀t:List Nat,(t.length:Int)=sumF o→app (app t (opP q)) (opP (trX o q))=app (app t (opP o)) (opP (trY o q))):=by
 obtain⟨h1,h2,h3,c1,c2,-,-⟩:=trE_inv h;have hI1:=opIs h1;have hI2:=opIs h2;have hFF:FS (opP o)=FS (opP q):=by have:=hI1.f;have:=hI2.f;omega
 obtain⟨l1,l2,l3,l4,l5,l6⟩:=xf_laws _ _ _ hI1.ok hI2.ok hFF (Nat.le_refl _);have e1:=hI1.t;have e2:=hI2.t;have e3:=hI1.f;have z1:=(check_zero c1).2.2;have t1:TS (xf (ZS (opP o)+ZS (opP q)) (opP o) (opP q)).1≤4000:=by
  have:=z1;unfold trX at this;rw[opOfP_sumT l1]at this;omega
 have f1:FS (xf (ZS (opP o)+ZS (opP q)) (opP o) (opP q)).1≤4000:=by have:=(check_zero h2).2.2;omega
 have f2:FS (xf (ZS (opP o)+ZS (opP q)) (opP o) (opP q)).2≤4000:=by have:=(check_zero h1).2.2;omega
 unfold trX trY;refine⟨by rw[opOfP_sumF];omega,by rw[opOfP_sumF];omega,by rw[opOfP_sumT l1,opOfP_sumT l2];omega,by rw[opOfP_sumT l1];omega,fun t ht=>?_⟩;rw[opOfP_app l1 f1 t1,opOfP_app l2 f2 (by omega)];exact l6 t (by omega)
end Go.Proofs.YtkbfhgcjimfgkaaDoor
set_option linter.unusedSimpArgs false
namespace Go.Proofs.YtkbfhgcjimfgkaaDoor
open Go.RowKit
def Tn.setText (t:Tn)(s:Str):Tn:={t with node:={t.node with text:=s}}
end Go.Proofs.YtkbfhgcjimfgkaaDoor
set_option linter.unusedSimpArgs false
namespace Go.Proofs.YtkbfhgcjimfgkaaDoor
open Go.RowKit
def Tn.setUndo (t:Tn)(l:List Op):Tn:={t with node:={t.node with undo:=l}}
theorem WkG.setUndo {base g:Nat}{t:Tn}{vs:Nat→Value}{w w':World}{v':Value}{l:List Op}(h:WkM base g t vs w)(hg:w.grownBy w' (vs 1).ownBlock)(hv:∀k,v'.ownBlock=some k→(vs 1).ownBlock=some k∨w.heap.size≤k)(hn:OwnO (WX base g vs) base v' l w'):
 WkM base g (t.setUndo l) (fun q=>if q=1 then v' else vs q) (w'.setCell ⟨g,6,none⟩ v')∧Touch (Mine g vs) w (w'.setCell ⟨g,6,none⟩ v')∧∀z,Mine g (fun q=>if q=1 then v' else vs q) z→Mine g vs z∨w.heap.size≤z:=by
 have h1:WkG base g (t.setUndo l) vs (fun q=>if q=1 then v' else vs q) w':=h.grow (t':=t.setUndo l) (j:=1) (by omega) hg hv hn (fun i hi X v W h=>by
  match i,hi with
  |1,hi=>exact absurd rfl hi
  |0,_=>exact h
  |2,_=>exact h
  |3,_=>exact h
  |4,_=>exact h
  |i+5,_=>trivial) rfl h.fit
 have ht:=touch1 (w:=w') (g:=g) (i:=6) v';refine⟨h1.put ht (h1.box.set 6 v') (fun i X v W h=>h) h.fit,?_,?_⟩
 ·have hg':Touch (Mine g vs) w w':=⟨hg.os,hg.tape,hg.output,hg.size,fun k hk hs=>hg.block k hk fun e=>hs (.inr ⟨1,by omega,e.symm⟩)⟩;exact hg'.trans (ht.mono fun k _ hk=>.inl hk)
 ·rintro z (hz|⟨q,hq,hz⟩)
  ·exact .inl (.inl hz)
  ·by_cases e:q=1
   ·subst e;simp only[if_true]at hz;exact(hv z hz).imp_left fun h=>.inr ⟨1,by omega,h⟩
   ·simp only[if_neg e]at hz;exact .inl (.inr ⟨q,hq,hz⟩)
end Go.Proofs.YtkbfhgcjimfgkaaDoor
set_option linter.unusedSimpArgs false
namespace Go.Proofs.YtkbfhgcjimfgkaaDoor
open Go.RowKit
theorem undoFrom_cons {o:Op}{l:List Op}{x:Int}(h1:check o=0)(h2:sumF o=x)(h:undoFrom (sumT o) l=true):undoFrom x (o::l)=true:=by
 rw[undoFrom,if_neg (by simpa using h1),if_neg (by simpa using h2)];exact h
theorem undoFrom_head {o:Op}{l:List Op}{x:Int}(h:undoFrom x (o::l)=true):check o=0∧sumF o=x∧undoFrom (sumT o) l=true:=by
 rw[undoFrom]at h;by_cases h1:check o=0
 ·rw[if_neg (by simpa using h1)]at h;by_cases h2:sumF o=x
  ·rw[if_neg (by simpa using h2)]at h;exact⟨h1,h2,h⟩
  ·rw[if_pos h2]at h;cases h
 ·rw[if_pos h1]at h;cases h
theorem undoOk_all {n:Nd}(h:undoOk n=true):undoFrom (rc n.text) n.undo.reverse=true∧n.undo.length≤12:=by
 unfold undoOk at h;simpa using h
theorem undoOk_mk {n:Nd}(h1:undoFrom (rc n.text) n.undo.reverse=true)(h2:n.undo.length≤12):undoOk n=true:=by
 unfold undoOk;simp[h1,h2]
theorem applyE_zero {s:Str}{o:Op}(h:applyE s o=0):checkText s=0∧check o=0∧sumF o=rc s:=by
 unfold applyE at h;by_cases h1:checkText s=0
 ·rw[if_neg (by simpa using h1)]at h;by_cases h2:check o=0
  ·rw[if_neg (by simpa using h2)]at h;by_cases h3:sumF o=rc s
   ·exact⟨h1,h2,h3⟩
   ·rw[if_pos h3]at h;exact absurd h (by decide)
  ·rw[if_pos h2]at h;exact absurd h h2
 ·rw[if_pos h1]at h;exact absurd h h1
theorem marks_moved {n:Nd}{o:Op}{push:Bool}{x:Int}(ho:check o=0)(hx:x=sumT o):∀m∈n.marks.map (mvM push o),0≤m.anchor∧m.anchor≤x∧0≤m.head∧m.head≤x:=by
 intro m hm;obtain⟨m',-,rfl⟩:=List.mem_map.1 hm;have h1:=mvI_bound push ho m'.anchor;have h2:=mvI_bound push ho m'.head;subst hx;exact⟨h1.1,h1.2.1,h2.1,h2.2.1⟩
end Go.Proofs.YtkbfhgcjimfgkaaDoor
set_option linter.unusedSimpArgs false
namespace Go.Proofs.YtkbfhgcjimfgkaaDoor
open Go.RowKit
def stepE (u:Bool)(p o:Op):Int:=if u then trE p o else trE o p
def stepP (u:Bool)(p o:Op):Op:=if u then trA p o else trB o p
def stepO (u:Bool)(p o:Op):Op:=if u then trB p o else trA o p
def foldE (u:Bool):List Op→Op→Int
 |[],_=>0
 |p::ps,o=>if stepE u p o≠0 then stepE u p o else foldE u ps (stepO u p o)
def foldL (u:Bool):List Op→Op→List Op
 |[],_=>[]
 |p::ps,o=>stepP u p o::foldL u ps (stepO u p o)
def foldO (u:Bool):List Op→Op→Op
 |[],o=>o
 |p::ps,o=>foldO u ps (stepO u p o)
theorem foldL_length (u:Bool):∀(l:List Op)(o:Op),(foldL u l o).length=l.length
 |[],_=>rfl
 |p::ps,o=>by simp[foldL,foldL_length u ps]
def ehE0 (s h:Int)(l:List Op)(o:Op)(k:Int):Int:=if edgeCheck s h l≠0 then edgeCheck s h l else if check o≠0 then check o else if k<s-l.length∨s<k then 2 else if h=1048576 then 8 else 0
def ehD (s:Int)(l:List Op)(k:Int):List Op:=l.drop (k-(s-l.length)).toNat
def ehE (s h:Int)(l:List Op)(o:Op)(k:Int)(u:Bool):Int:=if ehE0 s h l o k≠0 then ehE0 s h l o k else foldE u (ehD s l k) o
theorem ehE0_zero {s h:Int}{l:List Op}{o:Op}{k:Int}(H:ehE0 s h l o k=0):edgeCheck s h l=0∧check o=0∧s-l.length≤k∧k≤s∧h≠1048576:=by
 unfold ehE0 at H;by_cases h1:edgeCheck s h l=0
 ·rw[if_neg (by simpa using h1)]at H;by_cases h2:check o=0
  ·rw[if_neg (by simpa using h2)]at H;by_cases h3:k<s-l.length∨s<k
   ·rw[if_pos h3]at H;exact absurd H (by decide)
   ·rw[if_neg h3]at H;by_cases h4:h=1048576
    ·rw[if_pos h4]at H;exact absurd H (by decide)
    ·exact⟨h1,h2,by omega,by omega,h4⟩
  ·rw[if_pos h2]at H;exact absurd H h2
 ·rw[if_pos h1]at H;exact absurd H h1
end Go.Proofs.YtkbfhgcjimfgkaaDoor
set_option linter.unusedSimpArgs false
namespace Go.Proofs.YtkbfhgcjimfgkaaDoor
open Go.RowKit
def overR (o:Op):List Op→Option (List Op)
 |[]=>some []
 |q::r=>if trE o q≠0 then none else(overR (trA o q) r).map (trB o q:: ·)
def overU (o:Op)(u:List Op):List Op:=((overR o u.reverse).map List.reverse).getD []
def Tn.over (t:Tn)(o:Op):Tn:=t.setUndo (overU o t.node.undo)
def Tn.upper (t:Tn)(s:Nat):Bool:=(t.node.me==0)||decide (0<s)
def Tn.heardE (t:Tn)(s:Nat)(f:Fr):Int:=ehE (t.side s).e.sent (t.side s).e.heard (t.side s).e.pending f.op f.heard (t.upper s)
def Tn.heardO (t:Tn)(s:Nat)(f:Fr):Op:=foldO (t.upper s) (ehD (t.side s).e.sent (t.side s).e.pending f.heard) f.op
def Tn.heardX (t:Tn)(s:Nat)(f:Fr):Ed:=⟨(t.side s).e.sent,(t.side s).e.heard+1,foldL (t.upper s) (ehD (t.side s).e.sent (t.side s).e.pending f.heard) f.op⟩
def Tn.take (t:Tn)(s:Nat)(f:Fr):Tn:=(((t.setSide s {t.side s with e:=t.heardX s f}).setText (applyS t.node.text (t.heardO s f))).move false (t.heardO s f)).over (t.heardO s f)
def Tn.heard (t:Tn)(s:Nat)(f:Fr):Tn:=if t.heardE s f≠0 then t else if applyE t.node.text (t.heardO s f)≠0 then t else(t.take s f).forward (t.heardO s f) (s:Int)
def Tn.whole (t:Tn)(s:Nat)(f:Fr):Tn:={t with node:={t.node with ready:=true,text:=f.text,sides:=t.node.sides.set s {t.side s with joined:=true}}}
def Tn.told (t:Tn)(s:Nat)(f:Fr):Tn:=
 if f.kind=1∧(t.side s).joined=true then t.heard s f
 else if f.kind=3∧s=0∧0<t.node.me∧(t.side s).joined=false∧f.epoch=t.node.epoch then t.whole s f else t
def Tn.linked (t:Tn)(s:Nat)(p:Pkt):Tn:=(t.setSide s {t.side s with l:=(t.side s).l.hearL p}).post s ((t.side s).l.hearP p)
def Tn.session (t:Tn)(s:Nat)(p:Pkt):Tn:=
 if(t.side s).l.hearE p≠0 then t else if(t.side s).l.told p=true then(t.linked s p).told s ((t.side s).l.hearF p)else t.linked s p
def Tn.open (t:Tn)(s:Nat)(p:Pkt):Tn:=t.setSide s ⟨(t.side s).peer,true,⟨0,0,[]⟩,openLk p.epoch⟩
def wholeFr (ep:Int)(s:Str):Fr:=⟨3,0,ep,[],s⟩
def Tn.joinedT (t:Tn)(s:Nat)(p:Pkt):Tn:=((t.open s p).session s p).send s (wholeFr p.epoch ((t.open s p).session s p).node.text)
def Tn.lost (t:Tn)(up:Int):Tn:={t with node:=⟨t.node.me,if t.node.epoch+1<1048576 then t.node.epoch+1 else t.node.epoch,up,false,noText,t.node.sides.map fun s=>newSd s.peer,[],[]⟩}
def Tn.away (t:Tn)(up:Int):Tn:=(t.lost up).join
def asks (n:Nd)(p:Pkt):Bool:=!p.bare&&(p.number==1)&&(p.f.kind==2)&&(p.f.epoch==p.epoch)&&(p.f.heard==n.epoch)
def isFrom (x:Int)(s:Sd):Bool:=s.peer==x
def barePost (n:Nd):Pkt:=⟨0,0,true,n.epoch,bareFr⟩
def hearE (n:Nd)(src:Int)(p:Pkt):Int:=
 if p.check≠0 then p.check else match fstIx (isFrom src) n.sides with
 |none=>13
 |some s=>
  if p.epoch=((⟨n,[],[]⟩:Tn).side s).l.epoch∧0<((⟨n,[],[]⟩:Tn).side s).l.epoch then 0
  else if(0<n.me∧s=0)∧p.epoch=0 then 0
  else if(0<n.me∧s=0)∨p.epoch≤((⟨n,[],[]⟩:Tn).side s).l.epoch then 12
  else if asks n p=true∧n.ready=true then 0
  else if asks n p=true then 12 else 0
def hearT (n:Nd)(src:Int)(p:Pkt):Tn:=match fstIx (isFrom src) n.sides with
 |none=>⟨n,[],[]⟩
 |some s=>
  if p.epoch=((⟨n,[],[]⟩:Tn).side s).l.epoch∧0<((⟨n,[],[]⟩:Tn).side s).l.epoch then(⟨n,[],[]⟩:Tn).session s p
  else if(0<n.me∧s=0)∧p.epoch=0 then(⟨n,[],[]⟩:Tn).away p.ack
  else if asks n p=true then(⟨n,[],[]⟩:Tn).joinedT s p
  else(⟨n,[],[]⟩:Tn).post s [barePost n]
end Go.Proofs.YtkbfhgcjimfgkaaDoor
set_option linter.unusedSimpArgs false
namespace Go.Proofs.YtkbfhgcjimfgkaaDoor
open Go.RowKit
theorem foldE_zero {u:Bool}{p:Op}{ps:List Op}{o:Op}(h:foldE u (p::ps) o=0):stepE u p o=0∧foldE u ps (stepO u p o)=0:=by
 by_cases h0:stepE u p o=0
 ·refine⟨h0,?_⟩;simpa[foldE,h0]using h
 ·exfalso;simp[foldE,h0]at h
theorem chain_fold (u:Bool):∀(l:List Op)(o:Op)(q:Option Int),foldE u l o=0→(∀t,q=some t→t=sumT o)→chainFrom q (foldL u l o)=true
 |[],_,q,_,_=>rfl
 |p::l,o,q,h,hq=>by
  obtain⟨g0,g1⟩:=foldE_zero h;have key:check (stepP u p o)=0∧sumF (stepP u p o)=sumT o∧sumT (stepP u p o)=sumT (stepO u p o):=by
   cases u with
   |true=>
    have h0:trE p o=0:=g0;obtain⟨-,-,-,c1,c2,eA,eB⟩:=trE_inv h0;obtain⟨f1,f2,f3,-,-⟩:=trE_laws h0;unfold stepP stepO;simp only[if_true,eA,eB];exact⟨c1,f1,f3⟩
   |false=>
    have h0:trE o p=0:=g0;obtain⟨-,-,-,c1,c2,eA,eB⟩:=trE_inv h0;obtain⟨f1,f2,f3,-,-⟩:=trE_laws h0;unfold stepP stepO;simp only[Bool.false_eq_true,if_false,eA,eB];exact⟨c2,f2,f3.symm⟩
  have ih:=chain_fold u l (stepO u p o) (some (sumT (stepP u p o))) g1 (fun t ht=>by injection ht with ht;omega)
  show chainFrom q (stepP u p o::foldL u l (stepO u p o))=true
  cases q with
  |none=>rw[chain_none key.1];exact ih
  |some t=>
   have:=hq t rfl;rw[chain_on key.1 (by omega)];exact ih
theorem last_fold (u:Bool):∀(l:List Op)(o:Op),foldE u l o=0→lastT (foldL u l o)=none∨lastT (foldL u l o)=some (sumT (foldO u l o))
 |[],_,_=>.inl rfl
 |[p],o,h=>by
  obtain⟨g0,-⟩:=foldE_zero h;right
  show lastT [stepP u p o]=some (sumT (stepO u p o))
  have key:sumT (stepP u p o)=sumT (stepO u p o):=by
   cases u with
   |true=>
    have h0:trE p o=0:=g0;obtain⟨-,-,-,-,-,eA,eB⟩:=trE_inv h0;unfold stepP stepO;simp only[if_true,eA,eB];exact(trE_laws h0).2.2.1
   |false=>
    have h0:trE o p=0:=g0;obtain⟨-,-,-,-,-,eA,eB⟩:=trE_inv h0;unfold stepP stepO;simp only[Bool.false_eq_true,if_false,eA,eB];exact(trE_laws h0).2.2.1.symm
  rw[←key];rfl
 |p::q::l,o,h=>by
  obtain⟨g0,g1⟩:=foldE_zero h;have ih:=last_fold u (q::l) (stepO u p o) g1
  show lastT (stepP u p o::stepP u q (stepO u p o)::foldL u l (stepO u q (stepO u p o)))=none∨lastT _=some (sumT (foldO u (q::l) (stepO u p o)))
  rw[lastT_cons];exact ih
end Go.Proofs.YtkbfhgcjimfgkaaDoor
set_option linter.unusedSimpArgs false
namespace Go.Proofs.YtkbfhgcjimfgkaaDoor
open Go.RowKit
def jf (ep up:Int):Fr:=⟨2,up,ep,[],noText⟩
theorem jf_ok {ep up:Int}(h1:1≤ep)(h2:ep≤1048576)(h3:0≤up)(h4:up≤1048576):(jf ep up).check=0:=by
 have a1:num up=true:=by simp[num];omega
 have a2:num ep=true:=by simp[num];omega
 have a3:0<ep:=by omega
 have h3:checkText noText=0:=by decide
 have h5:¬(ep=0):=by omega
 simp[Fr.check,jf,checkFrame,a1,a2,check_nil,h3,h5,frameOdd,emptyS_noText];exact decide_eq_true (by omega)
def askLk (ep up:Int):Lk:=⟨ep,2,[jf ep up],[],0⟩
def askPk (ep up:Int):Pkt:=⟨ep,1,false,0,jf ep up⟩
theorem ask_link {ep up:Int}(h1:1≤ep)(h2:ep≤1048576)(h3:0≤up)(h4:up≤1048576):
 (openLk ep).sendE (jf ep up)=0∧(openLk ep).sendL (jf ep up)=askLk ep up∧(openLk ep).sendP (jf ep up)=[askPk ep up]∧(askLk ep up).check=0:=by
 have hj:=jf_ok h1 h2 h3 h4;have eo:openLk ep=⟨ep,1,[],[],0⟩:=by unfold openLk;rw[if_neg (by omega)]
 rw[eo];have c0:(Lk.mk ep 1 [] [] 0).check=0:=by
  refine lk_make ?_ ?_ ?_ ?_ ?_ ?_ ?_ ?_ ?_ rfl rfl ?_
  all_goals simp only[List.length_nil]
  all_goals omega
 have hE:(Lk.mk ep 1 [] [] 0).sendE (jf ep up)=0:=by
  unfold Lk.sendE;rw[c0,if_neg (by simp),if_neg (by simp only;omega),hj,if_neg (by simp),if_neg (by simp only;omega)]
 have hp:(Lk.mk ep 1 [] [] 0).push (jf ep up)=askLk ep up:=by
  unfold Lk.push Lk.filled;simp only[List.nil_append];rw[fillL_go (by simp) (by omega),fillL_nil];rfl
 refine⟨hE,?_,?_,?_⟩
 ·unfold Lk.sendL;rw[if_pos hE,hp]
 ·unfold Lk.sendP;rw[if_pos hE,hp];rfl
 ·refine lk_make ?_ ?_ ?_ ?_ ?_ ?_ ?_ ?_ ?_ ?_ rfl ?_
  ·show 0≤ep;omega
  ·exact h2
  ·show(1:Int)≤2;omega
  ·show(2:Int)≤1048576;omega
  ·show(0:Int)≤0;omega
  ·show(0:Int)≤1048576;omega
  ·show 1≤8;omega
  ·show((1:Nat):Int)<2;omega
  ·intro h;exact absurd h (by simp[askLk])
  ·unfold frsOk askLk;simp[hj]
  ·intro h;have:ep=0:=h;omega
theorem join_plain {N:Tn}{p:Sd}{r:List Sd}(hs:N.node.sides=p::r)(h1:1≤N.node.epoch)(h2:N.node.epoch≤1048576)(h3:0≤N.node.up)(h4:N.node.up≤1048576):
 N.join={node:={N.node with sides:={p with l:=askLk N.node.epoch N.node.up}::r},posts:=N.posts++[⟨p.peer,askPk N.node.epoch N.node.up⟩],recs:=N.recs}:=by
 obtain⟨k1,k2,k3,-⟩:=ask_link h1 h2 h3 h4;have hs0:N.side 0=p:=by unfold Tn.side;rw[hs];rfl
 have hj:N.joinFr=jf N.node.epoch N.node.up:=rfl;have hR:N.relink.node.sides={p with l:=openLk N.node.epoch}::r:=by
  unfold Tn.relink Tn.setSide;rw[hs0,hs];rfl
 have hR0:N.relink.side 0={p with l:=openLk N.node.epoch}:=by unfold Tn.side;rw[hR];rfl
 unfold Tn.join Tn.send;rw[hR0,hj];simp only;rw[if_pos k1,k2,k3];unfold Tn.post Tn.setSide Tn.peer;simp only;rw[hR];rfl
theorem newSd_ok (n:Nd)(p:Int):sideOk n (newSd p)=true:=by
 have h1:edgeCheck 0 0 []=0:=by decide
 have h2:(Lk.mk 0 1 [] [] 0).check=0:=by decide
 unfold sideOk newSd;simp[h1,h2]
theorem askSd_ok (n:Nd)(p:Int){ep up:Int}(h:(askLk ep up).check=0):sideOk n {newSd p with l:=askLk ep up}=true:=by
 have h1:edgeCheck 0 0 []=0:=by decide
 unfold sideOk newSd;simp[h1,h]
theorem begin_plain {t:List Int}{k:Nat}(hk:k<t.length)(ht:checkTree t=0){b:Int}(h1:1≤b)(h2:b≤250){s:Str}(hs:checkText s=0)(hs0:0<k→emptyS s=true):
 NdGood t (beginT t (k:Int) b s).node∧(beginT t (k:Int) b s).node.text=s∧(beginT t (k:Int) b s).node.ready=((k:Int)==0)∧(beginT t (k:Int) b s).node.epoch=4096*b∧
 (k=0→(beginT t (k:Int) b s).posts=[])∧(0<k→(beginT t (k:Int) b s).posts=[⟨t.getD k 0,askPk (4096*b) 0⟩]):=by
 have hu:undoFrom (rc s) []=true:=rfl;by_cases h0:0<k
 ·have h0':0<(k:Int):=by omega
  have e0:nbs t (k:Int)=t.getD k 0::kidsTo t (k:Int) t.length:=by
   unfold nbs nbsAhead;rw[if_pos h0'];rfl
  have hsd:(beginN t (k:Int) b s).node.sides=newSd (t.getD k 0)::(kidsTo t (k:Int) t.length).map newSd:=by
   show(nbs t (k:Int)).map newSd=_
   rw[e0];rfl
  have hT:beginT t (k:Int) b s=(beginN t (k:Int) b s).join:=by unfold beginT;rw[if_pos h0']
  have hJ:=join_plain hsd (show 1≤4096*b by omega) (show 4096*b≤1048576 by omega) (show(0:Int)≤0 by omega) (show(0:Int)≤1048576 by omega);obtain⟨-,-,-,hck⟩:=ask_link (ep:=4096*b) (up:=0) (by omega) (by omega) (by omega) (by omega);rw[hT,hJ];refine⟨⟨ht,?_,?_,?_,?_,?_,?_,?_,hs,?_,?_,?_,?_,?_,?_,?_⟩,rfl,rfl,rfl,fun h=>by omega,fun _=>rfl⟩
  ·show 0≤(k:Int);omega
  ·show(k:Int)<_;omega
  ·show 1≤4096*b;omega
  ·show 4096*b<1048576;omega
  ·show(0:Int)≤0;omega
  ·show(0:Int)≤1048576;omega
  ·intro _;rfl
  ·show({newSd (t.getD k 0)with l:=askLk (4096*b) 0}::(kidsTo t (k:Int) t.length).map newSd).length=(nbs t (k:Int)).length
   rw[e0];simp
  ·unfold undoOk
   show(undoFrom (rc s) [].reverse&&decide (([]:List Op).length≤12))=true
   rfl
  ·show([]:List Mk).length≤1;simp
  ·intro _;exact⟨hs0 h0,rfl,rfl,by show(k:Int)≠0;omega⟩
  ·intro i hi
   show(nbs t (k:Int))[i]?=some _∧_
   match i,hi with
   |0,_=>exact⟨by rw[e0];rfl,askSd_ok _ _ hck⟩
   |i+1,hi=>
    have hi2:i<(kidsTo t (k:Int) t.length).length:=by
     have:i+1<({newSd (t.getD k 0)with l:=askLk (4096*b) 0}::(kidsTo t (k:Int) t.length).map newSd).length:=hi;simpa using this
    have hg:({newSd (t.getD k 0)with l:=askLk (4096*b) 0}::(kidsTo t (k:Int) t.length).map newSd)[i+1]=newSd (kidsTo t (k:Int) t.length)[i]:=by simp
    refine⟨?_,?_⟩
    ·rw[e0,List.getElem?_cons_succ,List.getElem?_eq_getElem hi2];exact congrArg (fun x=>some (Sd.peer x)) hg.symm
    ·exact(congrArg (sideOk _) hg).trans (newSd_ok _ _)
  ·intro _ sd hsd0;have:some ({newSd (t.getD k 0)with l:=askLk (4096*b) 0}:Sd)=some sd:=hsd0;cases this
   show false=((k:Int)==0)
   simp;omega
  ·intro m hm;cases hm
 ·have hk0:k=0:=by omega
  subst hk0;have hT:beginT t ((0:Nat):Int) b s=beginN t ((0:Nat):Int) b s:=by unfold beginT;rw[if_neg (by simp)]
  rw[hT];refine⟨⟨ht,?_,?_,?_,?_,?_,?_,?_,hs,?_,?_,?_,?_,?_,?_,?_⟩,rfl,rfl,rfl,fun _=>rfl,fun h=>by omega⟩
  ·show 0≤((0:Nat):Int);omega
  ·show((0:Nat):Int)<_;omega
  ·show 1≤4096*b;omega
  ·show 4096*b<1048576;omega
  ·show(0:Int)≤0;omega
  ·show(0:Int)≤1048576;omega
  ·intro _;rfl
  ·show((nbs t ((0:Nat):Int)).map newSd).length=_
   rw[List.length_map];rfl
  ·unfold undoOk
   show(undoFrom (rc s) [].reverse&&decide (([]:List Op).length≤12))=true
   rfl
  ·show([]:List Mk).length≤1;simp
  ·intro h;have:((((0:Nat):Int)==0):Bool)=false:=h;simp at this
  ·intro i hi;have hi2:i<(nbs t ((0:Nat):Int)).length:=by
    have:i<((nbs t ((0:Nat):Int)).map newSd).length:=hi;simpa using this
   have hg:((nbs t ((0:Nat):Int)).map newSd)[i]=newSd (nbs t ((0:Nat):Int))[i]:=by simp
   refine⟨?_,(congrArg (sideOk _) hg).trans (newSd_ok _ _)⟩
   show(nbs t ((0:Nat):Int))[i]?=_
   rw[List.getElem?_eq_getElem hi2];exact congrArg (fun x=>some (Sd.peer x)) hg.symm
  ·intro h;have:(0:Int)<((0:Nat):Int):=h;omega
  ·intro m hm;cases hm
end Go.Proofs.YtkbfhgcjimfgkaaDoor
