/- The walk of a turn's edit, refused or not; a turn or a refusal as a result. -/
import Derived.Test.YtkbfhgcjimfgkaaDoorPartB8
import Derived.Test.YtkbfhgcjimfgkaaDoorPartB1
import Derived.Test.YtkbfhgcjimfgkaaDoorPartA5
import Derived.BigQuiet
import Derived.Test.YtkbfhgcjimfgkaaDoorPartA3
import Derived.Test.YtkbfhgcjimfgkaaDoorPartB7
import Derived.Test.YtkbfhgcjimfgkaaDoorPartA9
import Derived.Test.YtkbfhgcjimfgkaaDoorPartB6
set_option linter.unusedVariables false
set_option linter.unusedSimpArgs false
set_option linter.unusedSimpArgs false
namespace Go.Proofs.YtkbfhgcjimfgkaaDoor
open Go.RowKit
theorem num_of {x:Int}(h:num x=true):0≤x∧x≤1048576:=by
 unfold num at h;simpa using h
theorem pkt_all {p:Pkt}(h:p.check=0):(0≤p.epoch∧p.epoch≤1048576)∧(0≤p.ack∧p.ack≤1048576)∧(p.bare=false→1≤p.epoch∧1≤p.number∧p.f.check=0):=by
 unfold Pkt.check checkPacket at h;by_cases h1:num p.epoch=false∨num p.number=false∨num p.ack=false
 ·rw[if_pos h1]at h;exact absurd h (by decide)
 ·rw[if_neg h1]at h;have n1:num p.epoch=true:=by cases hh:num p.epoch with|true=>rfl|false=>exact absurd (.inl hh) h1
  have n3:num p.ack=true:=by cases hh:num p.ack with|true=>rfl|false=>exact absurd (.inr (.inr hh)) h1
  refine⟨num_of n1,num_of n3,fun hb=>?_⟩;rw[if_neg (by simp[hb])]at h;by_cases h2:p.number<1∨p.epoch<1
  ·rw[if_pos h2]at h;exact absurd h (by decide)
  ·rw[if_neg h2]at h;exact⟨by omega,by omega,h⟩
theorem fr_all {f:Fr}(h:f.check=0):check f.op=0∧checkText f.text=0∧0≤f.heard∧0≤f.epoch∧f.epoch≤1048576:=by
 unfold Fr.check checkFrame at h;by_cases h1:f.kind<1∨3<f.kind
 ·rw[if_pos h1]at h;exact absurd h (by decide)
 ·rw[if_neg h1]at h;by_cases h2:num f.heard=false∨num f.epoch=false
  ·rw[if_pos h2]at h;exact absurd h (by decide)
  ·rw[if_neg h2]at h;have n1:num f.heard=true:=by cases hh:num f.heard with|true=>rfl|false=>exact absurd (.inl hh) h2
   have n2:num f.epoch=true:=by cases hh:num f.epoch with|true=>rfl|false=>exact absurd (.inr hh) h2
   by_cases h3:check f.op=0
   ·rw[if_neg (by simpa using h3)]at h;by_cases h4:checkText f.text=0
    ·exact⟨h3,h4,(num_of n1).1,(num_of n2).1,(num_of n2).2⟩
    ·rw[if_pos h4]at h;exact absurd h h4
   ·rw[if_pos h3]at h;exact absurd h h3
theorem hearL_ok {l:Lk}{p:Pkt}{b:Int}(h:l.hearE p=0)(hb:l.next+l.queue.length≤b)(hb1:b<1000000):(l.hearL p).check=0∧(l.hearL p).epoch=l.epoch∧(l.hearL p).next+(l.hearL p).queue.length≤b∧(l.hearL p).heard≤l.heard+1∧0<l.epoch:=by
 obtain⟨h1,h2,h3,h4⟩:=hearE_zero h;obtain⟨a1,a2,a3,a4,a5,a6,a7,a8,a9,a10,a11,a12⟩:=lk_zero h1;have hL:l.hearL p=(l.behind p).filled:=by unfold Lk.hearL;rw[if_pos h]
 obtain⟨s1,s2⟩:=l.acked_sub p.ack;have hF:Filled (l.behind p) (l.behind p).filled:=Lk.filled_all _ (by show(l.acked p.ack).length≤8;omega) a4;have hh:0≤(l.behind p).heard∧(l.behind p).heard≤1048576∧(l.behind p).heard≤l.heard+1:=by
  show 0≤(if l.tells p=true then l.heard+1 else l.heard)∧(if l.tells p=true then l.heard+1 else l.heard)≤1048576∧(if l.tells p=true then l.heard+1 else l.heard)≤l.heard+1
  split
  ·rename_i ht;unfold Lk.tells at ht;simp only[Bool.and_eq_true,decide_eq_true_eq]at ht;omega
  ·omega
 have hfr:frsOk ((l.behind p).sent++(l.behind p).queue)=true:=by
  show frsOk (l.acked p.ack++l.queue)=true
  rw[frsOk_append,a11,Bool.and_true];unfold frsOk at a10⊢;rw[List.all_eq_true]at a10⊢;exact fun f hf=>a10 f (s1 f hf)
 rw[hL];have hck:=hF.check a1 a2 a3 hh.1 hh.2.1 (by show((l.acked p.ack).length:Int)<l.next;omega) hfr (by show l.next+(l.queue.length:Int)<1048576;omega) h3;refine⟨hck,hF.ep,?_,?_,by omega⟩
 ·have e1:=congrArg List.length hF.all;have e2:=hF.nx;simp only[List.length_append]at e1;have e3:(l.behind p).next=l.next:=rfl
  have e4:(l.behind p).queue=l.queue:=rfl;rw[e3]at e2;rw[e4]at e1;have:=hF.more;omega
 ·rw[hF.he];exact hh.2.2
def NG (tr:List Int)(b:Int)(n:Nd):Prop:=NdGood tr n∧NdB b n
section
variable {tr:List Int} {b c:Int} {n:Nd} {t:Tn}
theorem NG.up (h:NG tr b n)(hc:b≤c):NG tr c n:=⟨h.1,fun s hs=>(h.2 s hs).up hc⟩
theorem sideOk_same {n n':Nd}{s:Sd}(h1:n'.text=n.text)(h2:n'.ready=n.ready):sideOk n' s=sideOk n s:=by
 unfold sideOk sideLast;rw[h1,h2]
theorem NG.setSide {s:Nat}{y:Sd}(h:NG tr b n)(hs:s<n.sides.length)(hp:y.peer=n.sides[s].peer)(hj:0<n.me→s=0→y.joined=n.sides[s].joined)(hk:sideOk n y=true)(hb:SdB b y):NG tr b {n with sides:=n.sides.set s y}:=by
 obtain⟨hG,hB⟩:=h;have key:∀i (hi:i<(n.sides.set s y).length),(n.sides.set s y)[i]=if s=i then y else n.sides[i]'(by simpa using hi):=fun i hi=>List.getElem_set hi;refine⟨⟨hG.tree,hG.me0,hG.me1,hG.ep0,hG.ep1,hG.up0,hG.up1,hG.upr,hG.text,(List.length_set ..).trans hG.len,hG.undo,hG.marks1,hG.away,fun i hi=>?_,fun hm sd hsd=>?_,hG.mark⟩,fun x hx=>?_⟩
 ·have hi':i<n.sides.length:=by simpa using hi
  have e:=key i hi;have g:=hG.side i hi';have hso:∀x,sideOk {n with sides:=n.sides.set s y} x=sideOk n x:=fun x=>sideOk_same rfl rfl
  show(nbs tr n.me)[i]?=some (n.sides.set s y)[i].peer∧sideOk {n with sides:=n.sides.set s y} (n.sides.set s y)[i]=true
  rw[hso,e];by_cases hsi:s=i
  ·subst hsi;rw[if_pos rfl,hp];exact⟨g.1,hk⟩
  ·rw[if_neg hsi];exact g
 ·have h0:0<n.sides.length:=by omega
  have hsd':(n.sides.set s y)[0]?=some sd:=hsd;have e:=key 0 (by simpa using h0);rw[List.getElem?_eq_getElem (by simpa using h0),e]at hsd';injection hsd' with hsd';have g:=hG.top hm _ (List.getElem?_eq_getElem h0)
  show sd.joined=n.ready
  rw[←hsd'];by_cases hsi:s=0
  ·subst hsi;rw[if_pos rfl,hj hm rfl];exact g
  ·rw[if_neg hsi];exact g
 ·rcases List.mem_or_eq_of_mem_set hx with h1|rfl
  ·exact hB x h1
  ·exact hb
theorem NG.at (h:NG tr b t.node){s:Nat}(hs:s<t.node.sides.length):sideOk t.node (t.side s)=true∧SdB b (t.side s)∧t.side s=t.node.sides[s]:=by
 rw[t.side_get s hs];exact⟨(h.1.side s hs).2,h.2 _ (List.getElem_mem hs),rfl⟩
theorem NG.linked {s:Nat}{p:Pkt}(h:NG tr b t.node)(hs:s<t.node.sides.length)(hb:b<1000000)(hE:(t.side s).l.hearE p=0):NG tr (b+1) (t.linked s p).node:=by
 obtain⟨h1,h2,h3⟩:=h.at hs;obtain⟨k1,k2,k3,k4⟩:=sideOk_all h1;obtain⟨l1,l2,l3,l4,l5⟩:=hearL_ok hE h2.2.2.1 hb;refine(h.up (by omega)).setSide hs (by rw[←h3]) (fun _ _=>by rw[←h3]) (sideOk_mk k1 l1 k3 fun hj=>?_) ⟨by have:=h2.1;show(t.side s).e.sent≤b+1;omega,by have:=h2.2.1;show(t.side s).e.heard≤b+1;omega,by show((t.side s).l.hearL p).next+((t.side s).l.hearL p).queue.length≤b+1;omega,by show((t.side s).l.hearL p).heard≤b+1;have:=h2.2.2.2;omega⟩;obtain⟨q1,q2,q3⟩:=k4 hj;exact⟨sideLast_mk (sideLast_eq q1),q2,by show 0<((t.side s).l.hearL p).epoch;omega⟩
theorem overR_ok:∀(l:List Op)(o:Op)(l':List Op),undoFrom (sumF o) l=true→overR o l=some l'→undoFrom (sumT o) l'=true∧l'.length=l.length
 |[],o,l',_,h=>by
  injection h with h;subst h;exact⟨rfl,rfl⟩
 |q::r,o,l',hu,h=>by
  obtain⟨u1,u2,u3⟩:=undoFrom_head hu;unfold overR at h;by_cases hE:trE o q=0
  ·rw[if_neg (by simpa using hE)]at h;obtain⟨-,-,-,c1,c2,eA,eB⟩:=trE_inv hE;obtain⟨f1,f2,f3,-,-⟩:=trE_laws hE;cases hr:overR (trA o q) r with
   |none=>rw[hr]at h;cases h
   |some l2=>
    rw[hr]at h;injection h with h;subst h;obtain⟨i1,i2⟩:=overR_ok r (trA o q) l2 (by rw[eA,f1];exact u3) hr;refine⟨undoFrom_cons (by rw[eB];exact c2) (by rw[eB];exact f2) ?_,by simp[i2]⟩;rw[eB,←f3,←eA];exact i1
  ·rw[if_pos hE]at h;cases h
theorem overU_ok {n n':Nd}{o:Op}(h:undoOk n=true)(hF:sumF o=rc n.text)(hT:rc n'.text=sumT o)(hu:n'.undo=overU o n.undo):undoOk n'=true:=by
 obtain⟨k1,k2⟩:=undoOk_all h;rw[←hF]at k1;cases hr:overR o n.undo.reverse with
 |none=>
  have e:n'.undo=[]:=by rw[hu];unfold overU;rw[hr];rfl
  refine undoOk_mk ?_ ?_<;>rw[e]
  ·rfl
  ·simp
 |some l=>
  have e:n'.undo=l.reverse:=by rw[hu];unfold overU;rw[hr];rfl
  obtain⟨i1,i2⟩:=overR_ok _ _ _ k1 hr;refine undoOk_mk ?_ ?_
  ·rw[e,List.reverse_reverse,hT];exact i1
  ·rw[e,List.length_reverse,i2,List.length_reverse];exact k2
theorem heardE_zero {t:Tn}{s:Nat}{f:Fr}(h:t.heardE s f=0):ehE0 (t.side s).e.sent (t.side s).e.heard (t.side s).e.pending f.op f.heard=0∧foldE (t.upper s) (ehD (t.side s).e.sent (t.side s).e.pending f.heard) f.op=0:=by
 unfold Tn.heardE ehE at h;by_cases h1:ehE0 (t.side s).e.sent (t.side s).e.heard (t.side s).e.pending f.op f.heard=0
 ·rw[if_neg (by simpa using h1)]at h;exact⟨h1,h⟩
 ·rw[if_pos h1]at h;exact absurd h h1
theorem take_node (t:Tn)(s:Nat)(f:Fr):(t.take s f).node={t.node with text:=applyS t.node.text (t.heardO s f),undo:=overU (t.heardO s f) t.node.undo,marks:=t.node.marks.map (mvM false (t.heardO s f)),sides:=t.node.sides.set s {t.side s with e:=t.heardX s f}}:=rfl
theorem take_ok {s:Nat}{f:Fr}(h:NG tr b t.node)(hs:s<t.node.sides.length)(hj:(t.side s).joined=true)(hE:t.heardE s f=0)(hA:applyE t.node.text (t.heardO s f)=0)(hb:b<1000000):
 sideOk (t.take s f).node {t.side s with e:=t.heardX s f}=true∧SdB (b+1) {t.side s with e:=t.heardX s f}∧check (t.heardO s f)=0∧sumF (t.heardO s f)=rc t.node.text∧rc (t.take s f).node.text=sumT (t.heardO s f)∧checkText (t.take s f).node.text=0∧t.node.ready=true:=by
 obtain⟨h1,h2,h3⟩:=h.at hs;obtain⟨k1,k2,-,k4⟩:=sideOk_all h1;obtain⟨q1,q2,q3⟩:=k4 hj;obtain⟨e1,e2⟩:=heardE_zero hE;obtain⟨g1,g2,g3,g4,g5⟩:=ehE0_zero e1;obtain⟨a0,a1,a2⟩:=applyE_zero hA;obtain⟨-,-,-,a4,a5,-⟩:=apply_good a0 a1 a2;obtain⟨z1,z2,z3,z4,z5,z6⟩:=edgeCheck_zero k1;obtain⟨b1,b2,b3,b4⟩:=h2;have hlen:((t.heardX s f).pending.length:Int)≤(t.side s).e.sent:=by
  show((foldL _ (ehD _ _ _) f.op).length:Int)≤_
  rw[foldL_length];unfold ehD;rw[List.length_drop];omega
 refine⟨sideOk_mk ?_ k2 (fun h'=>?_) (fun _=>⟨sideLast_mk fun x hx=>?_,q2,q3⟩),⟨by show(t.side s).e.sent≤b+1;omega,by show(t.side s).e.heard+1≤b+1;omega,by show(t.side s).l.next+(t.side s).l.queue.length≤b+1;omega,by show(t.side s).l.heard≤b+1;omega⟩,a1,a2,a4,a5,q2⟩
 ·exact edge_mk z1 z2 (by show 0≤(t.side s).e.heard+1;omega) (by show(t.side s).e.heard+1≤1048576;omega) hlen (chain_fold _ _ _ _ e2 fun t ht=>by cases ht)
 ·have h':(t.side s).joined=false:=h';rw[hj]at h';cases h'
 ·show rc (applyS t.node.text (t.heardO s f))=x
  have hx':lastT (foldL (t.upper s) (ehD (t.side s).e.sent (t.side s).e.pending f.heard) f.op)=some x:=hx;rw[a4];rcases last_fold (t.upper s) _ _ e2 with h|h
  ·rw[h]at hx';cases hx'
  ·rw[h]at hx';injection hx'
theorem NG.heard {s:Nat}{f:Fr}(h:NG tr b t.node)(hs:s<t.node.sides.length)(hj:(t.side s).joined=true)(hb:b<1000000):NG tr (b+1) (t.heard s f).node:=by
 unfold Tn.heard;by_cases hE:t.heardE s f=0
 ·rw[if_neg (by simpa using hE)];by_cases hA:applyE t.node.text (t.heardO s f)=0
  ·rw[if_neg (by simpa using hA)];obtain⟨k1,k2,k3,k4,k5,k6,k7⟩:=take_ok h hs hj hE hA hb;have hN:=take_node t s f;have hat:=forward_at (t.take s f) (t.heardO s f) (s:Int);have hln:=forward_len (t.take s f) (t.heardO s f) (s:Int);have hnd:=forward_node (t.take s f) (t.heardO s f) (s:Int);obtain⟨hG,hB⟩:=h;have hsl:(t.take s f).node.sides.length=t.node.sides.length:=by rw[hN];exact List.length_set ..
   have hrd:(t.take s f).node.ready=true:=by rw[hN];exact k7
   generalize hS:((t.take s f).forward (t.heardO s f) (s:Int))=T at*;have hsd:∀i (hi:i<T.node.sides.length),sideOk T.node T.node.sides[i]=true∧SdB (b+1) T.node.sides[i]∧T.node.sides[i].peer=(t.node.sides[i]'(by omega)).peer∧T.node.sides[i].joined=(t.node.sides[i]'(by omega)).joined:=by
    intro i hi;have hi1:i<(t.take s f).node.sides.length:=by omega
    have hi2:i<t.node.sides.length:=by omega
    have e:=hat i hi1;rw[T.side_get i hi,(t.take s f).side_get i hi1]at e;have e2:(t.take s f).node.sides[i]=if s=i then {t.side s with e:=t.heardX s f}else t.node.sides[i]:=List.getElem_set hi1;rw[e2]at e;rw[sideOk_same (n:=(t.take s f).node) (by rw[hnd]) (by rw[hnd]),e];by_cases hsi:s=i
    ·subst hsi;rw[if_pos rfl,if_pos (.inl rfl)];refine⟨k1,k2,?_,?_⟩
     ·show(t.side s).peer=_
      rw[t.side_get s hi2]
     ·show(t.side s).joined=_
      rw[t.side_get s hi2]
    ·rw[if_neg hsi];have g:=(hG.side i hi2).2;have gb:=hB _ (List.getElem_mem hi2);by_cases hji:t.node.sides[i].joined=true
     ·rw[if_neg (by simp[hji];omega)];obtain⟨m1,m2⟩:=told_ok (n':=(t.take s f).node) g hji k3 k4 k5 hrd gb hb;exact⟨m1,m2,rfl,rfl⟩
     ·have hji':t.node.sides[i].joined=false:=by simpa using hji
      rw[if_pos (.inr hji')];exact⟨idle_ok g hji',gb.up (by omega),rfl,rfl⟩
   refine⟨⟨hG.tree,?_,?_,?_,?_,?_,?_,?_,?_,?_,?_,?_,?_,fun i hi=>⟨?_,(hsd i hi).1⟩,fun hm sd hsd0=>?_,?_⟩,fun x hx=>?_⟩
   ·rw[hnd,hN];exact hG.me0
   ·rw[hnd,hN];exact hG.me1
   ·rw[hnd,hN];exact hG.ep0
   ·rw[hnd,hN];exact hG.ep1
   ·rw[hnd,hN];exact hG.up0
   ·rw[hnd,hN];exact hG.up1
   ·rw[hnd,hN];exact hG.upr
   ·rw[hnd];exact k6
   ·rw[hln,hsl,hnd,hN];exact hG.len
   ·exact overU_ok (n:=t.node) (o:=t.heardO s f) hG.undo k4 (by rw[hnd];exact k5) (by rw[hnd,hN])
   ·rw[hnd,hN];show(t.node.marks.map _).length≤1;rw[List.length_map];exact hG.marks1
   ·intro hr;rw[hnd]at hr;have hr':(t.take s f).node.ready=false:=hr;rw[hrd]at hr';cases hr'
   ·rw[(hsd i hi).2.2.1];have hme:T.node.me=t.node.me:=by rw[hnd,hN]
    rw[hme];exact(hG.side i (by omega)).1
   ·obtain⟨h0,h1⟩:=List.getElem?_eq_some_iff.1 hsd0;have g:=hG.top (by rw[hnd,hN]at hm;exact hm) _ (List.getElem?_eq_getElem (show 0<t.node.sides.length by omega));rw[←h1,(hsd 0 h0).2.2.2,g];rw[hnd,hN]
   ·have e1:T.node.text=(t.take s f).node.text:=by rw[hnd]
    have e2:T.node.marks=t.node.marks.map (mvM false (t.heardO s f)):=by rw[hnd,hN]
    rw[e1,e2];exact marks_moved k3 k5
   ·obtain⟨i,hi,rfl⟩:=List.getElem_of_mem hx;exact(hsd i hi).2.1
  ·rw[if_pos hA];exact h.up (by omega)
 ·rw[if_pos hE];exact h.up (by omega)
theorem NG.whole {f:Fr}(h:NG tr b t.node)(hs:0<t.node.sides.length)(hm:0<t.node.me)(hj:(t.side 0).joined=false)(hf:checkText f.text=0)(hep:0<(t.side 0).l.epoch):NG tr b (t.whole 0 f).node:=by
 obtain⟨h1,h2,h3⟩:=h.at hs;obtain⟨k1,k2,k3,-⟩:=sideOk_all h1;obtain⟨hG,hB⟩:=h;have hnr:t.node.ready=false:=by
  have:=hG.top hm _ (List.getElem?_eq_getElem hs);rw[←this,←h3];exact hj
 obtain⟨w1,w2,w3,-⟩:=hG.away hnr;obtain⟨z1,z2,z3,z4,z5,z6⟩:=edgeCheck_zero k1;have hz:=k3 hj;have hp0:(t.side 0).e.pending=[]:=by
  have:(t.side 0).e.pending.length=0:=by omega
  exact List.eq_nil_of_length_eq_zero this
 have hN:(t.whole 0 f).node={t.node with ready:=true,text:=f.text,sides:=t.node.sides.set 0 {t.side 0 with joined:=true}}:=rfl;have hj0:sideOk (t.whole 0 f).node {t.side 0 with joined:=true}=true:=by
  refine sideOk_mk k1 k2 (fun h=>by cases h) fun _=>⟨sideLast_mk fun x hx=>?_,rfl,hep⟩;have hx':lastT (t.side 0).e.pending=some x:=hx;rw[hp0]at hx';cases hx'
 have hsd:∀i (hi:i<(t.whole 0 f).node.sides.length),sideOk (t.whole 0 f).node (t.whole 0 f).node.sides[i]=true∧SdB b (t.whole 0 f).node.sides[i]∧(t.whole 0 f).node.sides[i].peer=(t.node.sides[i]'(by rw[hN]at hi;simpa using hi)).peer:=by
  intro i hi;have hi2:i<t.node.sides.length:=by rw[hN]at hi;simpa using hi
  have e2:(t.whole 0 f).node.sides[i]=if 0=i then {t.side 0 with joined:=true}else t.node.sides[i]:=List.getElem_set hi;rw[e2];by_cases h0:0=i
  ·subst h0;rw[if_pos rfl];exact⟨hj0,h2,by rw[←h3]⟩
  ·rw[if_neg h0];have g:=(hG.side i hi2).2;have gj:t.node.sides[i].joined=false:=by
    cases hh:t.node.sides[i].joined with
    |false=>rfl
    |true=>
     have:=((sideOk_all g).2.2.2 hh).2.1;rw[hnr]at this;cases this
   exact⟨idle_ok g gj,hB _ (List.getElem_mem hi2),rfl⟩
 refine⟨⟨hG.tree,hG.me0,hG.me1,hG.ep0,hG.ep1,hG.up0,hG.up1,hG.upr,hf,(List.length_set ..).trans hG.len,?_,?_,(fun h=>by cases h),fun i hi=>⟨?_,(hsd i hi).1⟩,fun _ sd hsd0=>?_,?_⟩,fun x hx=>?_⟩
 ·refine undoOk_mk ?_ ?_
  ·show undoFrom _ t.node.undo.reverse=true
   rw[w2];rfl
  ·show t.node.undo.length≤12
   rw[w2];simp
 ·show t.node.marks.length≤1
  rw[w3];simp
 ·rw[(hsd i hi).2.2];exact(hG.side i (by rw[hN]at hi;simpa using hi)).1
 ·have e:(t.node.sides.set 0 {t.side 0 with joined:=true})[0]?=some {t.side 0 with joined:=true}:=by
   rw[List.getElem?_set_self hs]
  have hsd1:(t.node.sides.set 0 {t.side 0 with joined:=true})[0]?=some sd:=hsd0;rw[e]at hsd1;injection hsd1 with hsd1;rw[←hsd1];rfl
 ·intro m hm;have hm':m∈t.node.marks:=hm;rw[w3]at hm';cases hm'
 ·obtain⟨i,hi,rfl⟩:=List.getElem_of_mem hx;exact(hsd i hi).2.1
theorem NG.told {s:Nat}{f:Fr}(h:NG tr b t.node)(hs:s<t.node.sides.length)(hb:b<1000000)(hf:checkText f.text=0)(hep:0<(t.side s).l.epoch):NG tr (b+1) (t.told s f).node:=by
 unfold Tn.told;split
 ·rename_i hc;exact h.heard hs hc.2 hb
 ·split
  ·rename_i hc;obtain⟨c1,rfl,c3,c4,c5⟩:=hc;exact(h.whole hs c3 c4 hf hep).up (by omega)
  ·exact h.up (by omega)
theorem NG.session {s:Nat}{p:Pkt}(h:NG tr b t.node)(hs:s<t.node.sides.length)(hb:b<900000):NG tr (b+2) (t.session s p).node:=by
 unfold Tn.session;by_cases hE:(t.side s).l.hearE p=0
 ·rw[if_neg (by simpa using hE)];have hL:=h.linked (p:=p) hs (by omega) hE;obtain⟨k1,k2,k3,k4⟩:=hearE_zero hE;split
  ·rename_i ht;have hF:(t.side s).l.hearF p=p.f:=by unfold Lk.hearF;rw[if_pos ht]
   have hbare:p.bare=false:=by
    unfold Lk.told at ht;rw[if_pos hE]at ht;unfold Lk.tells at ht;simp only[Bool.and_eq_true]at ht;simpa using ht.1.1
   have hfr:=(pkt_all k2).2.2 hbare;have hs2:s<(t.linked s p).node.sides.length:=by show s<(t.node.sides.set s _).length;rw[List.length_set];exact hs
   rw[hF];obtain⟨h1,h2,-⟩:=h.at hs;obtain⟨-,e2,-,-,e5⟩:=hearL_ok hE h2.2.2.1 (by omega);have:=hL.told hs2 (by omega) (fr_all hfr.2.2).2.1 (by
    have:(t.linked s p).side s={t.side s with l:=(t.side s).l.hearL p}:=side_set t s _ hs;rw[this]
    show 0<((t.side s).l.hearL p).epoch
    omega)
   exact this.up (by omega)
  ·exact hL.up (by omega)
 ·rw[if_pos hE];exact h.up (by omega)
theorem told_len (t:Tn)(s:Nat)(f:Fr):(t.told s f).node.sides.length=t.node.sides.length:=by
 unfold Tn.told;split
 ·unfold Tn.heard;split
  ·rfl
  ·split
   ·rfl
   ·rw[forward_len,take_node];exact List.length_set ..
 ·split
  ·exact List.length_set ..
  ·rfl
theorem session_len (t:Tn)(s:Nat)(p:Pkt):(t.session s p).node.sides.length=t.node.sides.length:=by
 unfold Tn.session;split
 ·rfl
 ·split
  ·rw[told_len];exact List.length_set ..
  ·exact List.length_set ..
theorem openLk_ok {ep:Int}(h1:1≤ep)(h2:ep≤1048576):(openLk ep).check=0∧(openLk ep).epoch=ep∧(openLk ep).next=1∧(openLk ep).queue=[]∧(openLk ep).heard=0:=by
 have e:openLk ep=⟨ep,1,[],[],0⟩:=by unfold openLk;rw[if_neg (by omega)]
 rw[e];refine⟨lk_make (by show 0≤ep;omega) h2 (by show(1:Int)≤1;omega) (by show(1:Int)≤1048576;omega) (by show(0:Int)≤0;omega) (by show(0:Int)≤1048576;omega) (by simp) (by show((0:Nat):Int)<1;omega) (fun h=>by simp at h) rfl rfl (fun h=>?_),rfl,rfl,rfl,rfl⟩;have h':ep=0:=h;omega
theorem NG.opened {s:Nat}{p:Pkt}(h:NG tr b t.node)(hs:s<t.node.sides.length)(hr:t.node.ready=true)(h1:1≤p.epoch)(h2:p.epoch≤1048576)(hm:¬(0<t.node.me∧s=0))(hb:1≤b):NG tr b (t.open s p).node:=by
 obtain⟨o1,o2,o3,o4,o5⟩:=openLk_ok h1 h2;refine h.setSide hs (by rw[t.side_get s hs]) (fun h1 h2=>absurd ⟨h1,h2⟩ hm) (sideOk_mk (by show edgeCheck 0 0 []=0;decide) o1 (fun h=>by cases h) fun _=>⟨sideLast_mk (fun x hx=>by cases hx),hr,by show 0<(openLk p.epoch).epoch;omega⟩) ⟨by show(0:Int)≤b;omega,by show(0:Int)≤b;omega,by show(openLk p.epoch).next+((openLk p.epoch).queue.length:Int)≤b;rw[o3,o4];simp;omega,by show(openLk p.epoch).heard≤b;omega⟩
theorem fstIx_lt {α:Type}{p:α→Bool}:∀{l:List α}{k:Nat},fstIx p l=some k→∃h:k<l.length,p l[k]=true
 |[],_,h=>by cases h
 |x::l,k,h=>by
  unfold fstIx at h;by_cases hx:p x=true
  ·rw[if_pos hx]at h;injection h with h;subst h;exact⟨by simp,hx⟩
  ·rw[if_neg hx]at h;cases hr:fstIx p l with
   |none=>rw[hr]at h;cases h
   |some j=>
    rw[hr]at h;injection h with h;subst h;obtain⟨h1,h2⟩:=fstIx_lt hr;exact⟨by simp;omega,by simpa using h2⟩
end
end Go.Proofs.YtkbfhgcjimfgkaaDoor
set_option linter.unusedSimpArgs false
namespace Go.Proofs.YtkbfhgcjimfgkaaDoor
open Go.RowKit
theorem num_in {x:Int}(h0:0≤x)(h1:x≤1048576):num x=true:=by unfold num;simp;omega
def jPk (k:Int):Pkt:=⟨k,1,false,0,⟨2,4096,k,[],noText⟩⟩
def jSd (c:Str)(k:Int):Sd:=⟨1,true,⟨0,0,[]⟩,⟨k,2,[wholeFr k c],[],1⟩⟩
def jNd (c:Str)(s:Sd):Nd:=⟨0,4096,0,true,c,[s],[],[]⟩
def jPo (c:Str)(k:Int):List Po:=[⟨1,⟨k,0,true,1,bareFr⟩⟩,⟨1,⟨k,1,false,1,wholeFr k c⟩⟩]
theorem nbs_two:nbs [-1,0] 0=[1]:=by decide
theorem j_begin (s:Str):beginT [-1,0] ((0:Nat):Int) 1 s=⟨jNd s (newSd 1),[],[]⟩:=by
 unfold beginT;rw[if_neg (by simp)];unfold beginN jNd;rw[show nbs [-1,0] ((0:Nat):Int)=[1]from nbs_two];rfl
theorem j_beginE {s:Str}(hs:checkText s=0):beginE [-1,0] ((0:Nat):Int) 1 s=0:=by
 unfold beginE;rw[if_neg (by decide),if_neg (by decide),if_neg (by decide),if_neg (by simpa using hs),if_neg (by rintro⟨h,-⟩;omega)]
theorem j_good {s:Str}(hs:checkText s=0):NG [-1,0] 2 (jNd s (newSd 1)):=by
 have h:=(begin_plain (t:=[-1,0]) (k:=0) (by simp) (by decide) (b:=1) (by omega) (by omega) hs (fun h=>by omega)).1;rw[j_begin]at h;refine⟨h,fun x hx=>?_⟩;rcases List.mem_singleton.1 hx with rfl;exact⟨by show(0:Int)≤2;omega,by show(0:Int)≤2;omega,by show(1:Int)+((0:Nat):Int)≤2;omega,by show(0:Int)≤2;omega⟩
theorem jPk_check {k:Int}(h1:1≤k)(h2:k≤1048576):(jPk k).check=0:=by
 show checkPacket k 1 false 0 2 4096 k [] noText=0
 unfold checkPacket;rw[num_in (by omega) h2,if_neg (by simp[num]),if_neg (by decide),if_neg (by omega)];unfold checkFrame;rw[if_neg (by omega),num_in (by omega) h2,if_neg (by simp[num]),if_neg (by decide),if_neg (by decide),if_neg (by simp[frameOdd,emptyS_noText];omega)]
theorem whole_check {k:Int}{c:Str}(h1:1≤k)(h2:k≤1048576)(hc:checkText c=0):(wholeFr k c).check=0:=by
 show checkFrame 3 0 k [] c=0
 unfold checkFrame;rw[if_neg (by omega),num_in (by omega) h2,if_neg (by simp[num]),if_neg (by decide),if_neg (by simpa using hc),if_neg (by simp[frameOdd];omega)]
theorem hearE_at {n:Nd}{src:Int}{p:Pkt}{s:Nat}(hp:p.check=0)(hf:fstIx (isFrom src) n.sides=some s):hearE n src p=if p.epoch=((⟨n,[],[]⟩:Tn).side s).l.epoch∧0<((⟨n,[],[]⟩:Tn).side s).l.epoch then 0 else if(0<n.me∧s=0)∧p.epoch=0 then 0 else if(0<n.me∧s=0)∨p.epoch≤((⟨n,[],[]⟩:Tn).side s).l.epoch then 12 else if asks n p=true∧n.ready=true then 0 else if asks n p=true then 12 else 0:=by
 unfold hearE;rw[if_neg (by simpa using hp),hf]
theorem hearT_at {n:Nd}{src:Int}{p:Pkt}{s:Nat}(hf:fstIx (isFrom src) n.sides=some s):hearT n src p=if p.epoch=((⟨n,[],[]⟩:Tn).side s).l.epoch∧0<((⟨n,[],[]⟩:Tn).side s).l.epoch then(⟨n,[],[]⟩:Tn).session s p else if(0<n.me∧s=0)∧p.epoch=0 then(⟨n,[],[]⟩:Tn).away p.ack else if asks n p=true then(⟨n,[],[]⟩:Tn).joinedT s p else(⟨n,[],[]⟩:Tn).post s [barePost n]:=by
 unfold hearT;rw[hf]
theorem j_hear {c:Str}{s:Sd}{k:Int}(hc:checkText c=0)(hp:s.peer=1)(h1:1≤k)(h2:k≤1048576)(hk:s.l.epoch<k):
 hearE (jNd c s) 1 (jPk k)=0∧hearT (jNd c s) 1 (jPk k)=⟨jNd c (jSd c k),jPo c k,[]⟩:=by
 have hf:fstIx (isFrom 1) (jNd c s).sides=some 0:=by
  show fstIx (isFrom 1) [s]=some 0
  unfold fstIx;simp[isFrom,hp]
 have hs:(⟨jNd c s,[],[]⟩:Tn).side 0=s:=(⟨jNd c s,[],[]⟩:Tn).side_get 0 (by show 0<1;omega);have ha:asks (jNd c s) (jPk k)=true:=by simp[asks,jPk,jNd]
 have hm:¬((0:Int)<(jNd c s).me∧(0:Nat)=0):=fun h=>absurd h.1 (by show¬(0:Int)<0;omega);constructor
 ·rw[hearE_at (jPk_check h1 h2) hf,hs];refine(if_neg fun h=>?_).trans ((if_neg fun h=>hm h.1).trans ((if_neg fun h=>h.elim hm fun h=>?_).trans (if_pos ⟨ha,rfl⟩)))
  ·have h':k=s.l.epoch:=h.1;omega
  ·have h':k≤s.l.epoch:=h;omega
 ·rw[hearT_at hf,hs];refine(if_neg fun h=>?_).trans ((if_neg fun h=>hm h.1).trans ((if_pos ha).trans ?_))
  ·have h':k=s.l.epoch:=h.1;omega
  have ho:openLk k=⟨k,1,[],[],0⟩:=by unfold openLk;rw[if_neg (by omega)]
  have e1:(⟨jNd c s,[],[]⟩:Tn).open 0 (jPk k)=⟨jNd c ⟨1,true,⟨0,0,[]⟩,⟨k,1,[],[],0⟩⟩,[],[]⟩:=by
   unfold Tn.open;rw[hs,hp]
   show(⟨jNd c s,[],[]⟩:Tn).setSide 0 ⟨1,true,⟨0,0,[]⟩,openLk k⟩=_
   rw[ho];rfl
  have hz:((⟨k,1,[],[],0⟩:Lk)).hearE (jPk k)=0:=by
   unfold Lk.hearE;have:=(openLk_ok h1 h2).1;rw[ho]at this;rw[if_neg (by rw[this];decide),if_neg (by rw[jPk_check h1 h2];decide),if_neg];rintro(h|h)
   ·have h':k=0:=h;omega
   ·exact h rfl
  have ht:((⟨k,1,[],[],0⟩:Lk)).tells (jPk k)=true:=rfl;have hb:((⟨k,1,[],[],0⟩:Lk)).behind (jPk k)=⟨k,1,[],[],1⟩:=rfl;have hL:((⟨k,1,[],[],0⟩:Lk)).hearL (jPk k)=⟨k,1,[],[],1⟩:=by unfold Lk.hearL;rw[if_pos hz,hb];rfl
  have hP:((⟨k,1,[],[],0⟩:Lk)).hearP (jPk k)=[⟨k,0,true,1,bareFr⟩]:=by unfold Lk.hearP;rw[if_pos hz,hb];rfl
  have hT:((⟨k,1,[],[],0⟩:Lk)).told (jPk k)=true:=by unfold Lk.told;rw[if_pos hz];exact ht
  have hF:((⟨k,1,[],[],0⟩:Lk)).hearF (jPk k)=(jPk k).f:=by unfold Lk.hearF;rw[if_pos hT]
  have e2:((⟨jNd c s,[],[]⟩:Tn).open 0 (jPk k)).session 0 (jPk k)=⟨jNd c ⟨1,true,⟨0,0,[]⟩,⟨k,1,[],[],1⟩⟩,[⟨1,⟨k,0,true,1,bareFr⟩⟩],[]⟩:=by
   rw[e1];unfold Tn.session;have hs1:(⟨jNd c ⟨1,true,⟨0,0,[]⟩,⟨k,1,[],[],0⟩⟩,[],[]⟩:Tn).side 0=⟨1,true,⟨0,0,[]⟩,⟨k,1,[],[],0⟩⟩:=rfl;rw[hs1]
   show(if(Lk.mk k 1 [] [] 0).hearE (jPk k)≠0 then _ else if(Lk.mk k 1 [] [] 0).told (jPk k)=true then _ else _)=_
   rw[if_neg (by rw[hz];decide),if_pos hT];unfold Tn.linked;rw[hs1]
   show Tn.told (Tn.post (Tn.setSide _ 0 ⟨1,true,⟨0,0,[]⟩,(Lk.mk k 1 [] [] 0).hearL (jPk k)⟩) 0 ((Lk.mk k 1 [] [] 0).hearP (jPk k))) 0 ((Lk.mk k 1 [] [] 0).hearF (jPk k))=_
   rw[hL,hP,hF];unfold Tn.told;rw[if_neg (fun h=>absurd h.1 (by show¬(2:Int)=1;omega)),if_neg (fun h=>absurd h.1 (by show¬(2:Int)=3;omega))];rfl
  unfold Tn.joinedT;rw[e2]
  show Tn.send _ 0 (wholeFr k c)=_
  unfold Tn.send;have hs2:(⟨jNd c ⟨1,true,⟨0,0,[]⟩,⟨k,1,[],[],1⟩⟩,[⟨1,⟨k,0,true,1,bareFr⟩⟩],[]⟩:Tn).side 0=⟨1,true,⟨0,0,[]⟩,⟨k,1,[],[],1⟩⟩:=rfl;rw[hs2];have hck:(Lk.mk k 1 [] [] 1).check=0:=lk_make (by show 0≤k;omega) h2 (by show(1:Int)≤1;omega) (by show(1:Int)≤1048576;omega) (by show(0:Int)≤1;omega) (by show(1:Int)≤1048576;omega) (by simp) (by show((0:Nat):Int)<1;omega) (fun h=>by simp at h) rfl rfl (fun h=>by have h':k=0:=h;omega);have hsE:(Lk.mk k 1 [] [] 1).sendE (wholeFr k c)=0:=by
   unfold Lk.sendE;rw[if_neg (by rw[hck];decide),if_neg (by show¬k=0;omega),if_neg (by rw[whole_check h1 h2 hc];decide),if_neg (by show¬(1:Int)=1048576;omega)]
  have hpu:(Lk.mk k 1 [] [] 1).push (wholeFr k c)=⟨k,2,[wholeFr k c],[],1⟩:=by
   unfold Lk.push Lk.filled;rw[show fillL ([]:List Fr) ([]++[wholeFr k c]) 1=([wholeFr k c],[],2)from rfl]
  have hsL:(Lk.mk k 1 [] [] 1).sendL (wholeFr k c)=⟨k,2,[wholeFr k c],[],1⟩:=by unfold Lk.sendL;rw[if_pos hsE,hpu]
  have hsP:(Lk.mk k 1 [] [] 1).sendP (wholeFr k c)=[⟨k,1,false,1,wholeFr k c⟩]:=by unfold Lk.sendP;rw[if_pos hsE,hpu];rfl
  show(if(Lk.mk k 1 [] [] 1).sendE (wholeFr k c)=0 then Tn.post (Tn.setSide _ 0 ⟨1,true,⟨0,0,[]⟩,(Lk.mk k 1 [] [] 1).sendL (wholeFr k c)⟩) 0 ((Lk.mk k 1 [] [] 1).sendP (wholeFr k c))else _)=_
  rw[if_pos hsE,hsL,hsP];rfl
theorem j_step {c:Str}{s:Sd}{k b:Int}(h:NG [-1,0] b (jNd c s))(hc:checkText c=0)(hp:s.peer=1)(h1:1≤k)(h2:k≤1048576)(hk:s.l.epoch<k)(hb:2≤b)(hb1:b<900000):NG [-1,0] (b+3) (jNd c (jSd c k)):=by
 have hw:=whole_check h1 h2 hc;have hck:(Lk.mk k 2 [wholeFr k c] [] 1).check=0:=lk_make (by show 0≤k;omega) h2 (by show(1:Int)≤2;omega) (by show(2:Int)≤1048576;omega) (by show(0:Int)≤1;omega) (by show(1:Int)≤1048576;omega) (by show 1≤8;omega) (by show((1:Nat):Int)<2;omega) (fun h=>by simp at h) (by simp[frsOk,hw]) rfl (fun h=>by have h':k=0:=h;omega);exact(h.up (by omega)).setSide (s:=0) (y:=jSd c k) (by show 0<1;omega) (by show(1:Int)=s.peer;omega) (fun h=>absurd h (by show¬(0:Int)<0;omega)) (sideOk_mk (by show edgeCheck 0 0 []=0;decide) hck (fun h=>by cases h) fun _=>⟨sideLast_mk (fun x hx=>by cases hx),rfl,by show 0<k;omega⟩) ⟨by show(0:Int)≤b+3;omega,by show(0:Int)≤b+3;omega,by show(2:Int)+((0:Nat):Int)≤b+3;omega,by show(1:Int)≤b+3;omega⟩
theorem j_late {c:Str}{k q:Int}(h1:1≤q)(hq:q<k)(h2:k≤1048576):hearE (jNd c (jSd c k)) 1 ⟨q,0,true,0,bareFr⟩=12:=by
 have hck:Pkt.check ⟨q,0,true,0,bareFr⟩=0:=by
  show checkPacket q 0 true 0 0 0 0 [] noText=0
  unfold checkPacket;rw[num_in (by omega) (by omega),if_neg (by simp[num]),if_pos rfl,if_neg (by simp[emptyF,emptyS_noText])]
 have hf:fstIx (isFrom 1) (jNd c (jSd c k)).sides=some 0:=rfl;have hm:¬((0:Int)<(jNd c (jSd c k)).me∧(0:Nat)=0):=fun h=>absurd h.1 (by show¬(0:Int)<0;omega);rw[hearE_at hck hf];refine(if_neg fun h=>?_).trans ((if_neg fun h=>hm h.1).trans (if_pos (.inr (by show q≤k;omega))));have h':q=k:=h.1;omega
end Go.Proofs.YtkbfhgcjimfgkaaDoor
set_option linter.unusedSimpArgs false
namespace Go.Proofs.YtkbfhgcjimfgkaaDoor
open Go.RowKit
theorem sd_short {n:Nd}{s:Sd}(h:sideOk n s=true)(hq:s.l.queue.length≤1048576):s.short:=by
 unfold sideOk at h;by_cases h1:edgeCheck s.e.sent s.e.heard s.e.pending=0
 ·rw[if_neg (by simpa using h1)]at h;by_cases h2:s.l.check=0
  ·obtain⟨-,e2,-,-,e3,e4⟩:=edgeCheck_all h1;obtain⟨-,-,-,-,-,-,l1,-,-,l2,l3,-⟩:=lk_zero h2;refine⟨fun o ho=>?_,by omega,fun f hf=>?_,by omega,fun f hf=>?_,hq⟩
   ·have:=(check_zero (e4 o ho)).1;omega
   ·have:=frame_ops l2 f hf;omega
   ·have:=frame_ops l3 f hf;omega
  ·rw[if_pos h2]at h;cases h
 ·rw[if_pos h1]at h;cases h
def NdQ (n:Nd):Prop:=∀s∈n.sides,s.l.queue.length≤1000000
def BegunP (n:Nd)(w:World)(e:Ending)(w':World):Prop:=∃g vs,e=.returned (.tuple #[.pointer (some ⟨g,0,none⟩),.int .i64 0])∧WkM w.heap.size g ⟨n,[],[]⟩ vs w'∧Below w.heap.size w w'
theorem begun {n:Nd}{w w4 W:World}{S1 S2 g:Nat}{v0 v1 v2:Value}(hb:Blk g (.cells #[.int .i64 n.me,.int .i64 n.epoch,.int .i64 n.up,.bool n.ready,.string n.text,v0,v1,v2,.slice none 0 0,.slice none 0 0] 82 (0,0)) W)
 (hg:g=w4.heap.size) (h1:w.heap.size≤S1) (h2:S1≤S2) (h3:S2≤w4.heap.size) (hB:Below w4.heap.size w4 W) (o2:OwnO (fun z=>z<w.heap.size∨S1≤z) w.heap.size v2 n.marks w4) (o0:OwnO (fun z=>z<S1∨S2≤z) S1 v0 n.sides w4) (o1:OwnO (fun z=>z<S2) S2 v1 n.undo w4) (l2:∀k,v2.ownBlock=some k→k<S1) (l0:∀k,v0.ownBlock=some k→k<S2) (hf:n.fits) (hw:2≤w.heap.size):
 WkM w.heap.size g ⟨n,[],[]⟩ (fun j=>match j with|0=>v0|1=>v1|2=>v2|_=>.slice none 0 0) W:=by
 have r0:=o0.rowlt;have r1:=o1.rowlt;have r2:=o2.rowlt;have hX:∀z,WX w.heap.size g (fun j=>match j with|0=>v0|1=>v1|2=>v2|_=>.slice none 0 0) z→z<w.heap.size∨z=g∨v0.ownBlock=some z∨v1.ownBlock=some z∨v2.ownBlock=some z:=by
  rintro z (h|h|⟨j,hj,h⟩)
  ·exact .inl h
  ·exact .inr (.inl h)
  ·match j,hj,h with
   |0,_,h=>exact .inr (.inr (.inl h))
   |1,_,h=>exact .inr (.inr (.inr (.inl h)))
   |2,_,h=>exact .inr (.inr (.inr (.inr h)))
   |3,_,h=>cases h
   |4,_,h=>cases h
 have hk:∀k,k<w4.heap.size→W.heap[k]?=w4.heap[k]?:=fun k hk=>hB.block k hk;have b0:rowOk w.heap.size (WX w.heap.size g (fun j=>match j with|0=>v0|1=>v1|2=>v2|_=>.slice none 0 0)) ⟨n,[],[]⟩ 0 v0 W:=rowOk.keep (j:=0) (X:=fun z=>z<S1∨S2≤z) (o0.low h1) hB.size (fun k hk' _=>hk k hk') (fun k hk' hx=>by
  rcases hX k hx with h|h|h|h|h
  ·exact .inl (.inl (by omega))
  ·omega
  ·exact .inr h
  ·exact .inl (.inr (r1 k h).1)
  ·exact .inl (.inl (l2 k h)))
 have b1:rowOk w.heap.size (WX w.heap.size g (fun j=>match j with|0=>v0|1=>v1|2=>v2|_=>.slice none 0 0)) ⟨n,[],[]⟩ 1 v1 W:=rowOk.keep (j:=1) (X:=fun z=>z<S2) (o1.low (Nat.le_trans h1 h2)) hB.size (fun k hk' _=>hk k hk') (fun k hk' hx=>by
  rcases hX k hx with h|h|h|h|h
  ·exact .inl (show k<S2 by omega)
  ·omega
  ·exact .inl (l0 k h)
  ·exact .inr h
  ·exact .inl (show k<S2 from Nat.lt_of_lt_of_le (l2 k h) h2))
 have b2:rowOk w.heap.size (WX w.heap.size g (fun j=>match j with|0=>v0|1=>v1|2=>v2|_=>.slice none 0 0)) ⟨n,[],[]⟩ 2 v2 W:=rowOk.keep (j:=2) (X:=fun z=>z<w.heap.size∨S1≤z) o2 hB.size (fun k hk' _=>hk k hk') (fun k hk' hx=>by
  rcases hX k hx with h|h|h|h|h
  ·exact .inl (.inl h)
  ·omega
  ·exact .inl (.inr (r0 k h).1)
  ·exact .inl (.inr (Nat.le_trans h2 (r1 k h).1))
  ·exact .inr h)
 refine⟨hb,fun j hj=>?_,by omega,fun i hi z hz=>?_,fun i j hi hj hij z hz e=>?_,hf,hw⟩
 ·match j,hj with
  |0,_=>exact b0
  |1,_=>exact b1
  |2,_=>exact b2
  |3,_=>exact OwnO.nil
  |4,_=>exact OwnO.nil
 ·match i,hi,hz with
  |0,_,hz=>have:=(r0 z hz).2;omega
  |1,_,hz=>have:=(r1 z hz).2;omega
  |2,_,hz=>have:=(r2 z hz).2;omega
  |3,_,hz=>cases hz
  |4,_,hz=>cases hz
 ·match i,j,hi,hj,hij,hz,e with
  |0,1,_,_,_,hz,e=>have:=l0 z hz;have:=(r1 z e).1;omega
  |0,2,_,_,_,hz,e=>have:=l2 z e;have:=(r0 z hz).1;omega
  |1,0,_,_,_,hz,e=>have:=l0 z e;have:=(r1 z hz).1;omega
  |1,2,_,_,_,hz,e=>have:=l2 z e;have:=(r1 z hz).1;omega
  |2,0,_,_,_,hz,e=>have:=l2 z hz;have:=(r0 z e).1;omega
  |2,1,_,_,_,hz,e=>have:=l2 z hz;have:=(r1 z e).1;omega
  |3,_,_,_,_,hz,_=>cases hz
  |4,_,_,_,_,hz,_=>cases hz
  |_,3,_,_,_,_,e=>cases e
  |_,4,_,_,_,_,e=>cases e
  |0,0,_,_,hij,_,_=>exact absurd rfl hij
  |1,1,_,_,hij,_,_=>exact absurd rfl hij
  |2,2,_,_,hij,_,_=>exact absurd rfl hij
  |i+5,_,hi,_,_,_,_=>omega
  |_,j+5,_,hj,_,_,_=>omega
set_option maxRecDepth 100000 in
set_option maxHeartbeats 4000000 in
theorem ndBegin_good (t:List Int)(ta:Option Addr)(tn tc:Nat)(n:Nd)(a:Option Addr)(c:Nat)(ua:Option Addr)(uc:Nat)(ma:Option Addr)(mc:Nat)(w:World)(hg:Good w)(ht:RdS (· <w.heap.size) w t ta tn tc)
 (h1:RdS (· <w.heap.size) w n.sides a n.sides.length c) (h2:RdS (· <w.heap.size) w n.undo ua n.undo.length uc) (h3:RdS (· <w.heap.size) w n.marks ma n.marks.length mc) (hf:n.fits) (hG:NdGood t n) (hQ:NdQ n):
 Calls Tryd.prog 33 #[.slice ta tn tc,.agg #[.int .i64 n.me,.int .i64 n.epoch,.int .i64 n.up,.bool n.ready,.string n.text,.slice a n.sides.length c,.slice ua n.undo.length uc,.slice ma n.marks.length mc]] w (BegunP n w):=by
 have HC:=Lib.hid (fun W (hW:Below w.heap.size w W)=>ndCheck_good t ta tn tc n a c ua uc ma mc W (hg.go hW) (ht.go hW) (h1.go hW) (h2.go hW) (h3.go hW) hf hG);have hsh:∀s∈n.sides,s.short:=fun s hs=>by
  obtain⟨i,hi,rfl⟩:=List.mem_iff_getElem.1 hs;exact sd_short (hG.side i hi).2 (by have:=hQ _ hs;omega)
 have hsl:n.sides.length≤1000:=by
  have h1:=hG.len;have h2:=nbs_len t n.me;have h3:t.length≤7:=by
   have g1:=hG.tree;unfold checkTree at g1;by_cases h:t.length<1∨7<t.length
   ·rw[if_pos h]at g1;exact absurd g1 (by decide)
   ·omega
  omega
 have HO:=Lib.hid (fun W (hW:Below w.heap.size w W)=>ndOwn_any n a c ua uc ma mc W (h1.go hW) (h2.go hW) (h3.go hW) (fun o ho=>by have:=(check_zero (hG.undos.2 o ho)).1;omega) hsh hsl (by have:=hG.undos.1;omega) (by have:=hG.marks1;omega));have hg2:=Lib.hid hg.size;have Hf:=Lib.hid hf;have HP:Hid (∀g vs W,WkM w.heap.size g ⟨n,[],[]⟩ vs W→Below w.heap.size w W→BegunP n w (.returned (.tuple #[.pointer (some ⟨g,0,none⟩),.int .i64 0])) W):=fun g vs W h1 h2=>⟨g,vs,rfl,h1,h2⟩;generalize BegunP n w=RP at*;clear hg ht h1 h2 h3 hf hG hQ hsh hsl;go_enter Tryd.func33,Tryd.ntmps33;go_wp2_with fail;refine abs_run (fun W=>Below w.heap.size w W∧Blk w.heap.size (.cells #[.int .i64 n.me,.int .i64 n.epoch,.int .i64 n.up,.bool n.ready,.string n.text,.slice a n.sides.length c,.slice ua n.undo.length uc,.slice ma n.marks.length mc] 31 (0,0)) W) ⟨(Below.refl _ _).alloc (Nat.le_refl _) _,Blk.new w _⟩ ?_;rintro w1 ⟨b1,x1⟩;have B1:=Lib.hid b1;refine(HC.out _ b1).mono ?_;rintro e w2 ⟨rfl,b2⟩;have B2:=Lib.hid (up b1 b2);have X2:=Lib.hid (x1.go b2);obtain⟨p0,p1,p2,p3,p4,p5,p6,p7⟩:=blk8_cells X2.out;clear b1 b2 x1 HC B1;go_wp2_with fail;refine(HO.out _ B2.out).mono ?_;rintro e w4 ⟨S1,S2,v0,v1,v2,rfl,s1,s2,s3,o2,o0,o1,hb,l2,l0⟩;obtain⟨a0,c0,rfl⟩:=own_app o0;obtain⟨a1,c1,rfl⟩:=own_app o1;obtain⟨a2,c2,rfl⟩:=own_app o2;have hz2:=B2.out.size;have HW:Hid (∀W,Blk w4.heap.size (.cells #[.int .i64 n.me,.int .i64 n.epoch,.int .i64 n.up,.bool n.ready,.string n.text,.slice a0 n.sides.length c0,.slice a1 n.undo.length c1,.slice a2 n.marks.length c2,.slice none 0 0,.slice none 0 0] 82 (0,0)) W→Below w4.heap.size w4 W→∃vs,WkM w.heap.size w4.heap.size ⟨n,[],[]⟩ vs W):=fun W hb' hW=>
  ⟨_,begun (S1:=S1) (S2:=S2) hb' rfl (by omega) s2 s3 hW ((o2.more (fun z hz hx=>by
   rcases hx with hx|hx
   ·exact .inl (by omega)
   ·exact .inr hx)).low hz2) o0 o1 l2 l0 Hf.out hg2.out⟩
 have B4:=Lib.hid (up B2.out hb);clear o0 o1 o2 l2 l0 s1 s2 s3 hb HO X2 p0 p1 p2 p3 p4 p5 p6 p7;go_wp2_with fail;obtain⟨vs,h⟩:=HW.out (w4.alloc _) (Blk.new w4 _) ((Below.refl _ _).alloc (Nat.le_refl _) _);exact HP.out _ vs _ h (B4.out.alloc B4.out.size _)
end Go.Proofs.YtkbfhgcjimfgkaaDoor
set_option linter.unusedSimpArgs false
namespace Go.Proofs.YtkbfhgcjimfgkaaDoor
open Go.RowKit
def TurnE (E:Int)(t:Tn)(w:World)(e:Ending)(w':World):Prop:=if E=0 then TurnP t w e w' else e=.returned (.tuple #[.agg zeroTn,.int .i64 E])∧Below w.heap.size w w'
theorem NdB.queue {t:List Int}{n:Nd}{b:Int}(h:NdB b n)(hG:NdGood t n)(hb:b<1000000):NdQ n:=by
 intro s hs;obtain⟨-,-,h3,-⟩:=h s hs;obtain⟨i,hi,rfl⟩:=List.getElem_of_mem hs;obtain⟨-,h4,-⟩:=sideOk_all (hG.side i hi).2;have:=(lk_zero h4).2.2.1;omega
theorem good_len {t:List Int}{n:Nd}(hG:NdGood t n):n.sides.length≤8:=by
 have h1:=hG.len;have h2:=nbs_len t n.me;have h3:t.length≤7:=by
  have g1:=hG.tree;unfold checkTree at g1;by_cases h:t.length<1∨7<t.length
  ·rw[if_pos h]at g1;exact absurd g1 (by decide)
  ·omega
 omega
theorem WkM.nm {α:Type} [Rep α] {base g:Nat}{t:Tn}{vs:Nat→Value}{w w0:World}{l:List α}{a:Option Addr}{n c:Nat}(h:WkM base g t vs w)(hr:RdS (· <w0.heap.size) w0 l a n c)(hb:Below w0.heap.size w0 w)(hB:w0.heap.size≤base):RdS (NM g vs w) w l a n c:=
 hr.mono fun z hz=>⟨⟨Nat.lt_of_lt_of_le hz hb.size,fun hm=>by have:=(h.mine z hm).1;have hz':z<w0.heap.size:=hz;omega⟩,hb.block z hz⟩
end Go.Proofs.YtkbfhgcjimfgkaaDoor
