/- The walk of a turn's edit, refused or not; a turn or a refusal as a result. -/
import Derived.Test.YtkbfhgcjimfgkaaDoorPartC5
import Derived.Test.YtkbfhgcjimfgkaaDoorPartB3
import Derived.Test.YtkbfhgcjimfgkaaDoorPartA7
import Derived.BigQuiet
import Derived.Test.YtkbfhgcjimfgkaaDoorPartC4
import Derived.Test.YtkbfhgcjimfgkaaDoorPartA6
import Derived.Test.YtkbfhgcjimfgkaaDoorPartC2
import Derived.Test.YtkbfhgcjimfgkaaDoorPartB1
import Derived.Test.YtkbfhgcjimfgkaaDoorPartC1
set_option linter.unusedVariables false
set_option linter.unusedSimpArgs false
set_option linter.unusedSimpArgs false
namespace Go.Proofs.YtkbfhgcjimfgkaaDoor
open Go.RowKit
theorem num_of {x:Int}(h:num x=true):0≤x∧x≤1048576:=by
 unfold num at h;simpa using h
theorem pkt_all {p:Pkt}(h:p.check=0):(0≤p.epoch∧p.epoch≤1048576)∧(0≤p.ack∧p.ack≤1048576)∧(p.bare=false→1≤p.epoch∧1≤p.number∧p.f.check=0):=by
 unfold Pkt.check checkPacket at h;by_cases h1:num p.epoch=false∨num p.number=false∨num p.ack=false
 ·rw[if_pos h1]at h;exact absurd h (by decide)
 ·rw[if_neg h1]at h;have n1:num p.epoch=true:=by cases hh:num p.epoch with|true=>rfl|false=>exact absurd (.inl hh) h1
  have n3:num p.ack=true:=by cases hh:num p.ack with|true=>rfl|false=>exact absurd (.inr (.inr hh)) h1
  refine⟨num_of n1,num_of n3,fun hb=>?_⟩;rw[if_neg (by simp[hb])]at h;by_cases h2:p.number<1∨p.epoch<1
  ·rw[if_pos h2]at h;exact absurd h (by decide)
  ·rw[if_neg h2]at h;exact⟨by omega,by omega,h⟩
theorem fr_all {f:Fr}(h:f.check=0):check f.op=0∧checkText f.text=0∧0≤f.heard∧0≤f.epoch∧f.epoch≤1048576:=by
 unfold Fr.check checkFrame at h;by_cases h1:f.kind<1∨3<f.kind
 ·rw[if_pos h1]at h;exact absurd h (by decide)
 ·rw[if_neg h1]at h;by_cases h2:num f.heard=false∨num f.epoch=false
  ·rw[if_pos h2]at h;exact absurd h (by decide)
  ·rw[if_neg h2]at h;have n1:num f.heard=true:=by cases hh:num f.heard with|true=>rfl|false=>exact absurd (.inl hh) h2
   have n2:num f.epoch=true:=by cases hh:num f.epoch with|true=>rfl|false=>exact absurd (.inr hh) h2
   by_cases h3:check f.op=0
   ·rw[if_neg (by simpa using h3)]at h;by_cases h4:checkText f.text=0
    ·exact⟨h3,h4,(num_of n1).1,(num_of n2).1,(num_of n2).2⟩
    ·rw[if_pos h4]at h;exact absurd h h4
   ·rw[if_pos h3]at h;exact absurd h h3
theorem hearL_ok {l:Lk}{p:Pkt}{b:Int}(h:l.hearE p=0)(hb:l.next+l.queue.length≤b)(hb1:b<1000000):(l.hearL p).check=0∧(l.hearL p).epoch=l.epoch∧(l.hearL p).next+(l.hearL p).queue.length≤b∧(l.hearL p).heard≤l.heard+1∧0<l.epoch:=by
 obtain⟨h1,h2,h3,h4⟩:=hearE_zero h;obtain⟨a1,a2,a3,a4,a5,a6,a7,a8,a9,a10,a11,a12⟩:=lk_zero h1;have hL:l.hearL p=(l.behind p).filled:=by unfold Lk.hearL;rw[if_pos h]
 obtain⟨s1,s2⟩:=l.acked_sub p.ack;have hF:Filled (l.behind p) (l.behind p).filled:=Lk.filled_all _ (by show(l.acked p.ack).length≤8;omega) a4;have hh:0≤(l.behind p).heard∧(l.behind p).heard≤1048576∧(l.behind p).heard≤l.heard+1:=by
  show 0≤(if l.tells p=true then l.heard+1 else l.heard)∧(if l.tells p=true then l.heard+1 else l.heard)≤1048576∧(if l.tells p=true then l.heard+1 else l.heard)≤l.heard+1
  split
  ·rename_i ht;unfold Lk.tells at ht;simp only[Bool.and_eq_true,decide_eq_true_eq]at ht;omega
  ·omega
 have hfr:frsOk ((l.behind p).sent++(l.behind p).queue)=true:=by
  show frsOk (l.acked p.ack++l.queue)=true
  rw[frsOk_append,a11,Bool.and_true];unfold frsOk at a10⊢;rw[List.all_eq_true]at a10⊢;exact fun f hf=>a10 f (s1 f hf)
 rw[hL];have hck:=hF.check a1 a2 a3 hh.1 hh.2.1 (by show((l.acked p.ack).length:Int)<l.next;omega) hfr (by show l.next+(l.queue.length:Int)<1048576;omega) h3;refine⟨hck,hF.ep,?_,?_,by omega⟩
 ·have e1:=congrArg List.length hF.all;have e2:=hF.nx;simp only[List.length_append]at e1;have e3:(l.behind p).next=l.next:=rfl
  have e4:(l.behind p).queue=l.queue:=rfl;rw[e3]at e2;rw[e4]at e1;have:=hF.more;omega
 ·rw[hF.he];exact hh.2.2
def NG (tr:List Int)(b:Int)(n:Nd):Prop:=NdGood tr n∧NdB b n
section
variable {tr:List Int} {b c:Int} {n:Nd} {t:Tn}
theorem NG.up (h:NG tr b n)(hc:b≤c):NG tr c n:=⟨h.1,fun s hs=>(h.2 s hs).up hc⟩
theorem sideOk_same {n n':Nd}{s:Sd}(h1:n'.text=n.text)(h2:n'.ready=n.ready):sideOk n' s=sideOk n s:=by
 unfold sideOk sideLast;rw[h1,h2]
theorem NG.setSide {s:Nat}{y:Sd}(h:NG tr b n)(hs:s<n.sides.length)(hp:y.peer=n.sides[s].peer)(hj:0<n.me→s=0→y.joined=n.sides[s].joined)(hk:sideOk n y=true)(hb:SdB b y):NG tr b {n with sides:=n.sides.set s y}:=by
 obtain⟨hG,hB⟩:=h;have key:∀i (hi:i<(n.sides.set s y).length),(n.sides.set s y)[i]=if s=i then y else n.sides[i]'(by simpa using hi):=fun i hi=>List.getElem_set hi;refine⟨⟨hG.tree,hG.me0,hG.me1,hG.ep0,hG.ep1,hG.up0,hG.up1,hG.upr,hG.text,(List.length_set ..).trans hG.len,hG.undo,hG.marks1,hG.away,fun i hi=>?_,fun hm sd hsd=>?_,hG.mark⟩,fun x hx=>?_⟩
 ·have hi':i<n.sides.length:=by simpa using hi
  have e:=key i hi;have g:=hG.side i hi';have hso:∀x,sideOk {n with sides:=n.sides.set s y} x=sideOk n x:=fun x=>sideOk_same rfl rfl
  show(nbs tr n.me)[i]?=some (n.sides.set s y)[i].peer∧sideOk {n with sides:=n.sides.set s y} (n.sides.set s y)[i]=true
  rw[hso,e];by_cases hsi:s=i
  ·subst hsi;rw[if_pos rfl,hp];exact⟨g.1,hk⟩
  ·rw[if_neg hsi];exact g
 ·have h0:0<n.sides.length:=by omega
  have hsd':(n.sides.set s y)[0]?=some sd:=hsd;have e:=key 0 (by simpa using h0);rw[List.getElem?_eq_getElem (by simpa using h0),e]at hsd';injection hsd' with hsd';have g:=hG.top hm _ (List.getElem?_eq_getElem h0)
  show sd.joined=n.ready
  rw[←hsd'];by_cases hsi:s=0
  ·subst hsi;rw[if_pos rfl,hj hm rfl];exact g
  ·rw[if_neg hsi];exact g
 ·rcases List.mem_or_eq_of_mem_set hx with h1|rfl
  ·exact hB x h1
  ·exact hb
theorem NG.at (h:NG tr b t.node){s:Nat}(hs:s<t.node.sides.length):sideOk t.node (t.side s)=true∧SdB b (t.side s)∧t.side s=t.node.sides[s]:=by
 rw[t.side_get s hs];exact⟨(h.1.side s hs).2,h.2 _ (List.getElem_mem hs),rfl⟩
theorem NG.linked {s:Nat}{p:Pkt}(h:NG tr b t.node)(hs:s<t.node.sides.length)(hb:b<1000000)(hE:(t.side s).l.hearE p=0):NG tr (b+1) (t.linked s p).node:=by
 obtain⟨h1,h2,h3⟩:=h.at hs;obtain⟨k1,k2,k3,k4⟩:=sideOk_all h1;obtain⟨l1,l2,l3,l4,l5⟩:=hearL_ok hE h2.2.2.1 hb;refine(h.up (by omega)).setSide hs (by rw[←h3]) (fun _ _=>by rw[←h3]) (sideOk_mk k1 l1 k3 fun hj=>?_) ⟨by have:=h2.1;show(t.side s).e.sent≤b+1;omega,by have:=h2.2.1;show(t.side s).e.heard≤b+1;omega,by show((t.side s).l.hearL p).next+((t.side s).l.hearL p).queue.length≤b+1;omega,by show((t.side s).l.hearL p).heard≤b+1;have:=h2.2.2.2;omega⟩;obtain⟨q1,q2,q3⟩:=k4 hj;exact⟨sideLast_mk (sideLast_eq q1),q2,by show 0<((t.side s).l.hearL p).epoch;omega⟩
theorem overR_ok:∀(l:List Op)(o:Op)(l':List Op),undoFrom (sumF o) l=true→overR o l=some l'→undoFrom (sumT o) l'=true∧l'.length=l.length
 |[],o,l',_,h=>by
  injection h with h;subst h;exact⟨rfl,rfl⟩
 |q::r,o,l',hu,h=>by
  obtain⟨u1,u2,u3⟩:=undoFrom_head hu;unfold overR at h;by_cases hE:trE o q=0
  ·rw[if_neg (by simpa using hE)]at h;obtain⟨-,-,-,c1,c2,eA,eB⟩:=trE_inv hE;obtain⟨f1,f2,f3,-,-⟩:=trE_laws hE;cases hr:overR (trA o q) r with
   |none=>rw[hr]at h;cases h
   |some l2=>
    rw[hr]at h;injection h with h;subst h;obtain⟨i1,i2⟩:=overR_ok r (trA o q) l2 (by rw[eA,f1];exact u3) hr;refine⟨undoFrom_cons (by rw[eB];exact c2) (by rw[eB];exact f2) ?_,by simp[i2]⟩;rw[eB,←f3,←eA];exact i1
  ·rw[if_pos hE]at h;cases h
theorem overU_ok {n n':Nd}{o:Op}(h:undoOk n=true)(hF:sumF o=rc n.text)(hT:rc n'.text=sumT o)(hu:n'.undo=overU o n.undo):undoOk n'=true:=by
 obtain⟨k1,k2⟩:=undoOk_all h;rw[←hF]at k1;cases hr:overR o n.undo.reverse with
 |none=>
  have e:n'.undo=[]:=by rw[hu];unfold overU;rw[hr];rfl
  refine undoOk_mk ?_ ?_<;>rw[e]
  ·rfl
  ·simp
 |some l=>
  have e:n'.undo=l.reverse:=by rw[hu];unfold overU;rw[hr];rfl
  obtain⟨i1,i2⟩:=overR_ok _ _ _ k1 hr;refine undoOk_mk ?_ ?_
  ·rw[e,List.reverse_reverse,hT];exact i1
  ·rw[e,List.length_reverse,i2,List.length_reverse];exact k2
theorem heardE_zero {t:Tn}{s:Nat}{f:Fr}(h:t.heardE s f=0):ehE0 (t.side s).e.sent (t.side s).e.heard (t.side s).e.pending f.op f.heard=0∧foldE (t.upper s) (ehD (t.side s).e.sent (t.side s).e.pending f.heard) f.op=0:=by
 unfold Tn.heardE ehE at h;by_cases h1:ehE0 (t.side s).e.sent (t.side s).e.heard (t.side s).e.pending f.op f.heard=0
 ·rw[if_neg (by simpa using h1)]at h;exact⟨h1,h⟩
 ·rw[if_pos h1]at h;exact absurd h h1
theorem take_node (t:Tn)(s:Nat)(f:Fr):(t.take s f).node={t.node with text:=applyS t.node.text (t.heardO s f),undo:=overU (t.heardO s f) t.node.undo,marks:=t.node.marks.map (mvM false (t.heardO s f)),sides:=t.node.sides.set s {t.side s with e:=t.heardX s f}}:=rfl
theorem take_ok {s:Nat}{f:Fr}(h:NG tr b t.node)(hs:s<t.node.sides.length)(hj:(t.side s).joined=true)(hE:t.heardE s f=0)(hA:applyE t.node.text (t.heardO s f)=0)(hb:b<1000000):
 sideOk (t.take s f).node {t.side s with e:=t.heardX s f}=true∧SdB (b+1) {t.side s with e:=t.heardX s f}∧check (t.heardO s f)=0∧sumF (t.heardO s f)=rc t.node.text∧rc (t.take s f).node.text=sumT (t.heardO s f)∧checkText (t.take s f).node.text=0∧t.node.ready=true:=by
 obtain⟨h1,h2,h3⟩:=h.at hs;obtain⟨k1,k2,-,k4⟩:=sideOk_all h1;obtain⟨q1,q2,q3⟩:=k4 hj;obtain⟨e1,e2⟩:=heardE_zero hE;obtain⟨g1,g2,g3,g4,g5⟩:=ehE0_zero e1;obtain⟨a0,a1,a2⟩:=applyE_zero hA;obtain⟨-,-,-,a4,a5,-⟩:=apply_good a0 a1 a2;obtain⟨z1,z2,z3,z4,z5,z6⟩:=edgeCheck_zero k1;obtain⟨b1,b2,b3,b4⟩:=h2;have hlen:((t.heardX s f).pending.length:Int)≤(t.side s).e.sent:=by
  show((foldL _ (ehD _ _ _) f.op).length:Int)≤_
  rw[foldL_length];unfold ehD;rw[List.length_drop];omega
 refine⟨sideOk_mk ?_ k2 (fun h'=>?_) (fun _=>⟨sideLast_mk fun x hx=>?_,q2,q3⟩),⟨by show(t.side s).e.sent≤b+1;omega,by show(t.side s).e.heard+1≤b+1;omega,by show(t.side s).l.next+(t.side s).l.queue.length≤b+1;omega,by show(t.side s).l.heard≤b+1;omega⟩,a1,a2,a4,a5,q2⟩
 ·exact edge_mk z1 z2 (by show 0≤(t.side s).e.heard+1;omega) (by show(t.side s).e.heard+1≤1048576;omega) hlen (chain_fold _ _ _ _ e2 fun t ht=>by cases ht)
 ·have h':(t.side s).joined=false:=h';rw[hj]at h';cases h'
 ·show rc (applyS t.node.text (t.heardO s f))=x
  have hx':lastT (foldL (t.upper s) (ehD (t.side s).e.sent (t.side s).e.pending f.heard) f.op)=some x:=hx;rw[a4];rcases last_fold (t.upper s) _ _ e2 with h|h
  ·rw[h]at hx';cases hx'
  ·rw[h]at hx';injection hx'
theorem NG.heard {s:Nat}{f:Fr}(h:NG tr b t.node)(hs:s<t.node.sides.length)(hj:(t.side s).joined=true)(hb:b<1000000):NG tr (b+1) (t.heard s f).node:=by
 unfold Tn.heard;by_cases hE:t.heardE s f=0
 ·rw[if_neg (by simpa using hE)];by_cases hA:applyE t.node.text (t.heardO s f)=0
  ·rw[if_neg (by simpa using hA)];obtain⟨k1,k2,k3,k4,k5,k6,k7⟩:=take_ok h hs hj hE hA hb;have hN:=take_node t s f;have hat:=forward_at (t.take s f) (t.heardO s f) (s:Int);have hln:=forward_len (t.take s f) (t.heardO s f) (s:Int);have hnd:=forward_node (t.take s f) (t.heardO s f) (s:Int);obtain⟨hG,hB⟩:=h;have hsl:(t.take s f).node.sides.length=t.node.sides.length:=by rw[hN];exact List.length_set ..
   have hrd:(t.take s f).node.ready=true:=by rw[hN];exact k7
   generalize hS:((t.take s f).forward (t.heardO s f) (s:Int))=T at*;have hsd:∀i (hi:i<T.node.sides.length),sideOk T.node T.node.sides[i]=true∧SdB (b+1) T.node.sides[i]∧T.node.sides[i].peer=(t.node.sides[i]'(by omega)).peer∧T.node.sides[i].joined=(t.node.sides[i]'(by omega)).joined:=by
    intro i hi;have hi1:i<(t.take s f).node.sides.length:=by omega
    have hi2:i<t.node.sides.length:=by omega
    have e:=hat i hi1;rw[T.side_get i hi,(t.take s f).side_get i hi1]at e;have e2:(t.take s f).node.sides[i]=if s=i then {t.side s with e:=t.heardX s f}else t.node.sides[i]:=List.getElem_set hi1;rw[e2]at e;rw[sideOk_same (n:=(t.take s f).node) (by rw[hnd]) (by rw[hnd]),e];by_cases hsi:s=i
    ·subst hsi;rw[if_pos rfl,if_pos (.inl rfl)];refine⟨k1,k2,?_,?_⟩
     ·show(t.side s).peer=_
      rw[t.side_get s hi2]
     ·show(t.side s).joined=_
      rw[t.side_get s hi2]
    ·rw[if_neg hsi];have g:=(hG.side i hi2).2;have gb:=hB _ (List.getElem_mem hi2);by_cases hji:t.node.sides[i].joined=true
     ·rw[if_neg (by simp[hji];omega)];obtain⟨m1,m2⟩:=told_ok (n':=(t.take s f).node) g hji k3 k4 k5 hrd gb hb;exact⟨m1,m2,rfl,rfl⟩
     ·have hji':t.node.sides[i].joined=false:=by simpa using hji
      rw[if_pos (.inr hji')];exact⟨idle_ok g hji',gb.up (by omega),rfl,rfl⟩
   refine⟨⟨hG.tree,?_,?_,?_,?_,?_,?_,?_,?_,?_,?_,?_,?_,fun i hi=>⟨?_,(hsd i hi).1⟩,fun hm sd hsd0=>?_,?_⟩,fun x hx=>?_⟩
   ·rw[hnd,hN];exact hG.me0
   ·rw[hnd,hN];exact hG.me1
   ·rw[hnd,hN];exact hG.ep0
   ·rw[hnd,hN];exact hG.ep1
   ·rw[hnd,hN];exact hG.up0
   ·rw[hnd,hN];exact hG.up1
   ·rw[hnd,hN];exact hG.upr
   ·rw[hnd];exact k6
   ·rw[hln,hsl,hnd,hN];exact hG.len
   ·exact overU_ok (n:=t.node) (o:=t.heardO s f) hG.undo k4 (by rw[hnd];exact k5) (by rw[hnd,hN])
   ·rw[hnd,hN];show(t.node.marks.map _).length≤1;rw[List.length_map];exact hG.marks1
   ·intro hr;rw[hnd]at hr;have hr':(t.take s f).node.ready=false:=hr;rw[hrd]at hr';cases hr'
   ·rw[(hsd i hi).2.2.1];have hme:T.node.me=t.node.me:=by rw[hnd,hN]
    rw[hme];exact(hG.side i (by omega)).1
   ·obtain⟨h0,h1⟩:=List.getElem?_eq_some_iff.1 hsd0;have g:=hG.top (by rw[hnd,hN]at hm;exact hm) _ (List.getElem?_eq_getElem (show 0<t.node.sides.length by omega));rw[←h1,(hsd 0 h0).2.2.2,g];rw[hnd,hN]
   ·have e1:T.node.text=(t.take s f).node.text:=by rw[hnd]
    have e2:T.node.marks=t.node.marks.map (mvM false (t.heardO s f)):=by rw[hnd,hN]
    rw[e1,e2];exact marks_moved k3 k5
   ·obtain⟨i,hi,rfl⟩:=List.getElem_of_mem hx;exact(hsd i hi).2.1
  ·rw[if_pos hA];exact h.up (by omega)
 ·rw[if_pos hE];exact h.up (by omega)
theorem NG.whole {f:Fr}(h:NG tr b t.node)(hs:0<t.node.sides.length)(hm:0<t.node.me)(hj:(t.side 0).joined=false)(hf:checkText f.text=0)(hep:0<(t.side 0).l.epoch):NG tr b (t.whole 0 f).node:=by
 obtain⟨h1,h2,h3⟩:=h.at hs;obtain⟨k1,k2,k3,-⟩:=sideOk_all h1;obtain⟨hG,hB⟩:=h;have hnr:t.node.ready=false:=by
  have:=hG.top hm _ (List.getElem?_eq_getElem hs);rw[←this,←h3];exact hj
 obtain⟨w1,w2,w3,-⟩:=hG.away hnr;obtain⟨z1,z2,z3,z4,z5,z6⟩:=edgeCheck_zero k1;have hz:=k3 hj;have hp0:(t.side 0).e.pending=[]:=by
  have:(t.side 0).e.pending.length=0:=by omega
  exact List.eq_nil_of_length_eq_zero this
 have hN:(t.whole 0 f).node={t.node with ready:=true,text:=f.text,sides:=t.node.sides.set 0 {t.side 0 with joined:=true}}:=rfl;have hj0:sideOk (t.whole 0 f).node {t.side 0 with joined:=true}=true:=by
  refine sideOk_mk k1 k2 (fun h=>by cases h) fun _=>⟨sideLast_mk fun x hx=>?_,rfl,hep⟩;have hx':lastT (t.side 0).e.pending=some x:=hx;rw[hp0]at hx';cases hx'
 have hsd:∀i (hi:i<(t.whole 0 f).node.sides.length),sideOk (t.whole 0 f).node (t.whole 0 f).node.sides[i]=true∧SdB b (t.whole 0 f).node.sides[i]∧(t.whole 0 f).node.sides[i].peer=(t.node.sides[i]'(by rw[hN]at hi;simpa using hi)).peer:=by
  intro i hi;have hi2:i<t.node.sides.length:=by rw[hN]at hi;simpa using hi
  have e2:(t.whole 0 f).node.sides[i]=if 0=i then {t.side 0 with joined:=true}else t.node.sides[i]:=List.getElem_set hi;rw[e2];by_cases h0:0=i
  ·subst h0;rw[if_pos rfl];exact⟨hj0,h2,by rw[←h3]⟩
  ·rw[if_neg h0];have g:=(hG.side i hi2).2;have gj:t.node.sides[i].joined=false:=by
    cases hh:t.node.sides[i].joined with
    |false=>rfl
    |true=>
     have:=((sideOk_all g).2.2.2 hh).2.1;rw[hnr]at this;cases this
   exact⟨idle_ok g gj,hB _ (List.getElem_mem hi2),rfl⟩
 refine⟨⟨hG.tree,hG.me0,hG.me1,hG.ep0,hG.ep1,hG.up0,hG.up1,hG.upr,hf,(List.length_set ..).trans hG.len,?_,?_,(fun h=>by cases h),fun i hi=>⟨?_,(hsd i hi).1⟩,fun _ sd hsd0=>?_,?_⟩,fun x hx=>?_⟩
 ·refine undoOk_mk ?_ ?_
  ·show undoFrom _ t.node.undo.reverse=true
   rw[w2];rfl
  ·show t.node.undo.length≤12
   rw[w2];simp
 ·show t.node.marks.length≤1
  rw[w3];simp
 ·rw[(hsd i hi).2.2];exact(hG.side i (by rw[hN]at hi;simpa using hi)).1
 ·have e:(t.node.sides.set 0 {t.side 0 with joined:=true})[0]?=some {t.side 0 with joined:=true}:=by
   rw[List.getElem?_set_self hs]
  have hsd1:(t.node.sides.set 0 {t.side 0 with joined:=true})[0]?=some sd:=hsd0;rw[e]at hsd1;injection hsd1 with hsd1;rw[←hsd1];rfl
 ·intro m hm;have hm':m∈t.node.marks:=hm;rw[w3]at hm';cases hm'
 ·obtain⟨i,hi,rfl⟩:=List.getElem_of_mem hx;exact(hsd i hi).2.1
theorem NG.told {s:Nat}{f:Fr}(h:NG tr b t.node)(hs:s<t.node.sides.length)(hb:b<1000000)(hf:checkText f.text=0)(hep:0<(t.side s).l.epoch):NG tr (b+1) (t.told s f).node:=by
 unfold Tn.told;split
 ·rename_i hc;exact h.heard hs hc.2 hb
 ·split
  ·rename_i hc;obtain⟨c1,rfl,c3,c4,c5⟩:=hc;exact(h.whole hs c3 c4 hf hep).up (by omega)
  ·exact h.up (by omega)
theorem NG.session {s:Nat}{p:Pkt}(h:NG tr b t.node)(hs:s<t.node.sides.length)(hb:b<900000):NG tr (b+2) (t.session s p).node:=by
 unfold Tn.session;by_cases hE:(t.side s).l.hearE p=0
 ·rw[if_neg (by simpa using hE)];have hL:=h.linked (p:=p) hs (by omega) hE;obtain⟨k1,k2,k3,k4⟩:=hearE_zero hE;split
  ·rename_i ht;have hF:(t.side s).l.hearF p=p.f:=by unfold Lk.hearF;rw[if_pos ht]
   have hbare:p.bare=false:=by
    unfold Lk.told at ht;rw[if_pos hE]at ht;unfold Lk.tells at ht;simp only[Bool.and_eq_true]at ht;simpa using ht.1.1
   have hfr:=(pkt_all k2).2.2 hbare;have hs2:s<(t.linked s p).node.sides.length:=by show s<(t.node.sides.set s _).length;rw[List.length_set];exact hs
   rw[hF];obtain⟨h1,h2,-⟩:=h.at hs;obtain⟨-,e2,-,-,e5⟩:=hearL_ok hE h2.2.2.1 (by omega);have:=hL.told hs2 (by omega) (fr_all hfr.2.2).2.1 (by
    have:(t.linked s p).side s={t.side s with l:=(t.side s).l.hearL p}:=side_set t s _ hs;rw[this]
    show 0<((t.side s).l.hearL p).epoch
    omega)
   exact this.up (by omega)
  ·exact hL.up (by omega)
 ·rw[if_pos hE];exact h.up (by omega)
theorem told_len (t:Tn)(s:Nat)(f:Fr):(t.told s f).node.sides.length=t.node.sides.length:=by
 unfold Tn.told;split
 ·unfold Tn.heard;split
  ·rfl
  ·split
   ·rfl
   ·rw[forward_len,take_node];exact List.length_set ..
 ·split
  ·exact List.length_set ..
  ·rfl
theorem session_len (t:Tn)(s:Nat)(p:Pkt):(t.session s p).node.sides.length=t.node.sides.length:=by
 unfold Tn.session;split
 ·rfl
 ·split
  ·rw[told_len];exact List.length_set ..
  ·exact List.length_set ..
theorem openLk_ok {ep:Int}(h1:1≤ep)(h2:ep≤1048576):(openLk ep).check=0∧(openLk ep).epoch=ep∧(openLk ep).next=1∧(openLk ep).queue=[]∧(openLk ep).heard=0:=by
 have e:openLk ep=⟨ep,1,[],[],0⟩:=by unfold openLk;rw[if_neg (by omega)]
 rw[e];refine⟨lk_make (by show 0≤ep;omega) h2 (by show(1:Int)≤1;omega) (by show(1:Int)≤1048576;omega) (by show(0:Int)≤0;omega) (by show(0:Int)≤1048576;omega) (by simp) (by show((0:Nat):Int)<1;omega) (fun h=>by simp at h) rfl rfl (fun h=>?_),rfl,rfl,rfl,rfl⟩;have h':ep=0:=h;omega
theorem NG.opened {s:Nat}{p:Pkt}(h:NG tr b t.node)(hs:s<t.node.sides.length)(hr:t.node.ready=true)(h1:1≤p.epoch)(h2:p.epoch≤1048576)(hm:¬(0<t.node.me∧s=0))(hb:1≤b):NG tr b (t.open s p).node:=by
 obtain⟨o1,o2,o3,o4,o5⟩:=openLk_ok h1 h2;refine h.setSide hs (by rw[t.side_get s hs]) (fun h1 h2=>absurd ⟨h1,h2⟩ hm) (sideOk_mk (by show edgeCheck 0 0 []=0;decide) o1 (fun h=>by cases h) fun _=>⟨sideLast_mk (fun x hx=>by cases hx),hr,by show 0<(openLk p.epoch).epoch;omega⟩) ⟨by show(0:Int)≤b;omega,by show(0:Int)≤b;omega,by show(openLk p.epoch).next+((openLk p.epoch).queue.length:Int)≤b;rw[o3,o4];simp;omega,by show(openLk p.epoch).heard≤b;omega⟩
theorem fstIx_lt {α:Type}{p:α→Bool}:∀{l:List α}{k:Nat},fstIx p l=some k→∃h:k<l.length,p l[k]=true
 |[],_,h=>by cases h
 |x::l,k,h=>by
  unfold fstIx at h;by_cases hx:p x=true
  ·rw[if_pos hx]at h;injection h with h;subst h;exact⟨by simp,hx⟩
  ·rw[if_neg hx]at h;cases hr:fstIx p l with
   |none=>rw[hr]at h;cases h
   |some j=>
    rw[hr]at h;injection h with h;subst h;obtain⟨h1,h2⟩:=fstIx_lt hr;exact⟨by simp;omega,by simpa using h2⟩
end
end Go.Proofs.YtkbfhgcjimfgkaaDoor
set_option linter.unusedSimpArgs false
namespace Go.Proofs.YtkbfhgcjimfgkaaDoor
open Go.RowKit
set_option maxRecDepth 100000 in
set_option maxHeartbeats 2000000 in
theorem sameOp_ok (o:Op)(a b:Option Addr)(n c m d:Nat)(w:World)(h1:RdS (· <w.heap.size) w o a n c)(h2:RdS (· <w.heap.size) w o b m d):
 Calls Tryd.prog 23 #[.slice a n c,.slice b m d] w fun e w'=>e=.returned (.bool true)∧Below w.heap.size w w':=by
 obtain rfl:n=m:=h1.1.trans h2.1.symm;have hnl:n=o.length:=h1.1;have hnm:n≤maxLen:=by have h3:=h1.2.1;have h4:=h1.2.2.1;omega
 unfold maxLen at hnm;have hne:((n:Int) !=(n:Int))=false:=by simp
 have H1:=Lib.hid h1;have H2:=Lib.hid h2;have Hl:=Lib.hid hnl;clear h1 h2 hnl;go_enter Tryd.func23,Tryd.ntmps23;go_wp2_with fail;go_loopw [13] (fun i wr=>∃k:Nat,k≤n∧i=.int .i64 k∧Below w.heap.size w wr) (fun i _=>n-(intOf i).toNat)
 case atStart=>exact⟨0,by omega,rfl,Below.refl _ _⟩
 case round=>
  obtain⟨k,hk,rfl,hb⟩:=hrel;by_cases hlt:k<n
  ·have r1:=H1.out.go hb;have r2:=H2.out.go hb;obtain⟨b1,off1,rfl,_,hbs1,hcs1⟩:=r1.part (by omega);obtain⟨b2,off2,rfl,_,hbs2,hcs2⟩:=r2.part (by omega);have hkl:k<o.length:=by have:=Hl.out;omega
   obtain⟨hk64,hn64,ht,c0,c1,c2⟩:=hcs1 k hkl;obtain⟨-,-,-,d0,d1,d2⟩:=hcs2 k hkl;generalize o[k]=p at*;obtain⟨pk,pn,pt⟩:=p;simp only at c0 c1 c2 d0 d1 d2 hk64 hn64 ht;have HB:=Lib.hid hb;clear r1 r2 hcs1 hcs2 hb hkl;have hkn:(k:Int)<(n:Int):=by omega
   go_wp2_with fail;go_quiet (fail);go_wp2_with fail;go_roundw
   case rel=>exact⟨k+1,by omega,by go_num,by first|exact HB.out|exact HB.out.drew|exact below_drewN HB.out _⟩
   case measure=>simp[intOf];omega
  ·have hkn:k=n:=by omega
   subst hkn;have HB:=Lib.hid hb;clear hb;go_wp2_with fail
   go_ret
   exact⟨rfl,HB.out⟩
end Go.Proofs.YtkbfhgcjimfgkaaDoor
set_option linter.unusedSimpArgs false
namespace Go.Proofs.YtkbfhgcjimfgkaaDoor
open Go.RowKit
theorem full_short {n:Nd}{o:Op}(h1:sumT o≤300)(h2:n.sides.any isFull=false):(⟨n,[],[]⟩:Tn).full o=false:=by
 unfold Tn.full
 show((o.any isIns&&decide (300<sumT o))||n.sides.any isFull)=false
 rw[h2];simp;omega
theorem editE_ok {n:Nd}{o:Op}(hr:n.ready=true)(h0:checkText n.text=0)(h1:check o=0)(h2:sumF o=rc n.text)(h3:sumT o≤300)(h4:n.sides.any isFull=false):editE n o=0:=by
 unfold editE;rw[if_neg (by simp[hr]),if_neg (by simp[(apply_good h0 h1 h2).1]),if_neg (by simp[full_short h3 h4])]
end Go.Proofs.YtkbfhgcjimfgkaaDoor
set_option linter.unusedSimpArgs false
namespace Go.Proofs.YtkbfhgcjimfgkaaDoor
open Go.RowKit
theorem num_in {x:Int}(h0:0≤x)(h1:x≤1048576):num x=true:=by unfold num;simp;omega
theorem whole_check {k:Int}{c:Str}(h1:1≤k)(h2:k≤1048576)(hc:checkText c=0):(wholeFr k c).check=0:=by
 show checkFrame 3 0 k [] c=0
 unfold checkFrame;rw[if_neg (by omega),num_in (by omega) h2,if_neg (by simp[num]),if_neg (by decide),if_neg (by simpa using hc),if_neg (by simp[frameOdd];omega)]
theorem hearE_at {n:Nd}{src:Int}{p:Pkt}{s:Nat}(hp:p.check=0)(hf:fstIx (isFrom src) n.sides=some s):hearE n src p=if p.epoch=((⟨n,[],[]⟩:Tn).side s).l.epoch∧0<((⟨n,[],[]⟩:Tn).side s).l.epoch then 0 else if(0<n.me∧s=0)∧p.epoch=0 then 0 else if(0<n.me∧s=0)∨p.epoch≤((⟨n,[],[]⟩:Tn).side s).l.epoch then 12 else if asks n p=true∧n.ready=true then 0 else if asks n p=true then 12 else 0:=by
 unfold hearE;rw[if_neg (by simpa using hp),hf]
theorem hearT_at {n:Nd}{src:Int}{p:Pkt}{s:Nat}(hf:fstIx (isFrom src) n.sides=some s):hearT n src p=if p.epoch=((⟨n,[],[]⟩:Tn).side s).l.epoch∧0<((⟨n,[],[]⟩:Tn).side s).l.epoch then(⟨n,[],[]⟩:Tn).session s p else if(0<n.me∧s=0)∧p.epoch=0 then(⟨n,[],[]⟩:Tn).away p.ack else if asks n p=true then(⟨n,[],[]⟩:Tn).joinedT s p else(⟨n,[],[]⟩:Tn).post s [barePost n]:=by
 unfold hearT;rw[hf]
end Go.Proofs.YtkbfhgcjimfgkaaDoor
set_option linter.unusedSimpArgs false
namespace Go.Proofs.YtkbfhgcjimfgkaaDoor
open Go.RowKit
theorem nbs_child:nbs [-1,0] 1=[0]:=by decide
def fNd (E:Int):Nd:=⟨1,E,0,false,noText,[⟨0,false,⟨0,0,[]⟩,askLk E 0⟩],[],[]⟩
def gNd (E:Int)(c:Str):Nd:=⟨1,E,0,true,c,[⟨0,true,⟨0,0,[]⟩,⟨E,2,[],[],1⟩⟩],[],[]⟩
def fPk (E:Int)(c:Str):Pkt:=⟨E,1,false,1,wholeFr E c⟩
theorem fPk_check {E:Int}{c:Str}(h1:1≤E)(h2:E≤1048576)(hc:checkText c=0):(fPk E c).check=0:=by
 have h:=whole_check h1 h2 hc
 show checkPacket E 1 false 1 3 0 E [] c=0
 unfold checkPacket;rw[num_in (by omega) h2,if_neg (by simp[num]),if_neg (by decide),if_neg (by omega)];exact h
theorem f_hear {E:Int}{c:Str}(h1:1≤E)(h2:E≤1048576)(hc:checkText c=0):
 hearE (fNd E) 0 (fPk E c)=0∧hearT (fNd E) 0 (fPk E c)=⟨gNd E c,[⟨0,⟨E,0,true,1,bareFr⟩⟩],[]⟩:=by
 have hf:fstIx (isFrom 0) (fNd E).sides=some 0:=rfl;have hs:(⟨fNd E,[],[]⟩:Tn).side 0=⟨0,false,⟨0,0,[]⟩,askLk E 0⟩:=rfl;have hcond:(fPk E c).epoch=((⟨fNd E,[],[]⟩:Tn).side 0).l.epoch∧0<((⟨fNd E,[],[]⟩:Tn).side 0).l.epoch:=⟨rfl,by show 0<E;omega⟩;constructor
 ·rw[hearE_at (fPk_check h1 h2 hc) hf];exact if_pos hcond
 ·rw[hearT_at hf];refine(if_pos hcond).trans ?_;have hck:=(ask_link h1 h2 (Int.le_refl 0) (by omega)).2.2.2;have hz:(askLk E 0).hearE (fPk E c)=0:=by
   unfold Lk.hearE;rw[if_neg (by rw[hck];decide),if_neg (by rw[fPk_check h1 h2 hc];decide),if_neg];rintro(h|h)
   ·have h':E=0:=h;omega
   ·exact h rfl
  have hb:(askLk E 0).behind (fPk E c)=⟨E,2,[],[],1⟩:=rfl;have hL:(askLk E 0).hearL (fPk E c)=⟨E,2,[],[],1⟩:=by unfold Lk.hearL;rw[if_pos hz,hb];rfl
  have hA:(askLk E 0).acked (fPk E c).ack=[]:=rfl;have hP:(askLk E 0).hearP (fPk E c)=[⟨E,0,true,1,bareFr⟩]:=by unfold Lk.hearP;rw[if_pos hz,hb,hA];rfl
  have hT:(askLk E 0).told (fPk E c)=true:=by unfold Lk.told;rw[if_pos hz];rfl
  have hF:(askLk E 0).hearF (fPk E c)=wholeFr E c:=by unfold Lk.hearF;rw[if_pos hT];rfl
  unfold Tn.session;rw[hs]
  show(if(askLk E 0).hearE (fPk E c)≠0 then _ else if(askLk E 0).told (fPk E c)=true then Tn.told (Tn.linked _ 0 (fPk E c)) 0 ((askLk E 0).hearF (fPk E c))else Tn.linked _ 0 (fPk E c))=_
  rw[if_neg (by rw[hz];decide),if_pos hT];unfold Tn.linked;rw[hs]
  show Tn.told (Tn.post (Tn.setSide _ 0 ⟨0,false,⟨0,0,[]⟩,(askLk E 0).hearL (fPk E c)⟩) 0 ((askLk E 0).hearP (fPk E c))) 0 ((askLk E 0).hearF (fPk E c))=_
  rw[hL,hP,hF];unfold Tn.told;rw[if_neg (fun h=>absurd h.1 (by show¬(3:Int)=1;omega)),if_pos ⟨rfl,rfl,by show(0:Int)<1;omega,rfl,rfl⟩];rfl
theorem f_begin {b:Int}(h1:1≤b)(h2:b≤200):beginE [-1,0] ((1:Nat):Int) b noText=0∧beginT [-1,0] ((1:Nat):Int) b noText=⟨fNd (4096*b),[⟨0,askPk (4096*b) 0⟩],[]⟩:=by
 constructor
 ·unfold beginE;rw[if_neg (by decide),if_neg (by decide),if_neg (by omega),if_neg (by rw[show checkText noText=0 by decide];decide),if_neg (by rintro⟨-,h⟩;rw[emptyS_noText]at h;cases h)]
 ·have hs:(beginN [-1,0] ((1:Nat):Int) b noText).node.sides=newSd 0::[]:=by
   show(nbs [-1,0] 1).map newSd=_
   rw[nbs_child];rfl
  unfold beginT;rw[if_pos (by decide),join_plain hs (by show 1≤4096*b;omega) (by show 4096*b≤1048576;omega) (by show(0:Int)≤0;omega) (by show(0:Int)≤1048576;omega)];rfl
theorem f_good {E:Int}(h1:1≤E)(h2:E<1048576):NG [-1,0] 2 (fNd E):=by
 have hl:=ask_link h1 (by omega) (Int.le_refl 0) (by omega);have hs:sideOk (fNd E) ⟨0,false,⟨0,0,[]⟩,askLk E 0⟩=true:=sideOk_mk (by show edgeCheck 0 0 []=0;decide) hl.2.2.2 (fun _=>rfl) (fun h=>by cases h);refine⟨⟨by decide,by show(0:Int)≤1;omega,by show(1:Int)<2;omega,h1,h2,by show(0:Int)≤0;omega,by show(0:Int)≤1048576;omega,fun _=>rfl,by show checkText noText=0;decide,by show 1=(nbs [-1,0] 1).length;rw[nbs_child];rfl,undoOk_mk rfl (Nat.zero_le _),Nat.zero_le _,fun _=>⟨emptyS_noText,rfl,rfl,by show¬(1:Int)=0;omega⟩,fun i hi=>?_,fun _ s hs'=>?_,fun m hm=>by cases hm⟩,fun s hs'=>?_⟩
 ·have hi0:i=0:=by have:i<1:=hi;omega
  subst hi0;exact⟨by show(nbs [-1,0] 1)[0]?=some 0;rw[nbs_child];rfl,hs⟩
 ·have e:(⟨0,false,⟨0,0,[]⟩,askLk E 0⟩:Sd)=s:=by simpa[fNd]using hs'
  subst e;rfl
 ·have e:s=⟨0,false,⟨0,0,[]⟩,askLk E 0⟩:=by simpa[fNd]using hs'
  subst e;exact⟨by show(0:Int)≤2;omega,by show(0:Int)≤2;omega,by show(2:Int)+((0:Nat):Int)≤2;omega,by show(0:Int)≤2;omega⟩
theorem g_link {E:Int}(h1:1≤E)(h2:E≤1048576):(⟨E,2,[],[],1⟩:Lk).check=0:=lk_make (by show 0≤E;omega) h2 (by show(1:Int)≤2;omega) (by show(2:Int)≤1048576;omega) (by show(0:Int)≤1;omega) (by show(1:Int)≤1048576;omega) (by simp) (by show((0:Nat):Int)<2;omega) (fun h=>by simp at h) rfl rfl (fun h=>by have h':E=0:=h;omega)
theorem g_good {E:Int}{c:Str}(h1:1≤E)(h2:E<1048576)(hc:checkText c=0):NG [-1,0] 2 (gNd E c):=by
 have hs:sideOk (gNd E c) ⟨0,true,⟨0,0,[]⟩,⟨E,2,[],[],1⟩⟩=true:=sideOk_mk (by show edgeCheck 0 0 []=0;decide) (g_link h1 (by omega)) (fun h=>by cases h) (fun _=>⟨sideLast_mk (fun x hx=>by cases hx),rfl,by show 0<E;omega⟩);refine⟨⟨by decide,by show(0:Int)≤1;omega,by show(1:Int)<2;omega,h1,h2,by show(0:Int)≤0;omega,by show(0:Int)≤1048576;omega,fun _=>rfl,hc,by show 1=(nbs [-1,0] 1).length;rw[nbs_child];rfl,undoOk_mk rfl (Nat.zero_le _),Nat.zero_le _,fun h=>(by cases h),fun i hi=>?_,fun _ s hs'=>?_,fun m hm=>by cases hm⟩,fun s hs'=>?_⟩
 ·have hi0:i=0:=by have:i<1:=hi;omega
  subst hi0;exact⟨by show(nbs [-1,0] 1)[0]?=some 0;rw[nbs_child];rfl,hs⟩
 ·have e:(⟨0,true,⟨0,0,[]⟩,⟨E,2,[],[],1⟩⟩:Sd)=s:=by simpa[gNd]using hs'
  subst e;rfl
 ·have e:s=⟨0,true,⟨0,0,[]⟩,⟨E,2,[],[],1⟩⟩:=by simpa[gNd]using hs'
  subst e;exact⟨by show(0:Int)≤2;omega,by show(0:Int)≤2;omega,by show(2:Int)+((0:Nat):Int)≤2;omega,by show(1:Int)≤2;omega⟩
theorem edit_check {o:Op}(ho:check o=0):(editFr 0 o).check=0:=by
 show checkFrame 1 0 0 o noText=0
 unfold checkFrame;rw[if_neg (by omega),if_neg (by simp[num]),if_neg (by rw[ho];decide),if_neg (by decide),if_neg (by simp[frameOdd,emptyS_noText])]
theorem f_edit {E:Int}{c:Str}{o:Op}(h1:1≤E)(h2:E<1048576)(hc:checkText c=0)(ho:check o=0)(hF:sumF o=rc c)(h3:sumT o≤300):
 editE (gNd E c) o=0∧(editT (gNd E c) o).posts=[⟨0,⟨E,2,false,1,editFr 0 o⟩⟩]∧(editT (gNd E c) o).node.text=applyS c o:=by
 refine⟨editE_ok rfl hc ho hF h3 rfl,?_,?_⟩
 ·show(Tn.forward _ o (-1)).posts=_
  have hf:∀(t:Tn),t.node.me=1→t.node.sides=[⟨0,true,⟨0,0,[]⟩,⟨E,2,[],[],1⟩⟩]→t.posts=[]→(t.forward o (-1)).posts=[⟨0,⟨E,2,false,1,editFr 0 o⟩⟩]:=by
   rintro⟨⟨me,ep,up,rd,tx,ss,un,mk⟩,ps,rs⟩ e1 e2 e3;simp only at e1 e2 e3;subst e1 e2 e3;unfold Tn.forward;rw[show∀t:Tn,t.node.me=1→t.recd o=t from fun t h=>by unfold Tn.recd;rw[if_neg (by omega)]]
   ·show(Tn.fwd1 _ o (-1) 0).posts=_
    unfold Tn.fwd1 Tn.fwdK;rw[if_neg (by rintro(h|h)<;>cases h)];unfold Tn.tell Tn.send;have hsE:(⟨E,2,[],[],1⟩:Lk).sendE (editFr 0 o)=0:=by
     unfold Lk.sendE;rw[if_neg (by rw[g_link h1 (by omega)];decide),if_neg (by show¬E=0;omega),if_neg (by rw[edit_check ho];decide),if_neg (by show¬(2:Int)=1048576;omega)]
    have hpu:(⟨E,2,[],[],1⟩:Lk).push (editFr 0 o)=⟨E,3,[editFr 0 o],[],1⟩:=by
     unfold Lk.push Lk.filled;rw[show fillL ([]:List Fr) ([]++[editFr 0 o]) 2=([editFr 0 o],[],3)from rfl]
    have hsP:(⟨E,2,[],[],1⟩:Lk).sendP (editFr 0 o)=[⟨E,2,false,1,editFr 0 o⟩]:=by unfold Lk.sendP;rw[if_pos hsE,hpu];rfl
    show(if(⟨E,2,[],[],1⟩:Lk).sendE (editFr 0 o)=0 then Tn.post _ 0 ((⟨E,2,[],[],1⟩:Lk).sendP (editFr 0 o))else _).posts=_
    rw[if_pos hsE,hsP];rfl
   ·rfl
  exact hf _ rfl rfl rfl
 ·obtain⟨ss,e1,-⟩:=edited_node (gNd E c) (gNd E c).undo o;have e2:((⟨gNd E c,[],[]⟩:Tn).edited o).node=_:=e1
  show((⟨gNd E c,[],[]⟩:Tn).edited o).node.text=_
  rw[e2];rfl
theorem f_recs (E:Int)(c:Str)(o:Op):(editT (gNd E c) o).recs=[]:=by
 have h1:∀(t:Tn)(s:Nat)(f:Fr),(t.send s f).recs=t.recs:=fun t s f=>by unfold Tn.send;split<;>rfl
 have h2:∀(t:Tn)(o:Op)(but:Int)(i:Nat),(t.fwd1 o but i).recs=t.recs:=fun t o but i=>by
  unfold Tn.fwd1;split
  ·rfl
  ·unfold Tn.tell;rw[h1];rfl
 have h3:∀(t:Tn)(o:Op)(but:Int)(k:Nat),(t.fwdK o but k).recs=t.recs:=fun t o but k=>by
  induction k with
  |zero=>rfl
  |succ k ih=>exact(h2 _ o but k).trans ih
 show(Tn.forward _ o (-1)).recs=[]
 unfold Tn.forward;rw[h3];unfold Tn.recd;rw[if_neg (by show¬(1:Int)=0;omega)];rfl
end Go.Proofs.YtkbfhgcjimfgkaaDoor
set_option linter.unusedSimpArgs false
namespace Go.Proofs.YtkbfhgcjimfgkaaDoor
open Go.RowKit
set_option maxRecDepth 100000 in
set_option maxHeartbeats 4000000 in
theorem invert_bad (s:Str)(o:Op)(a:Option Addr)(n c:Nat)(w:World)(hg:Good w)(hr:RdS (· <w.heap.size) w o a n c)(hs:s.size≤70368744177664)(hE:applyE s o≠0):
 Calls Tryd.prog 56 #[.string s,.slice a n c] w fun e w'=>e=.returned (.tuple #[.slice none 0 0,.int .i64 (applyE s o)])∧Below w.heap.size w w':=by
 have HA:=Lib.hid (apply_any s o a n c w hg hr hs);generalize applyS s o=ss at*;generalize applyE s o=ee at*;clear hr hg hs;go_enter Tryd.func56,Tryd.ntmps56;go_wp2_with fail;refine HA.out.mono ?_;rintro e w2 ⟨rfl,hb2⟩;clear HA;have HB:=Lib.hid hb2;clear hb2;go_wp2_with fail
 go_ret2
 exact⟨rfl,HB.out⟩
set_option maxRecDepth 100000 in
set_option maxHeartbeats 8000000 in
theorem ndEdit_away (base g:Nat)(t:Tn)(vs:Nat→Value)(o:Op)(oa:Option Addr)(oc:Nat)(w:World)(h:WkM base g t vs w)(hy:t.node.ready=false):
 Calls Tryd.prog 34 #[.pointer (some ⟨g,0,none⟩),.slice oa o.length oc] w fun e w'=>e=.returned (.tuple #[.slice none 0 0,.int .i64 12])∧Below w.heap.size w w':=by
 have HNP:=Lib.hid (fun W=>node_ptr g W);have hgl:=h.lt;obtain⟨-,-,-,p3,-,-,-,-,-,-⟩:=blk10_cells h.box;rw[hy]at p3;clear h hy;go_enter Tryd.func34,Tryd.ntmps34;go_wp2_with fail;refine(HNP.out w).mono ?_;rintro e w1 ⟨rfl,rfl⟩;go_wp2_with fail
 go_ret2
 exact⟨rfl,Below.refl _ _⟩
set_option maxRecDepth 100000 in
set_option maxHeartbeats 8000000 in
theorem ndEdit_bad (base g:Nat)(t:Tn)(vs:Nat→Value)(o:Op)(oa:Option Addr)(oc:Nat)(w:World)(hg:Good w)(h:WkM base g t vs w)(hr:RdS (NM g vs w) w o oa o.length oc)(hy:t.node.ready=true)(h0:checkText t.node.text=0)(hE:applyE t.node.text o≠0):
 Calls Tryd.prog 34 #[.pointer (some ⟨g,0,none⟩),.slice oa o.length oc] w fun e w'=>e=.returned (.tuple #[.slice none 0 0,.int .i64 (applyE t.node.text o)])∧Below w.heap.size w w':=by
 have HI:=Lib.hid (invert_bad t.node.text o oa _ oc w hg (hr.mono fun z hz=>⟨hz.1,rfl⟩) (text_small h0) hE);have HNP:=Lib.hid (fun W=>node_ptr g W);have hgl:=h.lt;obtain⟨-,-,-,p3,p4,-,-,-,-,-⟩:=blk10_cells h.box;rw[hy]at p3;generalize applyE t.node.text o=ee at*;clear h hy hg hr h0;go_enter Tryd.func34,Tryd.ntmps34;go_wp2_with fail;refine(HNP.out w).mono ?_;rintro e w1 ⟨rfl,rfl⟩;go_wp2_with fail;refine HI.out.mono ?_;rintro e w2 ⟨rfl,hb⟩;have HB:=Lib.hid hb;clear hb HI;go_wp2_with fail
 go_ret2
 exact⟨rfl,HB.out⟩
end Go.Proofs.YtkbfhgcjimfgkaaDoor
set_option linter.unusedSimpArgs false
namespace Go.Proofs.YtkbfhgcjimfgkaaDoor
open Go.RowKit
theorem sd_short {n:Nd}{s:Sd}(h:sideOk n s=true)(hq:s.l.queue.length≤1048576):s.short:=by
 unfold sideOk at h;by_cases h1:edgeCheck s.e.sent s.e.heard s.e.pending=0
 ·rw[if_neg (by simpa using h1)]at h;by_cases h2:s.l.check=0
  ·obtain⟨-,e2,-,-,e3,e4⟩:=edgeCheck_all h1;obtain⟨-,-,-,-,-,-,l1,-,-,l2,l3,-⟩:=lk_zero h2;refine⟨fun o ho=>?_,by omega,fun f hf=>?_,by omega,fun f hf=>?_,hq⟩
   ·have:=(check_zero (e4 o ho)).1;omega
   ·have:=frame_ops l2 f hf;omega
   ·have:=frame_ops l3 f hf;omega
  ·rw[if_pos h2]at h;cases h
 ·rw[if_pos h1]at h;cases h
def NdQ (n:Nd):Prop:=∀s∈n.sides,s.l.queue.length≤1000000
def BegunP (n:Nd)(w:World)(e:Ending)(w':World):Prop:=∃g vs,e=.returned (.tuple #[.pointer (some ⟨g,0,none⟩),.int .i64 0])∧WkM w.heap.size g ⟨n,[],[]⟩ vs w'∧Below w.heap.size w w'
theorem begun {n:Nd}{w w4 W:World}{S1 S2 g:Nat}{v0 v1 v2:Value}(hb:Blk g (.cells #[.int .i64 n.me,.int .i64 n.epoch,.int .i64 n.up,.bool n.ready,.string n.text,v0,v1,v2,.slice none 0 0,.slice none 0 0] 82 (0,0)) W)
 (hg:g=w4.heap.size) (h1:w.heap.size≤S1) (h2:S1≤S2) (h3:S2≤w4.heap.size) (hB:Below w4.heap.size w4 W) (o2:OwnO (fun z=>z<w.heap.size∨S1≤z) w.heap.size v2 n.marks w4) (o0:OwnO (fun z=>z<S1∨S2≤z) S1 v0 n.sides w4) (o1:OwnO (fun z=>z<S2) S2 v1 n.undo w4) (l2:∀k,v2.ownBlock=some k→k<S1) (l0:∀k,v0.ownBlock=some k→k<S2) (hf:n.fits) (hw:2≤w.heap.size):
 WkM w.heap.size g ⟨n,[],[]⟩ (fun j=>match j with|0=>v0|1=>v1|2=>v2|_=>.slice none 0 0) W:=by
 have r0:=o0.rowlt;have r1:=o1.rowlt;have r2:=o2.rowlt;have hX:∀z,WX w.heap.size g (fun j=>match j with|0=>v0|1=>v1|2=>v2|_=>.slice none 0 0) z→z<w.heap.size∨z=g∨v0.ownBlock=some z∨v1.ownBlock=some z∨v2.ownBlock=some z:=by
  rintro z (h|h|⟨j,hj,h⟩)
  ·exact .inl h
  ·exact .inr (.inl h)
  ·match j,hj,h with
   |0,_,h=>exact .inr (.inr (.inl h))
   |1,_,h=>exact .inr (.inr (.inr (.inl h)))
   |2,_,h=>exact .inr (.inr (.inr (.inr h)))
   |3,_,h=>cases h
   |4,_,h=>cases h
 have hk:∀k,k<w4.heap.size→W.heap[k]?=w4.heap[k]?:=fun k hk=>hB.block k hk;have b0:rowOk w.heap.size (WX w.heap.size g (fun j=>match j with|0=>v0|1=>v1|2=>v2|_=>.slice none 0 0)) ⟨n,[],[]⟩ 0 v0 W:=rowOk.keep (j:=0) (X:=fun z=>z<S1∨S2≤z) (o0.low h1) hB.size (fun k hk' _=>hk k hk') (fun k hk' hx=>by
  rcases hX k hx with h|h|h|h|h
  ·exact .inl (.inl (by omega))
  ·omega
  ·exact .inr h
  ·exact .inl (.inr (r1 k h).1)
  ·exact .inl (.inl (l2 k h)))
 have b1:rowOk w.heap.size (WX w.heap.size g (fun j=>match j with|0=>v0|1=>v1|2=>v2|_=>.slice none 0 0)) ⟨n,[],[]⟩ 1 v1 W:=rowOk.keep (j:=1) (X:=fun z=>z<S2) (o1.low (Nat.le_trans h1 h2)) hB.size (fun k hk' _=>hk k hk') (fun k hk' hx=>by
  rcases hX k hx with h|h|h|h|h
  ·exact .inl (show k<S2 by omega)
  ·omega
  ·exact .inl (l0 k h)
  ·exact .inr h
  ·exact .inl (show k<S2 from Nat.lt_of_lt_of_le (l2 k h) h2))
 have b2:rowOk w.heap.size (WX w.heap.size g (fun j=>match j with|0=>v0|1=>v1|2=>v2|_=>.slice none 0 0)) ⟨n,[],[]⟩ 2 v2 W:=rowOk.keep (j:=2) (X:=fun z=>z<w.heap.size∨S1≤z) o2 hB.size (fun k hk' _=>hk k hk') (fun k hk' hx=>by
  rcases hX k hx with h|h|h|h|h
  ·exact .inl (.inl h)
  ·omega
  ·exact .inl (.inr (r0 k h).1)
  ·exact .inl (.inr (Nat.le_trans h2 (r1 k h).1))
  ·exact .inr h)
 refine⟨hb,fun j hj=>?_,by omega,fun i hi z hz=>?_,fun i j hi hj hij z hz e=>?_,hf,hw⟩
 ·match j,hj with
  |0,_=>exact b0
  |1,_=>exact b1
  |2,_=>exact b2
  |3,_=>exact OwnO.nil
  |4,_=>exact OwnO.nil
 ·match i,hi,hz with
  |0,_,hz=>have:=(r0 z hz).2;omega
  |1,_,hz=>have:=(r1 z hz).2;omega
  |2,_,hz=>have:=(r2 z hz).2;omega
  |3,_,hz=>cases hz
  |4,_,hz=>cases hz
 ·match i,j,hi,hj,hij,hz,e with
  |0,1,_,_,_,hz,e=>have:=l0 z hz;have:=(r1 z e).1;omega
  |0,2,_,_,_,hz,e=>have:=l2 z e;have:=(r0 z hz).1;omega
  |1,0,_,_,_,hz,e=>have:=l0 z e;have:=(r1 z hz).1;omega
  |1,2,_,_,_,hz,e=>have:=l2 z e;have:=(r1 z hz).1;omega
  |2,0,_,_,_,hz,e=>have:=l2 z hz;have:=(r0 z e).1;omega
  |2,1,_,_,_,hz,e=>have:=l2 z hz;have:=(r1 z e).1;omega
  |3,_,_,_,_,hz,_=>cases hz
  |4,_,_,_,_,hz,_=>cases hz
  |_,3,_,_,_,_,e=>cases e
  |_,4,_,_,_,_,e=>cases e
  |0,0,_,_,hij,_,_=>exact absurd rfl hij
  |1,1,_,_,hij,_,_=>exact absurd rfl hij
  |2,2,_,_,hij,_,_=>exact absurd rfl hij
  |i+5,_,hi,_,_,_,_=>omega
  |_,j+5,_,hj,_,_,_=>omega
set_option maxRecDepth 100000 in
set_option maxHeartbeats 4000000 in
theorem ndBegin_good (t:List Int)(ta:Option Addr)(tn tc:Nat)(n:Nd)(a:Option Addr)(c:Nat)(ua:Option Addr)(uc:Nat)(ma:Option Addr)(mc:Nat)(w:World)(hg:Good w)(ht:RdS (· <w.heap.size) w t ta tn tc)
 (h1:RdS (· <w.heap.size) w n.sides a n.sides.length c) (h2:RdS (· <w.heap.size) w n.undo ua n.undo.length uc) (h3:RdS (· <w.heap.size) w n.marks ma n.marks.length mc) (hf:n.fits) (hG:NdGood t n) (hQ:NdQ n):
 Calls Tryd.prog 33 #[.slice ta tn tc,.agg #[.int .i64 n.me,.int .i64 n.epoch,.int .i64 n.up,.bool n.ready,.string n.text,.slice a n.sides.length c,.slice ua n.undo.length uc,.slice ma n.marks.length mc]] w (BegunP n w):=by
 have HC:=Lib.hid (fun W (hW:Below w.heap.size w W)=>ndCheck_good t ta tn tc n a c ua uc ma mc W (hg.go hW) (ht.go hW) (h1.go hW) (h2.go hW) (h3.go hW) hf hG);have hsh:∀s∈n.sides,s.short:=fun s hs=>by
  obtain⟨i,hi,rfl⟩:=List.mem_iff_getElem.1 hs;exact sd_short (hG.side i hi).2 (by have:=hQ _ hs;omega)
 have hsl:n.sides.length≤1000:=by
  have h1:=hG.len;have h2:=nbs_len t n.me;have h3:t.length≤7:=by
   have g1:=hG.tree;unfold checkTree at g1;by_cases h:t.length<1∨7<t.length
   ·rw[if_pos h]at g1;exact absurd g1 (by decide)
   ·omega
  omega
 have HO:=Lib.hid (fun W (hW:Below w.heap.size w W)=>ndOwn_any n a c ua uc ma mc W (h1.go hW) (h2.go hW) (h3.go hW) (fun o ho=>by have:=(check_zero (hG.undos.2 o ho)).1;omega) hsh hsl (by have:=hG.undos.1;omega) (by have:=hG.marks1;omega));have hg2:=Lib.hid hg.size;have Hf:=Lib.hid hf;have HP:Hid (∀g vs W,WkM w.heap.size g ⟨n,[],[]⟩ vs W→Below w.heap.size w W→BegunP n w (.returned (.tuple #[.pointer (some ⟨g,0,none⟩),.int .i64 0])) W):=fun g vs W h1 h2=>⟨g,vs,rfl,h1,h2⟩;generalize BegunP n w=RP at*;clear hg ht h1 h2 h3 hf hG hQ hsh hsl;go_enter Tryd.func33,Tryd.ntmps33;go_wp2_with fail;refine abs_run (fun W=>Below w.heap.size w W∧Blk w.heap.size (.cells #[.int .i64 n.me,.int .i64 n.epoch,.int .i64 n.up,.bool n.ready,.string n.text,.slice a n.sides.length c,.slice ua n.undo.length uc,.slice ma n.marks.length mc] 31 (0,0)) W) ⟨(Below.refl _ _).alloc (Nat.le_refl _) _,Blk.new w _⟩ ?_;rintro w1 ⟨b1,x1⟩;have B1:=Lib.hid b1;refine(HC.out _ b1).mono ?_;rintro e w2 ⟨rfl,b2⟩;have B2:=Lib.hid (up b1 b2);have X2:=Lib.hid (x1.go b2);obtain⟨p0,p1,p2,p3,p4,p5,p6,p7⟩:=blk8_cells X2.out;clear b1 b2 x1 HC B1;go_wp2_with fail;refine(HO.out _ B2.out).mono ?_;rintro e w4 ⟨S1,S2,v0,v1,v2,rfl,s1,s2,s3,o2,o0,o1,hb,l2,l0⟩;obtain⟨a0,c0,rfl⟩:=own_app o0;obtain⟨a1,c1,rfl⟩:=own_app o1;obtain⟨a2,c2,rfl⟩:=own_app o2;have hz2:=B2.out.size;have HW:Hid (∀W,Blk w4.heap.size (.cells #[.int .i64 n.me,.int .i64 n.epoch,.int .i64 n.up,.bool n.ready,.string n.text,.slice a0 n.sides.length c0,.slice a1 n.undo.length c1,.slice a2 n.marks.length c2,.slice none 0 0,.slice none 0 0] 82 (0,0)) W→Below w4.heap.size w4 W→∃vs,WkM w.heap.size w4.heap.size ⟨n,[],[]⟩ vs W):=fun W hb' hW=>
  ⟨_,begun (S1:=S1) (S2:=S2) hb' rfl (by omega) s2 s3 hW ((o2.more (fun z hz hx=>by
   rcases hx with hx|hx
   ·exact .inl (by omega)
   ·exact .inr hx)).low hz2) o0 o1 l2 l0 Hf.out hg2.out⟩
 have B4:=Lib.hid (up B2.out hb);clear o0 o1 o2 l2 l0 s1 s2 s3 hb HO X2 p0 p1 p2 p3 p4 p5 p6 p7;go_wp2_with fail;obtain⟨vs,h⟩:=HW.out (w4.alloc _) (Blk.new w4 _) ((Below.refl _ _).alloc (Nat.le_refl _) _);exact HP.out _ vs _ h (B4.out.alloc B4.out.size _)
end Go.Proofs.YtkbfhgcjimfgkaaDoor
set_option linter.unusedSimpArgs false
namespace Go.Proofs.YtkbfhgcjimfgkaaDoor
open Go.RowKit
def TurnE (E:Int)(t:Tn)(w:World)(e:Ending)(w':World):Prop:=if E=0 then TurnP t w e w' else e=.returned (.tuple #[.agg zeroTn,.int .i64 E])∧Below w.heap.size w w'
theorem NdB.queue {t:List Int}{n:Nd}{b:Int}(h:NdB b n)(hG:NdGood t n)(hb:b<1000000):NdQ n:=by
 intro s hs;obtain⟨-,-,h3,-⟩:=h s hs;obtain⟨i,hi,rfl⟩:=List.getElem_of_mem hs;obtain⟨-,h4,-⟩:=sideOk_all (hG.side i hi).2;have:=(lk_zero h4).2.2.1;omega
theorem good_len {t:List Int}{n:Nd}(hG:NdGood t n):n.sides.length≤8:=by
 have h1:=hG.len;have h2:=nbs_len t n.me;have h3:t.length≤7:=by
  have g1:=hG.tree;unfold checkTree at g1;by_cases h:t.length<1∨7<t.length
  ·rw[if_pos h]at g1;exact absurd g1 (by decide)
  ·omega
 omega
def FwdOk (tn:Tn)(o:Op)(but:Int):Prop:=
 (∀k,k<tn.node.sides.length→((tn.recd o).fwdK o but (k+1)).posts.length≤1000000∧((tn.recd o).fwdK o but k).posts.length≤1000000)∧(∀k,k<tn.node.sides.length→(((tn.recd o).fwdK o but k).side k).joined=true→(k:Int)≠but→sendE (((tn.recd o).fwdK o but k).side k).e.sent (((tn.recd o).fwdK o but k).side k).e.heard (((tn.recd o).fwdK o but k).side k).e.pending o=0∧(((tn.recd o).fwdK o but k).side k).l.queue.length≤1000000)
theorem fwd_cond {n:Nd}{tn:Tn}{o:Op}{b:Int}(but:Int)(hl:tn.node.sides.length≤8)(hp:tn.posts.length≤1000)(hs:∀k (h:k<tn.node.sides.length),(k:Int)≠but→sideOk n tn.node.sides[k]=true∧SdB b tn.node.sides[k])(ho:check o=0)(hF:sumF o=rc n.text)(hb:b<1000000):FwdOk tn o but:=by
 refine⟨fun k hk=>?_,fun k hk hj hne=>?_⟩
 ·have h1:=fwdK_posts (tn.recd o) o but (k+1);have h2:=fwdK_posts (tn.recd o) o but k;rw[recd_posts]at h1 h2;omega
 ·have e1:=fwdK_side (tn.recd o) o but k k (Nat.le_refl _);rw[recd_side,tn.side_get k hk]at e1;rw[e1]at hj⊢;obtain⟨h1,h2⟩:=hs k hk hne;obtain⟨k1,k2,-,k4⟩:=sideOk_all h1;obtain⟨b1,b2,b3,-⟩:=h2;have h5:=(lk_zero k2).2.2.1;exact⟨edge_sends k1 (k4 hj).1 ho hF (by omega),by omega⟩
theorem edit_cond {t:List Int}{n:Nd}{o:Op}{b:Int}(u:List Op)(hG:NdGood t n)(ho:check o=0)(hF:sumF o=rc n.text)(hB:NdB b n)(hb:b<1000000):FwdOk (((⟨{n with undo:=u},[],[]⟩:Tn).setText (applyS n.text o)).move true o) o (-1):=by
 refine fwd_cond (n:=n) (b:=b) (-1) (show n.sides.length≤8 from good_len hG) (by show([]:List Po).length≤_;simp) (fun k hk _=>⟨(hG.side k hk).2,hB _ (List.getElem_mem hk)⟩) ho hF hb
theorem ndEdit_go {base g:Nat}{t:Tn}{vs:Nat→Value}{o:Op}{oa:Option Addr}{oc:Nat}{w:World}{tr:List Int}{n:Nd}{u:List Op}{b:Int}(hn:t=⟨{n with undo:=u},[],[]⟩)(hg:Good w)(h:WkM base g t vs w)(hr:RdS (NM g vs w) w o oa o.length oc)(hG:NdGood tr n)(hB:NdB b n)(hb:b<1000000)(hE:n.ready=true)(hA:applyE n.text o=0)(hF:t.full o=false):
 Calls Tryd.prog 34 #[.pointer (some ⟨g,0,none⟩),.slice oa o.length oc] w fun e w'=>∃(ba:Option Addr)(bc:Nat),e=.returned (.tuple #[.slice ba (invO n.text o).length bc,.int .i64 0])∧
  ∃v2,WkM base g (t.edited o) v2 w'∧Touch (Mine g vs) w w'∧(∀z,Mine g v2 z→Mine g vs z∨w.heap.size≤z)∧RdS (fun z=>z<w'.heap.size∧w.heap.size≤z∧¬Mine g v2 z) w' (invO n.text o) ba (invO n.text o).length bc:=by
 subst hn;obtain⟨h0,h1,h2⟩:=applyE_zero hA;have hc:=edit_cond u hG h1 h2 hB hb;refine ndEdit_ok base g _ vs o oa oc w hg h hr hE h0 h1 h2 hF (fun v2 W hW hM hR=>?_) (by have:=hG.marks1;show n.marks.length≤_;omega);exact ndForward_any base g _ v2 o oa oc (-1) W hW hM hR h1 (by unfold I64;decide) (by show([]:List Rec).length≤_;simp) hc.1 hc.2
theorem ndEdit_no {base g:Nat}{t:Tn}{vs:Nat→Value}{o:Op}{oa:Option Addr}{oc:Nat}{w:World}(hg:Good w)(h:WkM base g t vs w)(hr:RdS (NM g vs w) w o oa o.length oc)(h0:checkText t.node.text=0)(hE:t.node.ready=false∨applyE t.node.text o≠0∨t.full o=true):
 Calls Tryd.prog 34 #[.pointer (some ⟨g,0,none⟩),.slice oa o.length oc] w fun e w'=>e=.returned (.tuple #[.slice none 0 0,.int .i64 (if t.node.ready=false then 12 else if applyE t.node.text o≠0 then applyE t.node.text o else 8)])∧Below w.heap.size w w':=by
 by_cases hy:t.node.ready=false
 ·rw[if_pos hy];exact ndEdit_away base g t vs o oa oc w h hy
 ·rw[if_neg hy];have hy':t.node.ready=true:=by simpa using hy
  by_cases hA:applyE t.node.text o≠0
  ·rw[if_pos hA];exact ndEdit_bad base g t vs o oa oc w hg h hr hy' h0 hA
  ·rw[if_neg hA];obtain⟨-,h1,h2⟩:=applyE_zero (by simpa using hA);refine ndEdit_full base g t vs o oa oc w hg h hr hy' h0 h1 h2 ?_;rcases hE with h|h|h
   ·exact absurd h hy
   ·exact absurd h hA
   ·exact h
theorem WkM.nm {α:Type} [Rep α] {base g:Nat}{t:Tn}{vs:Nat→Value}{w w0:World}{l:List α}{a:Option Addr}{n c:Nat}(h:WkM base g t vs w)(hr:RdS (· <w0.heap.size) w0 l a n c)(hb:Below w0.heap.size w0 w)(hB:w0.heap.size≤base):RdS (NM g vs w) w l a n c:=
 hr.mono fun z hz=>⟨⟨Nat.lt_of_lt_of_le hz hb.size,fun hm=>by have:=(h.mine z hm).1;have hz':z<w0.heap.size:=hz;omega⟩,hb.block z hz⟩
end Go.Proofs.YtkbfhgcjimfgkaaDoor
