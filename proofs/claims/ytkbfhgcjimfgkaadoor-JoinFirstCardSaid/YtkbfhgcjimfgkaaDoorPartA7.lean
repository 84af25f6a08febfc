/- A slice of the call's own that may begin within its row: a piece of it, and one element more. No condition. -/
import Derived.Test.YtkbfhgcjimfgkaaDoorPartA6
import Derived.Deep.AppendLies
import Derived.WalkSpells
import Derived.Lib.SliceRun
import Derived.ArgAppend
import Derived.Deep.Upon
set_option linter.unusedVariables false
set_option linter.unusedSimpArgs false
namespace Go.Proofs.YtkbfhgcjimfgkaaDoor
open Go.RowKit
section
variable {P:Program} {ops:Array Oper}
def Under3 (ops:Array Oper)(K:Nat→List Nat)(a0:Act)(Inv:(Nat→Bool)→(Nat→Value)→World→Prop)(V:Nat→Value→World→Prop)(listed:Array Bool)(a:Act)(w:World):Prop:=
 ∃x,a=gets ops x a0 (selL ops.size listed)∧(∀i,listed.getD i false=true→(∀j∈K i,listed.getD j false=false)→V i (x i) w)∧Inv (fun j=>listed.getD j false) x w∧listed.size=ops.size∧(∀i,listed.getD i false=true→∀j∈anc ops i,listed.getD j false=true)
theorem region_rule3 {id:Nat}{Q:Exit→Act→World→Prop}{a0:Act}{w0:World}(hm:P.follows .mixedOrders=true)(hok:regionOk ops=true)(Inv:(Nat→Bool)→(Nat→Value)→World→Prop)(V:Nat→Value→World→Prop)(Ext:Nat→World→World→Prop)(K N:Nat→List Nat)(hN:∀i,∀j∈N i,j∈anc ops i∧∀k∈K j,k=i∨i∈anc ops k)
 (hmono:∀i j,i<ops.size→j<ops.size→j≠i→j∉anc ops i→j∉K i→∀v w w',Ext j w w'→V i v w→V i v w') (h0:∀x,Inv (fun _=>false) x {w0 with drawn:=w0.drawn+1})
 (hstep:∀(i:Nat)(o:Oper),ops[i]?=some o→∀x w (L:Nat→Bool),Inv L x w→(∀j∈anc ops i,L j=true)→(∀j,j=i∨i∈anc ops j→L j=false)→(∀j∈N i,V j (x j) w)→wpList P ops (StepPost (fun _=>True) (fun i v w'=>Inv (setB L i) (setV x i v) w'∧V i v w') (Ext i) i (gets ops x a0 (anc ops i)) o.dst w) [o] (gets ops x a0 (anc ops i)) w)
 (hend:∀x w (L:Nat→Bool),(∀i,i<ops.size→L i=true)→Inv L x w→(∀i,i<ops.size→K i=[]→V i (x i) w)→Q .normal (gets ops x a0 (List.range ops.size)) w):(Code.region id ops true).wp P Q a0 w0:=by
 have F:=facts_of hok;refine wp_region_any hm ?_;have key:∀(fuel:Nat)(listed:Array Bool)(a:Act)(w:World),(List.range ops.size).countP (fun i=>!listed.getD i false)≤fuel→Under3 ops K a0 Inv V listed a w→wpAny P .any ops Q fuel listed a w:=by
  intro fuel;have hdone:∀(listed:Array Bool)(a:Act)(w:World),Under3 ops K a0 Inv V listed a w→(∀i,i<ops.size→listed.getD i false=true)→Q .normal a w:=by
   rintro listed a w ⟨x,rfl,hv,hi,hsz,_⟩ hall;have he:selL ops.size listed=List.range ops.size:=by
    unfold selL;rw[List.filter_eq_self];intro i hi;exact hall i (List.mem_range.1 hi)
   rw[he];exact hend x w _ hall hi (fun i hi hk=>hv i (hall i hi) (fun j hj=>by rw[hk]at hj;cases hj))
  have hall:∀(listed:Array Bool),listed.size=ops.size→Region.ready .any ops listed=[]→∀i,i<ops.size→listed.getD i false=true:=by
   intro listed hsz hr i
   induction i using Nat.strongRecOn with
   |_ i ih=>
    intro hi;cases hc:listed.getD i false with
    |true=>rfl
    |false=>
     have hmem:i∈Region.ready .any ops listed:=by
      rw[mem_ready];refine⟨?_,ops[i],Array.getElem?_eq_getElem hi,fun e he hbe=>?_⟩
      ·simp[Array.getD_eq_getD_getElem?,hsz▸hi]at hc⊢;exact hc
      ·have hlt:=F.ord i ops[i] (Array.getElem?_eq_getElem hi) e he hbe;exact ih e.on hlt (by omega)
     rw[hr]at hmem;cases hmem
  induction fuel with
  |zero=>
   intro listed a w hc hU;have hU2:=hU;obtain⟨_,_,_,_,hsz,_⟩:=hU2;have hl:∀i,i<ops.size→listed.getD i false=true:=by
    intro i hi;have h1:(List.range ops.size).countP (fun i=>!listed.getD i false)=0:=by omega
    rw[List.countP_eq_zero]at h1;have:=h1 i (List.mem_range.2 hi);simpa using this
   refine⟨?_,hdone listed a w hU hl⟩;rw[List.eq_nil_iff_forall_not_mem];intro i hi;rw[mem_ready]at hi;obtain⟨h1,o,ho,_⟩:=hi;have hlt:i<ops.size:=(Array.getElem?_eq_some_iff.1 ho).1;have h2:=hl i hlt;simp[Array.getD_eq_getD_getElem?,hsz▸hlt]at h1 h2;rw[h1]at h2;cases h2
  |succ fuel ih=>
   intro listed a w hc hU;have hU2:=hU;obtain⟨_,_,_,_,hsz,_⟩:=hU2;refine⟨fun hr=>hdone listed a w hU (hall listed hsz hr),fun i hi=>?_⟩;obtain⟨x,rfl,hv,hinv,_,hdc⟩:=hU;rw[mem_ready]at hi;obtain⟨h1,o,ho,hdeps⟩:=hi;have hlt:i<ops.size:=(Array.getElem?_eq_some_iff.1 ho).1;have hil:i<listed.size:=by omega
   have hnl:listed.getD i false=false:=by simp[Array.getD_eq_getD_getElem?,hil]at h1⊢;exact h1
   have hanc:∀j∈anc ops i,listed.getD j false=true:=by
    intro j hj;rcases F.clo i o j ho hj with h|⟨k,hk,h⟩
    ·obtain⟨⟨e,he,hb,rfl⟩,_⟩:=F.dep i o j ho h;exact hdeps e he hb
    ·obtain⟨⟨e,he,hb,rfl⟩,_⟩:=F.dep i o k ho hk;exact hdc e.on (hdeps e he hb) j h
   have hsel:=Region.noSelect_spec F.sel;have hdesc:∀j,j=i∨i∈anc ops j→listed.getD j false=false:=by
    rintro j (rfl|hj)
    ·exact hnl
    ·cases hc:listed.getD j false with
     |false=>rfl
     |true=>
      have h5:=hdc j hc i hj;rw[hnl]at h5;cases h5
   refine wpOp_of_step (R:=fun v w'=>True∧Ext i w w'∧Inv (fun j=>if j=i then true else listed.getD j false) (fun j=>if j=i then v else x j) w'∧V i v w') ho (fun cs b=>hsel i o cs b ho) (by rw[gets_size,gets_size]) (same_looks F ho x a0 _ (fun j hj=>mem_sel.2 ⟨anc_lt F i j hj,hanc j hj⟩) (fun j hj=>(mem_sel.1 hj).1) (anc_lt F i) (fun j hj hi=>by have h5:=hdc j (mem_sel.1 hj).2 i hi;rw[hnl]at h5;cases h5)) (hstep i o ho x w _ hinv hanc hdesc (fun j hj=>hv j (hanc j (hN i j hj).1) (fun k hk=>hdesc k ((hN i j hj).2 k hk)))) ?_;rintro v w' ⟨_,hext,hinv',hvi⟩;have hget:∀j,(listed.setIfInBounds i true).getD j false=(decide (j=i)||listed.getD j false):=fun j=>listed_set hil;have hfun:(fun j=>(listed.setIfInBounds i true).getD j false)=(fun j=>if j=i then true else listed.getD j false):=by
    funext j;rw[hget];by_cases hji:j=i<;>simp[hji]
   refine ih _ _ w' ?_ ⟨fun j=>if j=i then v else x j,?_,?_,by rw[hfun];exact hinv',by simpa using hsz,?_⟩
   ·have h2:=count_split (fun j=>!listed.getD j false) (fun j=>decide (j≠i)) (List.range ops.size);have h3:0<(List.range ops.size).countP (fun j=>(!listed.getD j false)&&!decide (j≠i)):=by
     rw[List.countP_pos_iff];exact⟨i,List.mem_range.2 hlt,by simp[hnl]⟩
    have h4:(List.range ops.size).countP (fun j=>!(listed.setIfInBounds i true).getD j false)=(List.range ops.size).countP (fun j=>(!listed.getD j false)&&decide (j≠i)):=by
     congr 1;funext j;rw[hget];by_cases hji:j=i<;>simp[hji]
    omega
   ·have hdst:=dst_of ho;refine act_ext (by rw[put_defers,gets_defers,gets_defers]) (by rw[put_size,gets_size,gets_size]) (fun d=>?_);by_cases hd:o.dst=some d
    ·rw[gets_at _ d i (hdst.trans hd) _ a0 (mem_sel.2 ⟨hlt,by rw[hget];simp⟩) (fun k hk he=>F.inj k i d (mem_sel.1 hk).1 hlt he (hdst.trans hd)),hd];simp only[Act.put,Array.getElem?_setIfInBounds,if_true,gets_size]
    ·have hput:(Act.put (gets ops x a0 (selL ops.size listed)) o.dst v).tmps[d]?=(gets ops x a0 (selL ops.size listed)).tmps[d]?:=by
      cases he:o.dst with
      |none=>rfl
      |some t=>
       have hne:t≠d:=fun h'=>hd (by rw[he,h']);simp[Act.put,Array.getElem?_setIfInBounds_ne hne]
     rw[hput];by_cases hex:∃j,j∈selL ops.size listed∧dstOf ops j=some d
     ·obtain⟨j,hj,hjd⟩:=hex;have hji:j≠i:=fun e=>hd (by rw[←hdst,←e];exact hjd);rw[gets_at x d j hjd _ a0 hj (fun k hk he=>F.inj k j d (mem_sel.1 hk).1 (mem_sel.1 hj).1 he hjd),gets_at _ d j hjd _ a0 (mem_sel.2 ⟨(mem_sel.1 hj).1,by rw[hget,(mem_sel.1 hj).2];simp⟩) (fun k hk he=>F.inj k j d (mem_sel.1 hk).1 (mem_sel.1 hj).1 he hjd)];simp only[hji,if_false]
     ·rw[gets_other x d _ a0 (fun j hj he=>hex ⟨j,hj,he⟩),gets_other _ d _ a0 (fun j hj he=>?_)];have hj2:=(mem_sel.1 hj).2;rw[hget]at hj2;by_cases hji:j=i
      ·subst hji;exact hd (by rw[←hdst];exact he)
      ·simp[hji]at hj2;exact hex ⟨j,mem_sel.2 ⟨(mem_sel.1 hj).1,by simpa using hj2⟩,he⟩
   ·intro j hj hlive;rw[hget]at hj;by_cases hji:j=i
    ·subst hji;simpa using hvi
    ·simp only[hji,decide_false,Bool.false_or]at hj;simp only[hji,if_false];have hlive2:∀k∈K j,listed.getD k false=false∧k≠i:=fun k hk=>by
      have h8:=hlive k hk;rw[hget]at h8;by_cases hki:k=i
      ·simp[hki]at h8
      ·simp only[hki,decide_false,Bool.false_or]at h8;exact⟨h8,hki⟩
     refine hmono j i ?_ hlt (fun e=>hji e.symm) (fun hm=>?_) (fun hm=>(hlive2 i hm).2 rfl) _ w w' hext (hv j hj (fun k hk=>(hlive2 k hk).1))
     ·rcases Nat.lt_or_ge j ops.size with h|h
      ·exact h
      ·simp[Array.getD_eq_getD_getElem?,Array.getElem?_eq_none (show listed.size≤j by omega)]at hj
     ·have h5:=hdc j hj i hm;rw[hnl]at h5;cases h5
   ·intro j hj k hk;rw[hget]at hj⊢;by_cases hji:j=i
    ·subst hji;rw[hanc k hk];simp
    ·simp only[hji,decide_false,Bool.false_or]at hj;rw[hdc j hj k hk];simp
 have hd0:(fun j=>(Array.replicate ops.size false).getD j false)=(fun _=>false):=by
  funext j;simp[Array.getD_eq_getD_getElem?,Array.getElem?_replicate];split<;>rfl
 refine key _ _ _ _ ?_ ⟨fun _=>undef,?_,?_,by rw[hd0];exact h0 _,by simp,?_⟩
 ·exact Nat.le_trans (List.countP_le_length) (by simp)
 ·have:selL ops.size (Array.replicate ops.size false)=[]:=by
   unfold selL;rw[List.filter_eq_nil_iff];intro i hi;simp[Array.getD_eq_getD_getElem?,Array.getElem?_replicate];split<;>simp
  rw[this];rfl
 ·intro i hi;simp[Array.getD_eq_getD_getElem?,Array.getElem?_replicate]at hi;split at hi<;>simp at hi
 ·intro i hi;simp[Array.getD_eq_getD_getElem?,Array.getElem?_replicate]at hi;split at hi<;>simp at hi
def Before (L:Nat→Bool)(A:List Nat)(B:List Nat):Prop:=(∀j∈A,L j=true)∧(∀j∈B,L j=false)
def Steps3 (P:Program)(ops:Array Oper)(Inv:(Nat→Bool)→(Nat→Value)→World→Prop)(V:Nat→Value→World→Prop)(Ext:Nat→World→World→Prop)(D:List (Option Tmp))(a0:Act):Nat→List (List Nat)→List (List Nat)→List (List Nat)→List Oper→Prop
 |k,A::As,B::Bs,N::Ns,o::l=>(∀x w L,Inv L x w→Before L A B→AllV V x w N→wpList P ops (StepPost (fun _=>True) (fun i v w'=>Inv (setB L k) (setV x k v) w'∧V i v w') (Ext k) k (getsD D x a0 A) o.dst w) [o] (getsD D x a0 A) w)∧Steps3 P ops Inv V Ext D a0 (k+1) As Bs Ns l
 |_,_,_,_,_=>True
theorem steps_at3 {Inv:(Nat→Bool)→(Nat→Value)→World→Prop}{V:Nat→Value→World→Prop}{Ext:Nat→World→World→Prop}{D:List (Option Tmp)}{a0:Act}:∀{l:List Oper}{As Bs Ns:List (List Nat)}{k:Nat},Steps3 P ops Inv V Ext D a0 k As Bs Ns l→∀(i:Nat)(o:Oper)(A B N:List Nat),l[i]?=some o→As[i]?=some A→Bs[i]?=some B→Ns[i]?=some N→
 ∀x w L,Inv L x w→Before L A B→AllV V x w N→wpList P ops (StepPost (fun _=>True) (fun i' v w'=>Inv (setB L (k+i)) (setV x (k+i) v) w'∧V i' v w') (Ext (k+i)) (k+i) (getsD D x a0 A) o.dst w) [o] (getsD D x a0 A) w
 |[],_,_,_,_,_,i,o,A,B,N,h,_,_,_=>by simp at h
 |_::_,[],_,_,_,_,i,o,A,B,N,_,h,_,_=>by simp at h
 |_::_,_::_,[],_,_,_,i,o,A,B,N,_,_,h,_=>by simp at h
 |_::_,_::_,_::_,[],_,_,i,o,A,B,N,_,_,_,h=>by simp at h
 |o'::l,A'::As,B'::Bs,N'::Ns,k,hs,0,o,A,B,N,h1,h2,h3,h4=>by
  simp at h1 h2 h3 h4;subst h1 h2 h3 h4;exact hs.1
 |o'::l,A'::As,B'::Bs,N'::Ns,k,hs,i+1,o,A,B,N,h1,h2,h3,h4=>by
  simp at h1 h2 h3 h4;have:=steps_at3 hs.2 i o A B N h1 h2 h3 h4;rw[show k+(i+1)=k+1+i from by omega];exact this
def Steps4 (P:Program)(ops:Array Oper)(Inv:(Nat→Bool)→(Nat→Value)→World→Prop)(V:Nat→Value→World→Prop)(Ext:Nat→World→World→Prop):Nat→List (List Nat)→List (List Nat)→List (List Nat)→List ((Nat→Value)→Act)→List Oper→Prop
 |k,A::As,B::Bs,N::Ns,F::Fs,o::l=>(∀x w L,Inv L x w→Before L A B→AllV V x w N→wpList P ops (StepPost (fun _=>True) (fun i v w'=>Inv (setB L k) (setV x k v) w'∧V i v w') (Ext k) k (F x) o.dst w) [o] (F x) w)∧Steps4 P ops Inv V Ext (k+1) As Bs Ns Fs l
 |_,_,_,_,_,_=>True
theorem steps_of4 {Inv:(Nat→Bool)→(Nat→Value)→World→Prop}{V:Nat→Value→World→Prop}{Ext:Nat→World→World→Prop}{D:List (Option Tmp)}{a0:Act}:∀{l:List Oper}{As Bs Ns:List (List Nat)}{Fs:List ((Nat→Value)→Act)}{k:Nat},l.all noSel=true→FramesOk ops D a0 As Fs l→Steps4 P ops Inv V Ext k As Bs Ns Fs l→Steps3 P ops Inv V Ext D a0 k As Bs Ns l
 |[],As,Bs,Ns,Fs,k,_,_,_=>by cases As<;>cases Bs<;>cases Ns<;>trivial
 |o::l,[],Bs,Ns,Fs,k,_,h,_=>by cases Fs<;>trivial
 |o::l,A::As,[],Ns,Fs,k,_,h,_=>by trivial
 |o::l,A::As,B::Bs,[],Fs,k,_,h,_=>by trivial
 |o::l,A::As,B::Bs,N::Ns,[],k,_,h,_=>by cases h
 |o::l,A::As,B::Bs,N::Ns,F::Fs,k,hn,hf,hs=>by
  simp only[List.all_cons,Bool.and_eq_true]at hn;refine⟨fun x w L hI hL hV=>?_,steps_of4 hn.2 hf.2 hs.2⟩;obtain⟨h1,h2⟩:=hf.1 x;refine step_same (noSel_ne hn.1) (F:=F x) (fun d hd=>?_) (fun d hd=>?_) (hs.1 x w L hI hL hV)
  ·rw[hd]at h2;exact of_decide_eq_true h2
  ·exact List.map_inj_left.1 h1 d hd
def needsOk (n:Nat)(A K N:List (List Nat)):Bool:=(N.length==n)&&(List.range n).all fun i=>(N.getD i []).all fun j=>(A.getD i []).contains j&&(K.getD j []).all fun k=>k==i||(A.getD k []).contains i
def descT (n:Nat)(A:List (List Nat)):List (List Nat):=(List.range n).map fun i=>(List.range n).filter fun j=>j==i||(A.getD j []).contains i
theorem region_lit3 {l:List Oper}{id:Nat}{Q:Exit→Act→World→Prop}{a0:Act}{w0:World}(hm:P.follows .mixedOrders=true)(hok:regionOk l.toArray=true)(hsel:l.all noSel=true)(A:List (List Nat))(hA:ancT l.toArray=A)(D:List (Option Tmp))(hD:(List.range l.toArray.size).map (dstOf l.toArray)=D)
 (B:List (List Nat)) (hB:descT l.length A=B) (K N:List (List Nat)) (hN:needsOk l.length A K N=true) (Inv:(Nat→Bool)→(Nat→Value)→World→Prop) (V:Nat→Value→World→Prop) (Ext:Nat→World→World→Prop) (Fs:List ((Nat→Value)→Act)) (hF:FramesOk l.toArray D a0 A Fs l)
 (hmono:∀i j,i<l.length→j<l.length→j≠i→j∉A.getD i []→j∉K.getD i []→∀v w w',Ext j w w'→V i v w→V i v w') (h0:∀x,Inv (fun _=>false) x w0.drew) (hstep:Steps4 P l.toArray Inv V Ext 0 A B N Fs l)
 (E:List Nat) (hE:((List.range l.length).filter fun i=>(K.getD i []).isEmpty)=E) (hend:∀x w L,(∀i,i<l.length→L i=true)→Inv L x w→AllV V x w E→Q .normal (getsD D x a0 (List.range l.length)) w):(Code.region id l.toArray true).wp P Q a0 w0:=by
 have F:=facts_of hok;have hz:l.toArray.size=l.length:=by simp
 have hst:=steps_of4 (a0:=a0) hsel hF hstep;have hancA:∀j,anc l.toArray j=A.getD j []:=fun j=>by unfold anc;rw[hA]
 have hNn:=hN;simp only[needsOk,Bool.and_eq_true,beq_iff_eq,List.all_eq_true,List.mem_range,List.contains_iff_mem,Bool.or_eq_true]at hNn;obtain⟨hNl,hNa⟩:=hNn;refine region_rule3 hm hok Inv V Ext (fun i=>K.getD i []) (fun i=>N.getD i []) (fun i j hj=>?_) (fun i j hi hj hne hna=>?_) h0 (fun i o ho x w L hI hL1 hL2 hV=>?_) (fun x w L hL hI hV=>?_)
 ·by_cases hi:i<l.length
  ·have h1:=hNa i hi j hj;rw[hancA];exact⟨h1.1,fun k hk=>(h1.2 k hk).imp_right fun h=>by rw[hancA];exact h⟩
  ·have hj2:j∈N.getD i []:=hj;simp only[List.getD,List.getElem?_eq_none (show N.length≤i by omega),Option.getD_none]at hj2;cases hj2
 ·refine hmono i j (by omega) (by omega) hne (fun h=>hna ?_);rw[hancA];exact h
 ·have hil:i<l.toArray.size:=(Array.getElem?_eq_some_iff.1 ho).1;have hAl:A[i]?=some (anc l.toArray i):=by
   have hlen:∀(n:Nat)(f:List (List Nat)→Nat→List Nat),((List.range n).foldl (fun T i=>T++[f T i]) []).length=n:=by
    intro n f
    induction n with
    |zero=>rfl
    |succ n ihn=>rw[List.range_succ,List.foldl_append];simp[ihn]
   have h1:A.length=l.toArray.size:=by rw[←hA];exact hlen _ _
   rw[List.getElem?_eq_getElem (by omega),hancA];simp only[List.getD,List.getElem?_eq_getElem (show i<A.length by omega),Option.getD_some]
  have hBl:B[i]?=some ((List.range l.length).filter fun j=>j==i||(A.getD j []).contains i):=by
   rw[←hB];unfold descT;rw[List.getElem?_map,List.getElem?_range (by omega)];rfl
  have hNl2:N[i]?=some (N.getD i []):=by simp only[List.getD,List.getElem?_eq_getElem (show i<N.length by omega),Option.getD_some]
  have h2:=steps_at3 hst i o _ _ _ (by simpa using ho) hAl hBl hNl2 x w L hI ⟨hL1,fun j hj=>?_⟩ (allV_of hV)
  ·rw[Nat.zero_add,getsD_eq x hD _ _ (anc_lt F i)]at h2;exact h2
  ·simp only[List.mem_filter,Bool.or_eq_true,beq_iff_eq,List.contains_iff_mem]at hj;refine hL2 j ?_;rw[hancA];exact hj.2
 ·have h2:=hend x w L (by simpa using hL) hI (allV_of fun j hj=>by
   rw[←hE,List.mem_filter,List.mem_range,List.isEmpty_iff]at hj;exact hV j (by simpa using hj.1) hj.2)
  rw[getsD_eq x hD _ _ (fun j hj=>by simpa using hj)]at h2;rw[hz];exact h2
end
end Go.Proofs.YtkbfhgcjimfgkaaDoor
set_option linter.unusedSimpArgs false
namespace Go.Proofs.YtkbfhgcjimfgkaaDoor
open Go.RowKit
theorem flat_get (l:Op)(j:Nat)(u:Value)(h:(flat l)[j]?=some u):∃p,l[j/3]?=some p∧(partCells p)[j%3]?=some u:=by
 have hlt:=(List.getElem?_eq_some_iff.1 h).1;rw[flat_len]at hlt;have hi:j/3<l.length:=by omega
 refine⟨l[j/3],List.getElem?_eq_getElem hi,?_⟩;obtain⟨h1,h2,h3⟩:=flat_at l (j/3) _ (List.getElem?_eq_getElem hi);have hj:j=j/3*3+j%3:=by omega
 have hr:j%3<3:=Nat.mod_lt _ (by decide);generalize j%3=r at*;generalize j/3=i at*;subst hj
 match r,hr with
 |0,_=>rw[Nat.add_zero,h1]at h;simpa[partCells]using h
 |1,_=>rw[h2]at h;simpa[partCells]using h
 |2,_=>rw[h3]at h;simpa[partCells]using h
theorem RdS.news {A:Nat→Prop}{w:World}{l:Op}{b off n c:Nat}(hr:RdS A w l (some ⟨b,off,none⟩) n c)(hn:0<n):∀j u,(flat l)[j]?=some u→w.cell? ((⟨b,off,none⟩:Addr).add j)=some u:=by
 intro j u hu;obtain⟨b',off',e,_,_,he⟩:=hr.2.2.2.2 hn;injection e with e;injection e with e1 e2;subst e1 e2;obtain⟨p,hp,hq⟩:=flat_get l j u hu;obtain⟨xs,⟨rfl,_⟩,h4⟩:=he (j/3) p hp;have h5:=h4 (j%3) u hq;have ea:(⟨b,off,none⟩:Addr).add j=⟨b,off+j,none⟩:=by
  unfold Addr.add;split
  ·rename_i h0;rw[h0];rfl
  ·rfl
 rw[ea];simp only[Rep.n]at h5;rw[show off+j=off+j/3*3+j%3 from by omega];exact h5
def Fits (l:Op):Prop:=∀p∈l,I64 p.kind∧I64 p.n∧p.text.size≤strMax
theorem RdS.fits {A:Nat→Prop}{w:World}{l:Op}{a:Option Addr}{n c:Nat}(hr:RdS A w l a n c):Fits l:=by
 intro p hp;have hn:0<n:=by have:=hr.1;have:=List.length_pos_of_mem hp;omega
 obtain⟨b,off,_,_,_,hc⟩:=hr.part hn;obtain⟨i,hi,rfl⟩:=List.getElem_of_mem hp;obtain⟨h1,h2,h3,_⟩:=hc i hi;exact⟨h1,h2,h3⟩
theorem RdS.of_own {w:World}{base:Nat}{l:Op}{v:Value}(h:w.ownsRow base 53 3 v l.length (flat l))(hp:Fits l):∃a c,v=.slice a l.length c∧RdS (fun b=>base≤b∧b<w.heap.size) w l a l.length c:=by
 obtain⟨a,n,c,hv,hr⟩:=RdS.of_row (α:=Part) (A:=fun b=>base≤b∧b<w.heap.size) h (fun b hb=>h.lt b hb) (fun i x hx=>⟨partCells x,⟨rfl,hp x (List.mem_of_getElem? hx)⟩,fun j u hu=>by
  obtain⟨h1,h2,h3⟩:=flat_at l i x hx;simp only[Rep.n]
  match j,hu with
  |0,hu=>simp[partCells]at hu;rw[←hu];exact h1
  |1,hu=>simp[partCells]at hu;rw[←hu];exact h2
  |2,hu=>simp[partCells]at hu;rw[←hu];exact h3⟩)
 have hn:=hr.1;subst hn;exact⟨a,c,hv,hr⟩
theorem RdS.nil' {α:Type} [Rep α] (A:Nat→Prop)(w:World)(a:Option Addr)(c:Nat)(hc:c≤maxLen)(ha:a=none→c=0):RdS (α:=α) A w [] a 0 c:=⟨rfl,Nat.zero_le _,hc,ha,fun h=>absurd h (by omega)⟩
theorem run_append_empty {P:Program}{w:World}(t ty e:TypeId)(i:TypeInfo)(ht:P.underlying t=some (.slice e))(hi:P.info? e=some i)(a ax:Option Addr)(c cx:Nat):
 (Builtin.append_ #[t,t] ty #[.slice a 0 c,.slice ax 0 cx]).run P w=.ok (.slice a 0 c) w:=by
 cases a<;>cases ax<;>simp[Builtin.append_,run_underlying ht,sizeOf,typeInfo,hi,Builtin.lenOf,Builtin.firstCells,storeCells,loadCells,loadCellsFrom]
theorem wpList_append_empty {P:Program}{w:World}{ops:Array Oper}{rest:List Oper}{o:Oper}{a:Act}{Q:Exit→Act→World→Prop}(hgd:o.guard=none)(s x:Operand)(t:TypeId)
 (ho:o.op=.call {callee:=.builtin .append,args:=#[s,x],argTypes:=#[t,t]}) (e:TypeId) (i:TypeInfo) (ht:P.underlying t=some (.slice e)) (hi:P.info? e=some i)
 (b:Option Addr) (c:Nat) (hs:a.eval s=.slice b 0 c) (ax:Option Addr) (cx:Nat) (hx:a.eval x=.slice ax 0 cx) (h:wpList P ops Q rest (a.put o.dst (.slice b 0 c)) w):wpList P ops Q (o::rest) a w:=by
 refine wpList_plain hgd fun K hK=>?_;have hrun:=run_append_empty (P:=P) (w:=w) t o.type e i ht hi b ax c cx;unfold Oper.wp;simp[execOp,ho,resolve,invoke,builtin,hs,hx,hrun,Result.andThen];exact hK _ _ h
def CopyPost (w:World)(o:Op)(e:Ending)(w':World):Prop:=
 ∃a c,e=.returned (.slice a o.length c)∧RdS (fun b=>w.heap.size≤b∧b<w'.heap.size) w' o a o.length c∧Below w.heap.size w w'
end Go.Proofs.YtkbfhgcjimfgkaaDoor
namespace Go.Proofs.YtkbfhgcjimfgkaaDoor
open Go.RowKit
theorem Blk.set {w:World}{g T:Nat}{cs:Array Value}(h:Blk g (.cells cs T (0,0)) w)(i:Nat)(v:Value):Blk g (.cells (cs.setIfInBounds i v) T (0,0)) (w.setCell ⟨g,i,none⟩ v):=by
 have hlt:g<w.heap.size:=h.lt;unfold Blk at h⊢;simp[World.setCell,Array.getElem?_modify,h]
theorem Blk.other {w:World}{g:Nat}{o:Obj}(h:Blk g o w){p:Addr}(hp:p.block≠g)(v:Value):Blk g o (w.setCell p v):=(Below.heap_setCell w p v g (fun e=>hp e.symm)).trans h
theorem Blk.touch {w w':World}{S:Nat→Prop}{g:Nat}{o:Obj}(h:Blk g o w)(ht:Touch S w w')(hs:¬S g):Blk g o w':=(ht.block g h.lt hs).trans h
theorem Blk.grown {w w':World}{r:Option Nat}{g:Nat}{o:Obj}(h:Blk g o w)(ht:w.grownBy w' r)(hs:some g≠r):Blk g o w':=(ht.block g h.lt hs).trans h
theorem Blk.frozen {b:Nat}{cs:Array Value}{t:Nat}{W:World}(h:Blk b (.cells cs t (0,0)) W)(i:Nat):W.frozen? ⟨b,i,none⟩=false:=frozen_of_row _ _ _ _ _ h
section
variable {α:Type} [Rep α] {B:Nat} {W W':World} {l:List α} {a:Option Addr} {n c:Nat}
theorem RdS.freshB (h:RdS (fun b=>B≤b∧b<W.heap.size) W l a n c)(hE:Below W.heap.size W W'):RdS (fun b=>B≤b∧b<W'.heap.size) W' l a n c:=
 h.mono fun b hb=>⟨⟨hb.1,Nat.lt_of_lt_of_le hb.2 hE.size⟩,hE.block b hb.2⟩
theorem RdS.freshG {r:Option Nat}(h:RdS (fun b=>B≤b∧b<W.heap.size) W l a n c)(hE:W.grownBy W' r)(hr:∀k,r=some k→k<B):RdS (fun b=>B≤b∧b<W'.heap.size) W' l a n c:=
 h.mono fun b hb=>⟨⟨hb.1,Nat.lt_of_lt_of_le hb.2 hE.size⟩,hE.block b hb.2 fun e=>by have:=hr b e.symm;omega⟩
theorem RdS.freshT {S:Nat→Prop}(h:RdS (fun b=>B≤b∧b<W.heap.size) W l a n c)(hE:Touch S W W')(hr:∀k,S k→k<B):RdS (fun b=>B≤b∧b<W'.heap.size) W' l a n c:=
 h.mono fun b hb=>⟨⟨hb.1,Nat.lt_of_lt_of_le hb.2 hE.size⟩,hE.block b hb.2 fun e=>by have:=hr b e;omega⟩
end
theorem Blk.set3 {w:World}{g T:Nat}{x y z:Value}(h:Blk g (.cells #[x,y,z] T (0,0)) w)(x' y' z':Value):Blk g (.cells #[x',y',z'] T (0,0)) (((w.setCell ⟨g,0,none⟩ x').setCell ⟨g,1,none⟩ y').setCell ⟨g,2,none⟩ z'):=((h.set 0 x').set 1 y').set 2 z'
theorem touch1 {g i:Nat}{w:World}(x:Value):Touch (fun b=>b=g) w (w.setCell ⟨g,i,none⟩ x):=Touch.setCell (S:=fun b=>b=g) (Touch.refl _ _) (.inl rfl) _
theorem touch3 {g:Nat}{w:World}(x y z:Value):Touch (fun b=>b=g) w (((w.setCell ⟨g,0,none⟩ x).setCell ⟨g,1,none⟩ y).setCell ⟨g,2,none⟩ z):=((touch1 x).trans (touch1 y)).trans (touch1 z)
theorem abs_ret {P:Program}{fn:Func}{R:Ending→World→Prop}{ex:Exit}{a:Act}{W0:World}(Q:World→Prop)(hQ:Q W0)(k:∀W,Q W→bodyPost P fn R ex a W):bodyPost P fn R ex a W0:=k W0 hQ
def Reads {α:Type} [Rep α] (A:Nat→Prop)(w:World)(l:List α)(xs:List Value):Prop:=
 ∀(i:Nat)(x:α),l[i]?=some x→∃ys,Rep.rd A w x ys∧∀(j:Nat)(u:Value),ys[j]?=some u→xs[i*Rep.n α+j]?=some u
theorem Reads.mono {α:Type} [Rep α] {A A':Nat→Prop}{w w':World}{l:List α}{xs:List Value}(h:Reads A w l xs)(hA:∀b,A b→A' b∧w'.heap[b]?=w.heap[b]?):Reads A' w' l xs:=by
 intro i x hi;obtain⟨ys,h1,h2⟩:=h i x hi;exact⟨ys,Rep.mono hA h1,h2⟩
structure Own {α:Type} [Rep α] (X:Nat→Prop) (base e:Nat) (v:Value) (l:List α) (w:World):Prop where
 row:∃xs,w.ownsRow base e (Rep.n α) v l.length xs∧Reads (fun b=>b<w.heap.size∧¬X b∧v.ownBlock≠some b) w l xs
section
variable {α:Type} [Rep α] {X:Nat→Prop} {base e:Nat} {v:Value} {l:List α} {w w':World}
theorem Own.nil:Own (α:=α) X base e (.slice none 0 0) [] w:=⟨[],World.ownsRow_nil _ _ _ _,fun i x h=>by simp at h⟩
theorem Own.rowlt (h:Own X base e v l w):∀k,v.ownBlock=some k→base≤k∧k<w.heap.size:=by
 obtain⟨xs,h1,_⟩:=h.row;exact h1.lt
theorem Own.form (h:Own X base e v l w):∃a c,v=.slice a l.length c:=by
 obtain⟨xs,h1,_⟩:=h.row;rcases h1.2 with⟨hv,h0⟩|⟨g,cap,cur,hv,_⟩
 ·exact⟨none,0,by rw[hv,h0]⟩
 ·exact⟨_,_,hv⟩
theorem Own.keep (h:Own X base e v l w)(hs:w.heap.size≤w'.heap.size)(hk:∀k,k<w.heap.size→(¬X k∨v.ownBlock=some k)→w'.heap[k]?=w.heap[k]?):Own X base e v l w':=by
 obtain⟨xs,h1,h2⟩:=h.row;refine⟨xs,⟨h1.1,?_⟩,h2.mono fun b hb=>⟨⟨by omega,hb.2⟩,hk b hb.1 (.inl hb.2.1)⟩⟩;rcases h1.2 with hn|⟨g,cap,cur,hv,hb,hg,rest⟩
 ·exact .inl hn
 ·exact .inr ⟨g,cap,cur,hv,hb,(hk g (Array.getElem?_eq_some_iff.1 hg).1 (.inr (by rw[hv];rfl))).trans hg,rest⟩
theorem Own.go (h:Own X base e v l w)(hb:Below w.heap.size w w'):Own X base e v l w':=h.keep hb.size fun k hk _=>hb.block k hk
theorem Own.touch {S:Nat→Prop}(h:Own X base e v l w)(ht:Touch S w w')(hS:∀k,k<w.heap.size→S k→X k∧v.ownBlock≠some k):Own X base e v l w':=
 h.keep ht.size fun k hk hx=>ht.block k hk fun hs=>by
  have:=hS k hk hs;rcases hx with hx|hx
  ·exact hx this.1
  ·exact this.2 hx
theorem Own.less {X':Nat→Prop}(h:Own X base e v l w)(hX:∀k,X' k→X k):Own X' base e v l w:=by
 obtain⟨xs,h1,h2⟩:=h.row;exact⟨xs,h1,h2.mono fun b hb=>⟨⟨hb.1,fun hx=>hb.2.1 (hX b hx),hb.2.2⟩,rfl⟩⟩
theorem Own.low {base':Nat}(h:Own X base e v l w)(hb:base'≤base):Own X base' e v l w:=by
 obtain⟨xs,h1,h2⟩:=h.row;refine⟨xs,⟨h1.1,?_⟩,h2⟩;rcases h1.2 with hn|⟨g,cap,cur,hv,hb',rest⟩
 ·exact .inl hn
 ·exact .inr ⟨g,cap,cur,hv,by omega,rest⟩
theorem Own.more {X':Nat→Prop}(h:Own X base e v l w)(hX:∀k,k<w.heap.size→X' k→X k):Own X' base e v l w:=by
 obtain⟨xs,h1,h2⟩:=h.row;exact⟨xs,h1,h2.mono fun b hb=>⟨⟨hb.1,fun hx=>hb.2.1 (hX b hb.1 hx),hb.2.2⟩,rfl⟩⟩
theorem Own.rd (h:Own X base e v l w)(hX:∀k,v.ownBlock=some k→¬X k):∃a c,v=.slice a l.length c∧RdS (fun b=>b<w.heap.size∧¬X b) w l a l.length c:=by
 obtain⟨xs,h1,h2⟩:=h.row;obtain⟨a,n,c,hv,hr⟩:=RdS.of_row (A:=fun b=>b<w.heap.size∧¬X b) h1 (fun b hb=>⟨(h1.lt b hb).2,hX b hb⟩) (h2.mono fun b hb=>⟨⟨hb.1,hb.2.1⟩,rfl⟩);have hn:=hr.1;subst hn;exact⟨a,c,hv,hr⟩
theorem Own.snoc {xs ys:List Value}{x:α}{g cap:Nat}{w1:World}(hr:Reads (fun b=>b<w.heap.size∧¬X b∧v.ownBlock≠some b) w l xs)(hl:xs.length=l.length*Rep.n α)(hx:Rep.rd (fun b=>b<w.heap.size∧¬X b∧v.ownBlock≠some b) w x ys)
 (hown:w1.ownsRow base e (Rep.n α) (.slice (some ⟨g,0,none⟩) (l.length+1) cap) (l.length+1) (xs++ys)) (hgrow:w.grownBy w1 v.ownBlock) (hat:v.ownBlock=some g∨g=w.heap.size):Own X base e (.slice (some ⟨g,0,none⟩) (l.length+1) cap) (l++[x]) w1:=by
 have hA:∀b,(b<w.heap.size∧¬X b∧v.ownBlock≠some b)→(b<w1.heap.size∧¬X b∧(Value.slice (some ⟨g,0,none⟩) (l.length+1) cap).ownBlock≠some b)∧w1.heap[b]?=w.heap[b]?:=by
  rintro b ⟨h1,h2,h3⟩;refine⟨⟨Nat.lt_of_lt_of_le h1 hgrow.size,h2,?_⟩,hgrow.block b h1 (fun e=>h3 e.symm)⟩
  show some g≠some b
  rcases hat with h|h
  ·rw[←h];exact h3
  ·intro e;injection e with e;omega
 refine⟨xs++ys,by simpa using hown,fun i y hi=>?_⟩;by_cases hil:i<l.length
 ·rw[List.getElem?_append_left hil]at hi;obtain⟨zs,h1,h2⟩:=hr i y hi;refine⟨zs,Rep.mono hA h1,fun j u hj=>?_⟩;have h3:=h2 j u hj;rw[List.getElem?_append_left (List.getElem?_eq_some_iff.1 h3).1];exact h3
 ·rw[List.getElem?_append_right (by omega)]at hi;have hi0:i=l.length:=by
   have:=(List.getElem?_eq_some_iff.1 hi).1;simp at this;omega
  subst hi0;simp at hi;subst hi;refine⟨ys,Rep.mono hA hx,fun j u hj=>?_⟩;rw[List.getElem?_append_right (by omega),hl,Nat.add_sub_cancel_left];exact hj
end
theorem wpList_append_one {α:Type} [Rep α] {P:Program}{X:Nat→Prop}{w:World}{ops:Array Oper}{rest:List Oper}{o:Oper}{a:Act}{Q:Exit→Act→World→Prop}(hgd:o.guard=none)(s x:Operand)(t:TypeId)
 (ho:o.op=.call {callee:=.builtin .append,args:=#[s,x],argTypes:=#[t,t]})
 (base:Nat) (e:TypeId) (i:TypeInfo) (z:Value) (bytes:Nat) (ht:P.underlying t=some (.slice e)) (hi:P.info? e=some i) (hz:i.zero=some z)
 (hsize:i.size=Rep.n α) (hby:i.bytes=bytes) (hzs:z.cells.size=Rep.n α)
 (v:Value) (l:List α) (hs:a.eval s=v) (hown:Own X base e v l w)
 (gb c tb:Nat) (ys:List Value) (y:α) (hx:a.eval x=.slice (some ⟨gb,0,none⟩) 1 c) (hblk:Blk gb (.cells ys.toArray tb (0,0)) w) (hy:Rep.rd (fun b=>b<w.heap.size∧¬X b∧v.ownBlock≠some b) w y ys)
 (h63:l.length+1≤maxLen) (hbytes:(l.length+1)*bytes≤140737488355328) (hbase:base≤w.heap.size)
 (h:∀g cap w',Own X base e (.slice (some ⟨g,0,none⟩) (l.length+1) cap) (l++[y]) w'→w.grownBy w' v.ownBlock→(v.ownBlock=some g∨g=w.heap.size)→g<w'.heap.size→wpList P ops Q rest (a.put o.dst (.slice (some ⟨g,0,none⟩) (l.length+1) cap)) w'):wpList P ops Q (o::rest) a w:=by
 obtain⟨xs,h1,h2⟩:=hown.row;have hyl:=Rep.len hy;refine wpList_append_lies w hgd s x t ho base e i z (Rep.n α) bytes ht hi hz hsize hby hzs Rep.pos v l.length xs hs h1 ⟨gb,0,none⟩ 1 c ys hx (by omega) (news_at hblk) (Rep.one hy) (by omega) h63 hbytes hbase w.heap.size rfl ?_;intro g cap w' hw hg hat hlt;exact h g cap w' (Own.snoc h2 h1.1 hy hw hg hat) hg hat hlt
end Go.Proofs.YtkbfhgcjimfgkaaDoor
set_option linter.unusedSimpArgs false
namespace Go.Proofs.YtkbfhgcjimfgkaaDoor
open Go.RowKit
set_option maxRecDepth 100000 in
set_option maxHeartbeats 1000000 in
theorem clone_any (o:Op)(a:Option Addr)(n c:Nat)(w:World)(hr:RdS (· <w.heap.size) w o a n c)(hn:n≤1000000000):
 Calls Tryd.prog 82 #[.slice a n c] w (CopyPost w o):=by
 obtain⟨i0,hi,hz0,hz1,hz2⟩:=info_parts infoP;have hnl:=hr.1;have hfit:=hr.fits;by_cases h0:n=0
 ·have ho:o=[]:=List.eq_nil_of_length_eq_zero (by omega);subst ho h0;have hca:=hr.2.2.2.1;clear hr hfit hnl;cases a with
  |none=>
   have Hfin:Hid (CopyPost w [] (.returned (.slice none 0 0)) w):=⟨none,0,rfl,RdS.nil' _ _ _ _ (by unfold maxLen;omega) (fun _=>rfl),Below.refl _ _⟩;have hc0:c=0:=hca rfl;subst hc0;clear hca;have heq:=fun W:World=>Lib.run_eql_slice_nil (P:=Tryd.prog) W 42 53 none 0 0 0 0 Tryd.underlying42;go_enter Tryd.func82,Tryd.ntmps82;go_wp2_with fail
   go_ret
   exact Hfin.out
  |some ad=>
   clear hca;have Hfin:Hid (CopyPost w [] (.returned (.slice (some ⟨w.heap.size,0,none⟩) 0 0)) (w.alloc (.cells #[] 53))):=⟨some ⟨w.heap.size,0,none⟩,0,rfl,RdS.nil' _ _ _ _ (by unfold maxLen;omega) (fun h=>by cases h),(Below.refl _ _).alloc (Nat.le_refl _) _⟩;have heq:=fun W:World=>Lib.run_eql_slice_nil (P:=Tryd.prog) W 42 53 (some ad) 0 c 0 0 Tryd.underlying42;go_enter Tryd.func82,Tryd.ntmps82;go_wp2_with (at_builtin;refine wpList_append_empty rfl _ _ _ (by rfl) 53 i0 Tryd.underlying42 hi (some ⟨w.heap.size,0,none⟩) 0 (by rfl) (some ad) c (by rfl) ?_)
   go_ret
   exact Hfin.out
 ·obtain⟨b,off,rfl,_,hbs,_⟩:=hr.part (by omega);have hnews:=hr.news (by omega);have Hfit:=Lib.hid hfit;have Hnews:=Lib.hid (p:=∀W:World,Below w.heap.size w W→∀j u,(flat o)[j]?=some u→W.cell? ((⟨b,off,none⟩:Addr).add j)=some u) (fun W hW j u hu=>(hW.cell (p:=(⟨b,off,none⟩:Addr).add j) (by unfold Addr.add;split<;>exact hbs)).trans (hnews j u hu));have Hnl:=Lib.hid hnl;have hfl:(flat o).length=n*3:=by rw[flat_len];omega
  have Hfl:=Lib.hid hfl;have Hown:Hid ((w.alloc (.cells #[] 53)).ownsRow w.heap.size 53 3 (.slice (some ⟨w.heap.size,0,none⟩) 0 0) 0 []):=⟨rfl,.inr ⟨w.heap.size,0,#[],rfl,Nat.le_refl _,heap_alloc_new w _,Nat.le_refl _,by unfold maxLen;omega,rfl,rfl⟩⟩;clear hr hfit hnews hnl hfl;have heq:=fun W:World=>Lib.run_eql_slice_nil (P:=Tryd.prog) W 42 53 (some ⟨b,off,none⟩) n c 0 0 Tryd.underlying42;go_enter Tryd.func82,Tryd.ntmps82;go_wp2_with (at_builtin;refine wpList_append_lies _ rfl _ _ _ (by rfl) w.heap.size 53 i0 _ 3 32 Tryd.underlying42 hi hz0 hz1 hz2 rfl (by omega) (.slice (some ⟨w.heap.size,0,none⟩) 0 0) 0 [] (by rfl) Hown.out ⟨b,off,none⟩ n c (flat o) (by rfl) Hfl.out (Hnews.out _ ((Below.refl _ _).alloc (Nat.le_refl _) _)) (flat_one' o) (by omega) (by unfold maxLen;omega) (by omega) (by simp) (w.heap.size+1) (by simp) ?_);intro gg cap w1 hown1 hgrow hat hlt1;have Hfin:Hid (CopyPost w o (.returned (.slice (some ⟨gg,0,none⟩) n cap)) w1):=by
   have hnl:=Hnl.out
   try rw[Nat.zero_add]at hown1
   try rw[List.nil_append]at hown1
   rw[hnl]at hown1;obtain⟨a2,c2,hv,hr2⟩:=RdS.of_own hown1 Hfit.out;injection hv with h1 h2 h3;subst h1 h3;refine⟨_,_,by rw[hnl],hr2,?_⟩;exact((Below.refl _ _).alloc (Nat.le_refl _) _).grown hgrow (by simp) (fun g hg=>by simp[Value.ownBlock]at hg;omega)
  clear hown1 hgrow hat;go_wp2_with fail
  go_ret
  exact Hfin.out
end Go.Proofs.YtkbfhgcjimfgkaaDoor
set_option linter.unusedSimpArgs false
namespace Go.Proofs.YtkbfhgcjimfgkaaDoor
open Go.RowKit
theorem tape_setCells (b:Nat):∀(vs:List Value)(o:Nat)(w:World),(w.setCells b o vs).tape=w.tape
 |[],_,_=>rfl
 |v::vs,o,w=>by
  show((w.setCell ⟨b,o,none⟩ v).setCells b (o+1) vs).tape=w.tape
  rw[tape_setCells b vs];rfl
theorem size_setCells' (b:Nat):∀(vs:List Value)(o:Nat)(w:World),(w.setCells b o vs).heap.size=w.heap.size
 |[],_,_=>rfl
 |v::vs,o,w=>by
  show((w.setCell ⟨b,o,none⟩ v).setCells b (o+1) vs).heap.size=w.heap.size
  rw[size_setCells' b vs];simp
theorem grownBy_setCells (w:World)(g o:Nat)(vs:List Value):w.grownBy (w.setCells g o vs) (some g):=
 ⟨World.os_setCells w g o vs,tape_setCells g vs o w,World.output_setCells w g o vs,by rw[size_setCells'];exact Nat.le_refl _,fun k hk hne=>World.heap_setCells_other w g o vs hk (fun e=>hne (by rw[e]))⟩
theorem RdS.empty' {α:Type} [Rep α] (A:Nat→Prop)(w:World)(a:Option Addr):RdS (α:=α) A w [] a 0 0:=⟨rfl,Nat.le_refl _,by unfold maxLen;omega,fun _=>rfl,fun h=>absurd h (by omega)⟩
structure OwnO {α:Type} [Rep α] (X:Nat→Prop) (base:Nat) (v:Value) (l:List α) (w:World):Prop where
 row:(∃a,v=.slice a 0 0∧l=[]∧∀k,v.ownBlock=some k→base≤k∧k<w.heap.size)∨∃g off cap,v=.slice (some ⟨g,off,none⟩) l.length cap∧base≤g∧g<w.heap.size∧l.length≤cap∧cap≤maxLen∧
  (∀j,j<cap*Rep.n α→(w.cell? ⟨g,off+j,none⟩).isSome=true∧w.frozen? ⟨g,off+j,none⟩=false)∧Elems (fun b=>b<w.heap.size∧¬X b∧b≠g) w g off l
section
variable {α:Type} [Rep α] {X:Nat→Prop} {base e:Nat} {v:Value} {l:List α} {w w':World}
theorem Elems.imp {A A':Nat→Prop}{g off:Nat}(h:Elems A w g off l)(hg:w'.heap[g]?=w.heap[g]?)(hA:∀b,A b→A' b∧w'.heap[b]?=w.heap[b]?):Elems A' w' g off l:=by
 intro i x hx;obtain⟨xs,h1,h2⟩:=h i x hx;exact⟨xs,Rep.mono hA h1,fun j u hu=>(cell_keep hg).trans (h2 j u hu)⟩
theorem OwnO.of (h:Own X base e v l w):OwnO X base v l w:=by
 obtain⟨xs,h1,h2⟩:=h.row;have hcs:=fun(g:Nat)(hg:v.ownBlock=some g)=>h1.cells hg;rcases h1.2 with⟨hv,h0⟩|⟨g,cap,cur,hv,hb,hh,hnc,hcm,hsz,htk⟩
 ·exact⟨.inl ⟨none,hv,List.eq_nil_of_length_eq_zero h0,fun k hk=>by rw[hv]at hk;cases hk⟩⟩
 ·have hblk:Blk g (.cells cur e (0,0)) w:=hh;refine⟨.inr ⟨g,0,cap,hv,hb,hblk.lt,hnc,hcm,fun j hj=>⟨?_,hblk.frozen _⟩,fun i x hi=>?_⟩⟩
  ·rw[hblk.cell,Array.getElem?_eq_getElem (by omega)];rfl
  ·obtain⟨ys,hr,hy⟩:=h2 i x hi;refine⟨ys,Rep.mono (fun b hb=>⟨⟨hb.1,hb.2.1,fun e=>hb.2.2 (by rw[hv,e];rfl)⟩,rfl⟩) hr,fun j u hu=>?_⟩;have:=hcs g (by rw[hv];rfl) _ u (hy j u hu);rw[Addr.add_lit,Nat.zero_add]at this;rw[Nat.zero_add];exact this
theorem OwnO.nil:OwnO (α:=α) X base (.slice none 0 0) [] w:=⟨.inl ⟨none,rfl,rfl,fun k hk=>by cases hk⟩⟩
theorem OwnO.rowlt (h:OwnO X base v l w):∀k,v.ownBlock=some k→base≤k∧k<w.heap.size:=by
 rcases h.row with⟨a,hv,_,h2⟩|⟨g,off,cap,hv,h1,h2,_⟩
 ·exact h2
 ·intro k hk;rw[hv]at hk;have:g=k:=by simpa[Value.ownBlock]using hk
  subst this;exact⟨h1,h2⟩
theorem OwnO.form (h:OwnO X base v l w):∃a c,v=.slice a l.length c∧l.length≤c∧c≤maxLen∧(a=none∨∃g off,a=some ⟨g,off,none⟩∨c=0):=by
 rcases h.row with⟨a,hv,hl,_⟩|⟨g,off,cap,hv,_,_,h1,h2,_⟩
 ·refine⟨a,0,by rw[hv,hl];rfl,by rw[hl];exact Nat.le_refl _,by unfold maxLen;omega,.inr ⟨0,0,.inr rfl⟩⟩
 ·exact⟨_,_,hv,h1,h2,.inr ⟨g,off,.inl rfl⟩⟩
theorem OwnO.keep (h:OwnO X base v l w)(hs:w.heap.size≤w'.heap.size)(hk:∀k,k<w.heap.size→(¬X k∨v.ownBlock=some k)→w'.heap[k]?=w.heap[k]?):OwnO X base v l w':=by
 rcases h.row with⟨a,hv,hl,h2⟩|⟨g,off,cap,hv,h1,h2,h3,h4,h5,h6⟩
 ·exact⟨.inl ⟨a,hv,hl,fun k hk=>⟨(h2 k hk).1,Nat.lt_of_lt_of_le (h2 k hk).2 hs⟩⟩⟩
 ·have hg:=hk g h2 (.inr (by rw[hv];rfl));refine⟨.inr ⟨g,off,cap,hv,h1,Nat.lt_of_lt_of_le h2 hs,h3,h4,fun j hj=>?_,h6.imp hg fun b hb=>⟨⟨Nat.lt_of_lt_of_le hb.1 hs,hb.2⟩,hk b hb.1 (.inl hb.2.1)⟩⟩⟩;rw[cell_keep hg,World.frozen?_of_block (a:=⟨g,off+j,none⟩) hg];exact h5 j hj
theorem OwnO.go (h:OwnO X base v l w)(hb:Below w.heap.size w w'):OwnO X base v l w':=h.keep hb.size fun k hk _=>hb.block k hk
theorem OwnO.touch {S:Nat→Prop}(h:OwnO X base v l w)(ht:Touch S w w')(hS:∀k,k<w.heap.size→S k→X k∧v.ownBlock≠some k):OwnO X base v l w':=
 h.keep ht.size fun k hk hx=>ht.block k hk fun hs=>by
  have:=hS k hk hs;rcases hx with hx|hx
  ·exact hx this.1
  ·exact this.2 hx
theorem OwnO.grown {r:Option Nat}(h:OwnO X base v l w)(ht:w.grownBy w' r)(hS:∀k,r=some k→X k∧v.ownBlock≠some k):OwnO X base v l w':=
 h.keep ht.size fun k hk hx=>ht.block k hk fun hs=>by
  have:=hS k hs.symm;rcases hx with hx|hx
  ·exact hx this.1
  ·exact this.2 hx
theorem OwnO.more {X':Nat→Prop}(h:OwnO X base v l w)(hX:∀k,k<w.heap.size→X' k→X k):OwnO X' base v l w:=by
 rcases h.row with⟨a,hv,hl,h2⟩|⟨g,off,cap,hv,h1,h2,h3,h4,h5,h6⟩
 ·exact⟨.inl ⟨a,hv,hl,h2⟩⟩
 ·exact⟨.inr ⟨g,off,cap,hv,h1,h2,h3,h4,h5,h6.imp rfl fun b hb=>⟨⟨hb.1,fun hx=>hb.2.1 (hX b hb.1 hx),hb.2.2⟩,rfl⟩⟩⟩
theorem OwnO.low {base':Nat}(h:OwnO X base v l w)(hb:base'≤base):OwnO X base' v l w:=by
 rcases h.row with⟨a,hv,hl,h2⟩|⟨g,off,cap,hv,h1,h2⟩
 ·exact⟨.inl ⟨a,hv,hl,fun k hk=>⟨Nat.le_trans hb (h2 k hk).1,(h2 k hk).2⟩⟩⟩
 ·exact⟨.inr ⟨g,off,cap,hv,by omega,h2⟩⟩
theorem OwnO.rd (h:OwnO X base v l w){A:Nat→Prop}(hA:∀b,b<w.heap.size→¬X b→A b)(hR:∀k,v.ownBlock=some k→A k):∃a c,v=.slice a l.length c∧RdS A w l a l.length c:=by
 rcases h.row with⟨a,hv,hl,h2⟩|⟨g,off,cap,hv,h1,h2,h3,h4,h5,h6⟩
 ·subst hl;exact⟨a,0,hv,RdS.empty' _ _ _⟩
 ·refine⟨_,_,hv,rfl,h3,h4,(fun h=>by cases h),fun _=>⟨g,off,rfl,hR g (by rw[hv];rfl),h2,h6.imp rfl fun b hb=>⟨hA b hb.1 hb.2.1,rfl⟩⟩⟩
theorem OwnO.drop_in {g off n c k:Nat}(h:OwnO X base (.slice (some ⟨g,off,none⟩) n c) l w)(hk:k≤n)(hc:k<c):OwnO X base (.slice (some ⟨g,off+k*Rep.n α,none⟩) (n-k) (c-k)) (l.drop k) w:=by
 rcases h.row with⟨a,hv,hl,h2⟩|⟨g',off',cap,hv,h1,h2,h3,h4,h5,h6⟩
 ·injection hv with _ _ h3;omega
 ·injection hv with e1 e2 e3;injection e1 with e1;injection e1 with e4 e5;subst e2 e3 e4 e5;refine⟨.inr ⟨g,off+k*Rep.n α,c-k,by rw[List.length_drop],h1,h2,by rw[List.length_drop];omega,by omega,fun j hj=>?_,fun i x hi=>?_⟩⟩
  ·have hj2:k*Rep.n α+j<c*Rep.n α:=by
    have:k*Rep.n α+(c-k)*Rep.n α=c*Rep.n α:=by rw[←Nat.add_mul,show k+(c-k)=c from by omega]
    omega
   have:=h5 (k*Rep.n α+j) hj2;rwa[←Nat.add_assoc]at this
  ·rw[List.getElem?_drop]at hi;obtain⟨xs,r1,r2⟩:=h6 (k+i) x hi;refine⟨xs,r1,fun j u hu=>?_⟩;have:=r2 j u hu;rwa[Nat.add_mul,←Nat.add_assoc]at this
theorem OwnO.drop_all {a:Option Addr}{n c k:Nat}(h:OwnO X base (.slice a n c) l w)(hk:k=n):OwnO X base (.slice a 0 0) (l.drop k) w:=by
 have hl:l.drop k=[]:=by
  obtain⟨a',c',hv,_⟩:=h.form;injection hv with _ h2 _;exact List.drop_of_length_le (by omega)
 exact⟨.inl ⟨a,rfl,hl,fun j hj=>h.rowlt j (by cases a<;>exact hj)⟩⟩
end
theorem OwnO.append {α:Type} [Rep α] {P:Program}{X:Nat→Prop}{base:Nat}{v:Value}{l:List α}{w:World}(h:OwnO X base v l w)(hbase:base≤w.heap.size)
 (t ty e:TypeId) (i:TypeInfo) (z:Value) (bytes:Nat) (ht:P.underlying t=some (.slice e)) (hi:P.info? e=some i) (hz:i.zero=some z) (hsize:i.size=Rep.n α) (hby:i.bytes=bytes) (hzs:z.cells.size=Rep.n α)
 (ad:Addr) (c:Nat) (ys:List Value) (y:α) (hnews:∀j u,ys[j]?=some u→w.cell? (ad.add j)=some u) (hy:Rep.rd (fun b=>b<w.heap.size∧¬X b∧v.ownBlock≠some b) w y ys)
 (h63:l.length+1≤maxLen) (hbytes:(l.length+1)*bytes≤140737488355328):
 ∃g off cap w',(Builtin.append_ #[t,t] ty #[v,.slice (some ad) 1 c]).run P w=.ok (.slice (some ⟨g,off,none⟩) (l.length+1) cap) w'∧OwnO X base (.slice (some ⟨g,off,none⟩) (l.length+1) cap) (l++[y]) w'∧w.grownBy w' v.ownBlock∧(v.ownBlock=some g∨w.heap.size≤g)∧l.length+1≤cap∧cap≤maxLen∧g<w'.heap.size:=by
 have hyl:=Rep.len hy;have hyo:=Rep.one hy;have hl1:(l++[y]).length=l.length+1:=by simp
 have key:∀v' w' (xs:List Value),w'.ownsRow w.heap.size e (Rep.n α) v' (l.length+1) (xs++ys)→w.grownBy w' none→xs.length=l.length*Rep.n α→
  (∀i x,l[i]?=some x→∃zs,Rep.rd (fun b=>b<w.heap.size∧¬X b) w x zs∧∀j u,zs[j]?=some u→xs[i*Rep.n α+j]?=some u)→
  ∃g off cap,v'=.slice (some ⟨g,off,none⟩) (l.length+1) cap∧OwnO X base v' (l++[y]) w'∧w.heap.size≤g∧l.length+1≤cap∧cap≤maxLen∧g<w'.heap.size:=by
  intro v' w' xs ho hg hxl hx;rcases ho.2 with⟨_,h0⟩|⟨g,cap,cur,hv,hb,hh,hnc,hcm,hsz,htk⟩
  ·omega
  ·have hblk:Blk g (.cells cur e (0,0)) w':=hh;have hcs:=fun j u hu=>ho.cells (g:=g) (by rw[hv];rfl) j u hu;refine⟨g,0,cap,hv,⟨.inr ⟨g,0,cap,by rw[hl1];exact hv,by omega,hblk.lt,by rw[hl1];exact hnc,hcm,fun j hj=>⟨?_,hblk.frozen _⟩,fun i x hi=>?_⟩⟩,hb,hnc,hcm,hblk.lt⟩
   ·rw[hblk.cell,Array.getElem?_eq_getElem (by omega)];rfl
   ·have hgo:∀b,(b<w.heap.size∧¬X b)→(b<w'.heap.size∧¬X b∧b≠g)∧w'.heap[b]?=w.heap[b]?:=fun b hb2=>
     ⟨⟨Nat.lt_of_lt_of_le hb2.1 hg.size,hb2.2,by omega⟩,hg.block b hb2.1 (by simp)⟩
    by_cases hil:i<l.length
    ·rw[List.getElem?_append_left hil]at hi;obtain⟨zs,r1,r2⟩:=hx i x hi;refine⟨zs,Rep.mono hgo r1,fun j u hu=>?_⟩;have h3:=r2 j u hu;have:=hcs (i*Rep.n α+j) u (by rw[List.getElem?_append_left (List.getElem?_eq_some_iff.1 h3).1];exact h3);rw[Addr.add_lit,Nat.zero_add]at this;rw[Nat.zero_add];exact this
    ·rw[List.getElem?_append_right (by omega)]at hi;have hi0:i=l.length:=by
      have:=(List.getElem?_eq_some_iff.1 hi).1;simp at this;omega
     subst hi0;simp at hi;subst hi;refine⟨ys,Rep.mono (fun b hb2=>hgo b ⟨hb2.1,hb2.2.1⟩) hy,fun j u hu=>?_⟩;have:=hcs (l.length*Rep.n α+j) u (by rw[List.getElem?_append_right (by omega),hxl,Nat.add_sub_cancel_left];exact hu);rw[Addr.add_lit,Nat.zero_add]at this;rw[Nat.zero_add];exact this
 rcases h.row with⟨a,hv,hl,h2⟩|⟨g,off,cap,hv,h1,h2,h3,h4,h5,h6⟩
 ·subst hl hv;cases a with
  |none=>
   obtain⟨v',w',hrun,r1,r2,_⟩:=run_append_own (P:=P) w w.heap.size t ty e i z (Rep.n α) bytes ht hi hz hsize hby hzs Rep.pos (.slice none 0 0) 0 [] (World.ownsRow_nil _ _ _ _) ad 1 c ys (by omega) hnews hyo (by simpa using h63) (by simpa using hbytes) (Nat.le_refl _);have r2':w.grownBy w' none:=r2;obtain⟨g,off,cap,rfl,k1,k2,k3,k4,k5⟩:=key v' w' [] (by simpa using r1) r2' (by simp) (fun i x hi=>by simp at hi);exact⟨g,off,cap,w',hrun,k1,r2,.inr k2,k3,k4,k5⟩
  |some a'=>
   obtain⟨v',w',hrun,r1,r2⟩:=run_append_arg_grows (P:=P) (w:=w) t ty e i z (Rep.n α) bytes ht hi hz hsize hby hzs Rep.pos a' 0 0 [] (by simp) (by intro _ _ h';simp at h') ad 1 c ys (by omega) hnews (by omega) (by simpa using h63) (by simpa using hbytes);obtain⟨g,off,cap,rfl,k1,k2,k3,k4,k5⟩:=key v' w' [] (by simpa using r1) r2 (by simp) (fun i x hi=>by simp at hi);exact⟨g,off,cap,w',hrun,k1,⟨r2.os,r2.tape,r2.output,r2.size,fun k hk _=>r2.block k hk (by simp)⟩,.inr k2,k3,k4,k5⟩
 ·subst hv;by_cases hr:l.length+1≤cap
  ·have hmul:l.length*Rep.n α+Rep.n α≤cap*Rep.n α:=by
    have:=Nat.mul_le_mul_right (Rep.n α) hr;rwa[Nat.add_mul,Nat.one_mul]at this
   have hrun:=run_append_room_cells (P:=P) (w:=w) t ty e i ht hi g off l.length cap ad 1 c ys (by rw[hsize];omega) hnews hyo hr
    (fun j hj=>by rw[hsize,Nat.add_assoc];exact(h5 _ (by omega)).1) (fun j hj=>by rw[hsize,Nat.add_assoc];exact(h5 _ (by omega)).2)
   rw[hsize]at hrun;have hgr:=grownBy_setCells w g (off+l.length*Rep.n α) ys;have hsome:∀j,j<ys.length→(w.cell? ⟨g,off+l.length*Rep.n α+j,none⟩).isSome=true:=fun j hj=>by rw[Nat.add_assoc];exact(h5 _ (by omega)).1
   refine⟨g,off,cap,_,hrun,⟨.inr ⟨g,off,cap,by rw[hl1],h1,by rw[size_setCells'];exact h2,by rw[hl1];exact hr,h4,fun j hj=>?_,fun i' x hi'=>?_⟩⟩,hgr,.inl rfl,hr,h4,by rw[size_setCells'];exact h2⟩
   ·refine⟨?_,by rw[World.frozen?_setCells];exact(h5 j hj).2⟩;by_cases hin:l.length*Rep.n α≤j∧j<l.length*Rep.n α+ys.length
    ·have:=World.cell?_setCells_in g ys (off+l.length*Rep.n α) w hsome (j-l.length*Rep.n α) (by omega);rw[show off+l.length*Rep.n α+(j-l.length*Rep.n α)=off+j from by omega]at this;rw[this];rfl
    ·rw[World.cell?_setCells_out g ys _ w ⟨g,off+j,none⟩ (fun _ _=>by show off+j<_∨_≤off+j;omega)];exact(h5 j hj).1
   ·have hgo:∀b,(b<w.heap.size∧¬X b∧b≠g)→(b<(w.setCells g (off+l.length*Rep.n α) ys).heap.size∧¬X b∧b≠g)∧(w.setCells g (off+l.length*Rep.n α) ys).heap[b]?=w.heap[b]?:=fun b hb2=>
     ⟨⟨by rw[size_setCells'];exact hb2.1,hb2.2⟩,World.heap_setCells_other w g _ ys hb2.1 hb2.2.2⟩
    by_cases hil:i'<l.length
    ·rw[List.getElem?_append_left hil]at hi';obtain⟨zs,r1,r2⟩:=h6 i' x hi';refine⟨zs,Rep.mono hgo r1,fun j u hu=>?_⟩;have hjl:j<Rep.n α:=by have:=(List.getElem?_eq_some_iff.1 hu).1;have:=Rep.len r1;omega
     have hmm:i'*Rep.n α+Rep.n α≤l.length*Rep.n α:=by
      have:=Nat.mul_le_mul_right (Rep.n α) (show i'+1≤l.length from hil);rwa[Nat.add_mul,Nat.one_mul]at this
     rw[World.cell?_setCells_out g ys _ w ⟨g,off+i'*Rep.n α+j,none⟩ (fun _ _=>.inl (by show off+i'*Rep.n α+j<_;omega))];exact r2 j u hu
    ·rw[List.getElem?_append_right (by omega)]at hi';have hi0:i'=l.length:=by
      have:=(List.getElem?_eq_some_iff.1 hi').1;simp at this;omega
     subst hi0;simp at hi';subst hi';refine⟨ys,Rep.mono (fun b hb2=>hgo b ⟨hb2.1,hb2.2.1,fun e'=>hb2.2.2 (by rw[e'];rfl)⟩) hy,fun j u hu=>?_⟩;have hj:=(List.getElem?_eq_some_iff.1 hu).1;have:=World.cell?_setCells_in g ys (off+l.length*Rep.n α) w hsome j hj;rw[this,←hu,List.getElem?_eq_getElem hj]
  ·
   have hcell:∀j,j<l.length*Rep.n α→∃u,w.cell? ⟨g,off+j,none⟩=some u:=fun j hj=>by
    have hle:l.length*Rep.n α≤cap*Rep.n α:=Nat.mul_le_mul_right _ h3;have:=(h5 j (by omega)).1;exact Option.isSome_iff_exists.1 this
   have hlist:∃olds:List Value,olds.length=l.length*Rep.n α∧∀j,j<l.length*Rep.n α→w.cell? ⟨g,off+j,none⟩=olds[j]?:=by
    refine⟨(List.range (l.length*Rep.n α)).map fun j=>(w.cell? ⟨g,off+j,none⟩).getD undef,by simp,fun j hj=>?_⟩;obtain⟨u,hu⟩:=hcell j hj;rw[List.getElem?_map,List.getElem?_range hj];simp[hu]
   obtain⟨olds,ho1,ho2⟩:=hlist;obtain⟨v',w',hrun,r1,r2⟩:=run_append_arg_grows (P:=P) (w:=w) t ty e i z (Rep.n α) bytes ht hi hz hsize hby hzs Rep.pos ⟨g,off,none⟩ l.length cap olds ho1 (fun j u hu=>by rw[Addr.add_lit,ho2 j (by have:=(List.getElem?_eq_some_iff.1 hu).1;omega)];exact hu) ad 1 c ys (by omega) hnews (by omega) h63 hbytes;obtain⟨g2,off2,cap2,rfl,k1,k2,k3,k4,k5⟩:=key v' w' olds r1 r2 ho1 (fun i x hi'=>by
    obtain⟨zs,q1,q2⟩:=h6 i x hi';refine⟨zs,Rep.mono (fun b hb2=>⟨⟨hb2.1,hb2.2.1⟩,rfl⟩) q1,fun j u hu=>?_⟩;have hjl:j<Rep.n α:=by have:=(List.getElem?_eq_some_iff.1 hu).1;have:=Rep.len q1;omega
    have hil:=(List.getElem?_eq_some_iff.1 hi').1;have hmm:i*Rep.n α+Rep.n α≤l.length*Rep.n α:=by
     have:=Nat.mul_le_mul_right (Rep.n α) (show i+1≤l.length from hil);rwa[Nat.add_mul,Nat.one_mul]at this
    rw[←ho2 _ (by omega),←Nat.add_assoc];exact q2 j u hu)
   exact⟨g2,off2,cap2,w',hrun,k1,⟨r2.os,r2.tape,r2.output,r2.size,fun k hk _=>r2.block k hk (by simp)⟩,.inr k2,k3,k4,k5⟩
theorem wpList_append_oneO {α:Type} [Rep α] {P:Program}{X:Nat→Prop}{w:World}{ops:Array Oper}{rest:List Oper}{o:Oper}{a:Act}{Q:Exit→Act→World→Prop}(hgd:o.guard=none)(s x:Operand)(t:TypeId)
 (ho:o.op=.call {callee:=.builtin .append,args:=#[s,x],argTypes:=#[t,t]})
 (base:Nat) (e:TypeId) (i:TypeInfo) (z:Value) (bytes:Nat) (ht:P.underlying t=some (.slice e)) (hi:P.info? e=some i) (hz:i.zero=some z)
 (hsize:i.size=Rep.n α) (hby:i.bytes=bytes) (hzs:z.cells.size=Rep.n α)
 (v:Value) (l:List α) (hs:a.eval s=v) (hown:OwnO X base v l w)
 (gb c tb:Nat) (ys:List Value) (y:α) (hx:a.eval x=.slice (some ⟨gb,0,none⟩) 1 c) (hblk:Blk gb (.cells ys.toArray tb (0,0)) w) (hy:Rep.rd (fun b=>b<w.heap.size∧¬X b∧v.ownBlock≠some b) w y ys)
 (h63:l.length+1≤maxLen) (hbytes:(l.length+1)*bytes≤140737488355328) (hbase:base≤w.heap.size)
 (h:∀g off cap w',OwnO X base (.slice (some ⟨g,off,none⟩) (l.length+1) cap) (l++[y]) w'→w.grownBy w' v.ownBlock→(v.ownBlock=some g∨w.heap.size≤g)→g<w'.heap.size→wpList P ops Q rest (a.put o.dst (.slice (some ⟨g,off,none⟩) (l.length+1) cap)) w'):wpList P ops Q (o::rest) a w:=by
 refine wpList_plain hgd fun K hK'=>?_;obtain⟨g,off,cap,w',hrun,r1,r2,r3,_,_,r4⟩:=hown.append (P:=P) hbase t o.type e i z bytes ht hi hz hsize hby hzs ⟨gb,0,none⟩ c ys y (news_at hblk) hy h63 hbytes;unfold Oper.wp;simp[execOp,ho,resolve,invoke,builtin,hs,hx,hrun,Result.andThen];exact hK' _ _ (h g off cap w' r1 r2 r3 r4)
end Go.Proofs.YtkbfhgcjimfgkaaDoor
