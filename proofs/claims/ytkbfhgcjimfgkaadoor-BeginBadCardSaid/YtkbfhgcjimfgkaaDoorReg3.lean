/- A region that draws its order, where each operation turns memory in its own way; each operation walked at a small frame of its own. No program in sight. -/
import Derived.Test.YtkbfhgcjimfgkaaDoorReg2
set_option linter.unusedVariables false
set_option linter.unusedSimpArgs false
namespace Go.Proofs.YtkbfhgcjimfgkaaDoor
open Go.RowKit

section
variable {P : Program} {ops : Array Oper}
/-- as Under, but what is killed need not stand -/
def Under3 (ops : Array Oper) (K : Nat → List Nat) (a0 : Act) (Inv : (Nat → Bool) → (Nat → Value) → World → Prop) (V : Nat → Value → World → Prop) (listed : Array Bool) (a : Act) (w : World) : Prop :=
  ∃ x, a = gets ops x a0 (selL ops.size listed) ∧ (∀ i, listed.getD i false = true → (∀ j ∈ K i, listed.getD j false = false) → V i (x i) w) ∧ Inv (fun j => listed.getD j false) x w ∧ listed.size = ops.size ∧ (∀ i, listed.getD i false = true → ∀ j ∈ anc ops i, listed.getD j false = true)
theorem region_rule3 {id : Nat} {Q : Exit → Act → World → Prop} {a0 : Act} {w0 : World} (hm : P.follows .mixedOrders = true) (hok : regionOk ops = true) (Inv : (Nat → Bool) → (Nat → Value) → World → Prop) (V : Nat → Value → World → Prop) (Ext : Nat → World → World → Prop) (K N : Nat → List Nat) (hN : ∀ i, ∀ j ∈ N i, j ∈ anc ops i ∧ ∀ k ∈ K j, k = i ∨ i ∈ anc ops k)
    (hmono : ∀ i j, i < ops.size → j < ops.size → j ≠ i → j ∉ anc ops i → j ∉ K i → ∀ v w w', Ext j w w' → V i v w → V i v w') (h0 : ∀ x, Inv (fun _ => false) x { w0 with drawn := w0.drawn + 1 })
    (hstep : ∀ (i : Nat) (o : Oper), ops[i]? = some o → ∀ x w (L : Nat → Bool), Inv L x w → (∀ j ∈ anc ops i, L j = true) → (∀ j, j = i ∨ i ∈ anc ops j → L j = false) → (∀ j ∈ N i, V j (x j) w) → wpList P ops (StepPost (fun _ => True) (fun i v w' => Inv (setB L i) (setV x i v) w' ∧ V i v w') (Ext i) i (gets ops x a0 (anc ops i)) o.dst w) [o] (gets ops x a0 (anc ops i)) w)
    (hend : ∀ x w (L : Nat → Bool), (∀ i, i < ops.size → L i = true) → Inv L x w → (∀ i, i < ops.size → K i = [] → V i (x i) w) → Q .normal (gets ops x a0 (List.range ops.size)) w) : (Code.region id ops true).wp P Q a0 w0 := by
  have F := facts_of hok
  refine wp_region_any hm ?_
  have key : ∀ (fuel : Nat) (listed : Array Bool) (a : Act) (w : World), (List.range ops.size).countP (fun i => !listed.getD i false) ≤ fuel → Under3 ops K a0 Inv V listed a w → wpAny P .any ops Q fuel listed a w := by
    intro fuel
    have hdone : ∀ (listed : Array Bool) (a : Act) (w : World), Under3 ops K a0 Inv V listed a w → (∀ i, i < ops.size → listed.getD i false = true) → Q .normal a w := by
      rintro listed a w ⟨x, rfl, hv, hi, hsz, _⟩ hall
      have he : selL ops.size listed = List.range ops.size := by
        unfold selL
        rw [List.filter_eq_self]
        intro i hi
        exact hall i (List.mem_range.1 hi)
      rw [he]
      exact hend x w _ hall hi (fun i hi hk => hv i (hall i hi) (fun j hj => by rw [hk] at hj; cases hj))
    have hall : ∀ (listed : Array Bool), listed.size = ops.size → Region.ready .any ops listed = [] → ∀ i, i < ops.size → listed.getD i false = true := by
      intro listed hsz hr i
      induction i using Nat.strongRecOn with
      | _ i ih =>
        intro hi
        cases hc : listed.getD i false with
        | true => rfl
        | false =>
          have hmem : i ∈ Region.ready .any ops listed := by
            rw [mem_ready]
            refine ⟨?_, ops[i], Array.getElem?_eq_getElem hi, fun e he hbe => ?_⟩
            · simp [Array.getD_eq_getD_getElem?, hsz ▸ hi] at hc ⊢; exact hc
            · have hlt := F.ord i ops[i] (Array.getElem?_eq_getElem hi) e he hbe
              exact ih e.on hlt (by omega)
          rw [hr] at hmem; cases hmem
    induction fuel with
    | zero =>
      intro listed a w hc hU
      have hU2 := hU
      obtain ⟨_, _, _, _, hsz, _⟩ := hU2
      have hl : ∀ i, i < ops.size → listed.getD i false = true := by
        intro i hi
        have h1 : (List.range ops.size).countP (fun i => !listed.getD i false) = 0 := by omega
        rw [List.countP_eq_zero] at h1
        have := h1 i (List.mem_range.2 hi)
        simpa using this
      refine ⟨?_, hdone listed a w hU hl⟩
      rw [List.eq_nil_iff_forall_not_mem]
      intro i hi
      rw [mem_ready] at hi
      obtain ⟨h1, o, ho, _⟩ := hi
      have hlt : i < ops.size := (Array.getElem?_eq_some_iff.1 ho).1
      have h2 := hl i hlt
      simp [Array.getD_eq_getD_getElem?, hsz ▸ hlt] at h1 h2
      rw [h1] at h2; cases h2
    | succ fuel ih =>
      intro listed a w hc hU
      have hU2 := hU
      obtain ⟨_, _, _, _, hsz, _⟩ := hU2
      refine ⟨fun hr => hdone listed a w hU (hall listed hsz hr), fun i hi => ?_⟩
      obtain ⟨x, rfl, hv, hinv, _, hdc⟩ := hU
      rw [mem_ready] at hi
      obtain ⟨h1, o, ho, hdeps⟩ := hi
      have hlt : i < ops.size := (Array.getElem?_eq_some_iff.1 ho).1
      have hil : i < listed.size := by omega
      have hnl : listed.getD i false = false := by simp [Array.getD_eq_getD_getElem?, hil] at h1 ⊢; exact h1
      have hanc : ∀ j ∈ anc ops i, listed.getD j false = true := by
        intro j hj
        rcases F.clo i o j ho hj with h | ⟨k, hk, h⟩
        · obtain ⟨⟨e, he, hb, rfl⟩, _⟩ := F.dep i o j ho h
          exact hdeps e he hb
        · obtain ⟨⟨e, he, hb, rfl⟩, _⟩ := F.dep i o k ho hk
          exact hdc e.on (hdeps e he hb) j h
      have hsel := Region.noSelect_spec F.sel
      have hdesc : ∀ j, j = i ∨ i ∈ anc ops j → listed.getD j false = false := by
        rintro j (rfl | hj)
        · exact hnl
        · cases hc : listed.getD j false with
          | false => rfl
          | true =>
            have h5 := hdc j hc i hj
            rw [hnl] at h5; cases h5
      refine wpOp_of_step (R := fun v w' => True ∧ Ext i w w' ∧ Inv (fun j => if j = i then true else listed.getD j false) (fun j => if j = i then v else x j) w' ∧ V i v w') ho (fun cs b => hsel i o cs b ho) (by rw [gets_size, gets_size]) (same_looks F ho x a0 _ (fun j hj => mem_sel.2 ⟨anc_lt F i j hj, hanc j hj⟩) (fun j hj => (mem_sel.1 hj).1) (anc_lt F i) (fun j hj hi => by have h5 := hdc j (mem_sel.1 hj).2 i hi; rw [hnl] at h5; cases h5)) (hstep i o ho x w _ hinv hanc hdesc (fun j hj => hv j (hanc j (hN i j hj).1) (fun k hk => hdesc k ((hN i j hj).2 k hk)))) ?_
      rintro v w' ⟨_, hext, hinv', hvi⟩
      have hget : ∀ j, (listed.setIfInBounds i true).getD j false = (decide (j = i) || listed.getD j false) := fun j => listed_set hil
      have hfun : (fun j => (listed.setIfInBounds i true).getD j false) = (fun j => if j = i then true else listed.getD j false) := by
        funext j
        rw [hget]
        by_cases hji : j = i <;> simp [hji]
      refine ih _ _ w' ?_ ⟨fun j => if j = i then v else x j, ?_, ?_, by rw [hfun]; exact hinv', by simpa using hsz, ?_⟩
      · have h2 := count_split (fun j => !listed.getD j false) (fun j => decide (j ≠ i)) (List.range ops.size)
        have h3 : 0 < (List.range ops.size).countP (fun j => (!listed.getD j false) && !decide (j ≠ i)) := by
          rw [List.countP_pos_iff]
          exact ⟨i, List.mem_range.2 hlt, by simp [hnl]⟩
        have h4 : (List.range ops.size).countP (fun j => !(listed.setIfInBounds i true).getD j false) = (List.range ops.size).countP (fun j => (!listed.getD j false) && decide (j ≠ i)) := by
          congr 1
          funext j
          rw [hget]
          by_cases hji : j = i <;> simp [hji]
        omega
      · have hdst := dst_of ho
        refine act_ext (by rw [put_defers, gets_defers, gets_defers]) (by rw [put_size, gets_size, gets_size]) (fun d => ?_)
        by_cases hd : o.dst = some d
        · rw [gets_at _ d i (hdst.trans hd) _ a0 (mem_sel.2 ⟨hlt, by rw [hget]; simp⟩) (fun k hk he => F.inj k i d (mem_sel.1 hk).1 hlt he (hdst.trans hd)), hd]
          simp only [Act.put, Array.getElem?_setIfInBounds, if_true, gets_size]
        · have hput : (Act.put (gets ops x a0 (selL ops.size listed)) o.dst v).tmps[d]? = (gets ops x a0 (selL ops.size listed)).tmps[d]? := by
            cases he : o.dst with
            | none => rfl
            | some t =>
              have hne : t ≠ d := fun h' => hd (by rw [he, h'])
              simp [Act.put, Array.getElem?_setIfInBounds_ne hne]
          rw [hput]
          by_cases hex : ∃ j, j ∈ selL ops.size listed ∧ dstOf ops j = some d
          · obtain ⟨j, hj, hjd⟩ := hex
            have hji : j ≠ i := fun e => hd (by rw [← hdst, ← e]; exact hjd)
            rw [gets_at x d j hjd _ a0 hj (fun k hk he => F.inj k j d (mem_sel.1 hk).1 (mem_sel.1 hj).1 he hjd), gets_at _ d j hjd _ a0 (mem_sel.2 ⟨(mem_sel.1 hj).1, by rw [hget, (mem_sel.1 hj).2]; simp⟩) (fun k hk he => F.inj k j d (mem_sel.1 hk).1 (mem_sel.1 hj).1 he hjd)]
            simp only [hji, if_false]
          · rw [gets_other x d _ a0 (fun j hj he => hex ⟨j, hj, he⟩), gets_other _ d _ a0 (fun j hj he => ?_)]
            have hj2 := (mem_sel.1 hj).2
            rw [hget] at hj2
            by_cases hji : j = i
            · subst hji; exact hd (by rw [← hdst]; exact he)
            · simp [hji] at hj2
              exact hex ⟨j, mem_sel.2 ⟨(mem_sel.1 hj).1, by simpa using hj2⟩, he⟩
      · intro j hj hlive
        rw [hget] at hj
        by_cases hji : j = i
        · subst hji; simpa using hvi
        · simp only [hji, decide_false, Bool.false_or] at hj
          simp only [hji, if_false]
          have hlive2 : ∀ k ∈ K j, listed.getD k false = false ∧ k ≠ i := fun k hk => by
            have h8 := hlive k hk
            rw [hget] at h8
            by_cases hki : k = i
            · simp [hki] at h8
            · simp only [hki, decide_false, Bool.false_or] at h8
              exact ⟨h8, hki⟩
          refine hmono j i ?_ hlt (fun e => hji e.symm) (fun hm => ?_) (fun hm => (hlive2 i hm).2 rfl) _ w w' hext (hv j hj (fun k hk => (hlive2 k hk).1))
          · rcases Nat.lt_or_ge j ops.size with h | h
            · exact h
            · simp [Array.getD_eq_getD_getElem?, Array.getElem?_eq_none (show listed.size ≤ j by omega)] at hj
          · have h5 := hdc j hj i hm
            rw [hnl] at h5; cases h5
      · intro j hj k hk
        rw [hget] at hj ⊢
        by_cases hji : j = i
        · subst hji; rw [hanc k hk]; simp
        · simp only [hji, decide_false, Bool.false_or] at hj
          rw [hdc j hj k hk]; simp
  have hd0 : (fun j => (Array.replicate ops.size false).getD j false) = (fun _ => false) := by
    funext j
    simp [Array.getD_eq_getD_getElem?, Array.getElem?_replicate]
    split <;> rfl
  refine key _ _ _ _ ?_ ⟨fun _ => undef, ?_, ?_, by rw [hd0]; exact h0 _, by simp, ?_⟩
  · exact Nat.le_trans (List.countP_le_length) (by simp)
  · have : selL ops.size (Array.replicate ops.size false) = [] := by
      unfold selL
      rw [List.filter_eq_nil_iff]
      intro i hi
      simp [Array.getD_eq_getD_getElem?, Array.getElem?_replicate]
      split <;> simp
    rw [this]; rfl
  · intro i hi; simp [Array.getD_eq_getD_getElem?, Array.getElem?_replicate] at hi; split at hi <;> simp at hi
  · intro i hi; simp [Array.getD_eq_getD_getElem?, Array.getElem?_replicate] at hi; split at hi <;> simp at hi


/-- what is done, and what is not yet, when an operation comes -/
def Before (L : Nat → Bool) (A : List Nat) (B : List Nat) : Prop := (∀ j ∈ A, L j = true) ∧ (∀ j ∈ B, L j = false)
def Steps3 (P : Program) (ops : Array Oper) (Inv : (Nat → Bool) → (Nat → Value) → World → Prop) (V : Nat → Value → World → Prop) (Ext : Nat → World → World → Prop) (D : List (Option Tmp)) (a0 : Act) : Nat → List (List Nat) → List (List Nat) → List (List Nat) → List Oper → Prop
  | k, A :: As, B :: Bs, N :: Ns, o :: l => (∀ x w L, Inv L x w → Before L A B → AllV V x w N → wpList P ops (StepPost (fun _ => True) (fun i v w' => Inv (setB L k) (setV x k v) w' ∧ V i v w') (Ext k) k (getsD D x a0 A) o.dst w) [o] (getsD D x a0 A) w) ∧ Steps3 P ops Inv V Ext D a0 (k + 1) As Bs Ns l
  | _, _, _, _, _ => True
theorem steps_at3 {Inv : (Nat → Bool) → (Nat → Value) → World → Prop} {V : Nat → Value → World → Prop} {Ext : Nat → World → World → Prop} {D : List (Option Tmp)} {a0 : Act} : ∀ {l : List Oper} {As Bs Ns : List (List Nat)} {k : Nat}, Steps3 P ops Inv V Ext D a0 k As Bs Ns l → ∀ (i : Nat) (o : Oper) (A B N : List Nat), l[i]? = some o → As[i]? = some A → Bs[i]? = some B → Ns[i]? = some N →
    ∀ x w L, Inv L x w → Before L A B → AllV V x w N → wpList P ops (StepPost (fun _ => True) (fun i' v w' => Inv (setB L (k + i)) (setV x (k + i) v) w' ∧ V i' v w') (Ext (k + i)) (k + i) (getsD D x a0 A) o.dst w) [o] (getsD D x a0 A) w
  | [], _, _, _, _, _, i, o, A, B, N, h, _, _, _ => by simp at h
  | _ :: _, [], _, _, _, _, i, o, A, B, N, _, h, _, _ => by simp at h
  | _ :: _, _ :: _, [], _, _, _, i, o, A, B, N, _, _, h, _ => by simp at h
  | _ :: _, _ :: _, _ :: _, [], _, _, i, o, A, B, N, _, _, _, h => by simp at h
  | o' :: l, A' :: As, B' :: Bs, N' :: Ns, k, hs, 0, o, A, B, N, h1, h2, h3, h4 => by
    simp at h1 h2 h3 h4
    subst h1 h2 h3 h4
    exact hs.1
  | o' :: l, A' :: As, B' :: Bs, N' :: Ns, k, hs, i + 1, o, A, B, N, h1, h2, h3, h4 => by
    simp at h1 h2 h3 h4
    have := steps_at3 hs.2 i o A B N h1 h2 h3 h4
    rw [show k + (i + 1) = k + 1 + i from by omega]
    exact this
def Steps4 (P : Program) (ops : Array Oper) (Inv : (Nat → Bool) → (Nat → Value) → World → Prop) (V : Nat → Value → World → Prop) (Ext : Nat → World → World → Prop) : Nat → List (List Nat) → List (List Nat) → List (List Nat) → List ((Nat → Value) → Act) → List Oper → Prop
  | k, A :: As, B :: Bs, N :: Ns, F :: Fs, o :: l => (∀ x w L, Inv L x w → Before L A B → AllV V x w N → wpList P ops (StepPost (fun _ => True) (fun i v w' => Inv (setB L k) (setV x k v) w' ∧ V i v w') (Ext k) k (F x) o.dst w) [o] (F x) w) ∧ Steps4 P ops Inv V Ext (k + 1) As Bs Ns Fs l
  | _, _, _, _, _, _ => True
theorem steps_of4 {Inv : (Nat → Bool) → (Nat → Value) → World → Prop} {V : Nat → Value → World → Prop} {Ext : Nat → World → World → Prop} {D : List (Option Tmp)} {a0 : Act} : ∀ {l : List Oper} {As Bs Ns : List (List Nat)} {Fs : List ((Nat → Value) → Act)} {k : Nat}, l.all noSel = true → FramesOk ops D a0 As Fs l → Steps4 P ops Inv V Ext k As Bs Ns Fs l → Steps3 P ops Inv V Ext D a0 k As Bs Ns l
  | [], As, Bs, Ns, Fs, k, _, _, _ => by cases As <;> cases Bs <;> cases Ns <;> trivial
  | o :: l, [], Bs, Ns, Fs, k, _, h, _ => by cases Fs <;> trivial
  | o :: l, A :: As, [], Ns, Fs, k, _, h, _ => by trivial
  | o :: l, A :: As, B :: Bs, [], Fs, k, _, h, _ => by trivial
  | o :: l, A :: As, B :: Bs, N :: Ns, [], k, _, h, _ => by cases h
  | o :: l, A :: As, B :: Bs, N :: Ns, F :: Fs, k, hn, hf, hs => by
    simp only [List.all_cons, Bool.and_eq_true] at hn
    refine ⟨fun x w L hI hL hV => ?_, steps_of4 hn.2 hf.2 hs.2⟩
    obtain ⟨h1, h2⟩ := hf.1 x
    refine step_same (noSel_ne hn.1) (F := F x) (fun d hd => ?_) (fun d hd => ?_) (hs.1 x w L hI hL hV)
    · rw [hd] at h2
      exact of_decide_eq_true h2
    · exact List.map_inj_left.1 h1 d hd
/-- what an operation is told of those ahead of it must stand then -/
def needsOk (n : Nat) (A K N : List (List Nat)) : Bool := (N.length == n) && (List.range n).all fun i => (N.getD i []).all fun j => (A.getD i []).contains j && (K.getD j []).all fun k => k == i || (A.getD k []).contains i
def descT (n : Nat) (A : List (List Nat)) : List (List Nat) := (List.range n).map fun i => (List.range n).filter fun j => j == i || (A.getD j []).contains i
/-- **A region that draws its order**, written out, at small frames; each operation turns memory as it says. -/
theorem region_lit3 {l : List Oper} {id : Nat} {Q : Exit → Act → World → Prop} {a0 : Act} {w0 : World} (hm : P.follows .mixedOrders = true) (hok : regionOk l.toArray = true) (hsel : l.all noSel = true) (A : List (List Nat)) (hA : ancT l.toArray = A) (D : List (Option Tmp)) (hD : (List.range l.toArray.size).map (dstOf l.toArray) = D)
    (B : List (List Nat)) (hB : descT l.length A = B) (K N : List (List Nat)) (hN : needsOk l.length A K N = true) (Inv : (Nat → Bool) → (Nat → Value) → World → Prop) (V : Nat → Value → World → Prop) (Ext : Nat → World → World → Prop) (Fs : List ((Nat → Value) → Act)) (hF : FramesOk l.toArray D a0 A Fs l)
    (hmono : ∀ i j, i < l.length → j < l.length → j ≠ i → j ∉ A.getD i [] → j ∉ K.getD i [] → ∀ v w w', Ext j w w' → V i v w → V i v w') (h0 : ∀ x, Inv (fun _ => false) x w0.drew) (hstep : Steps4 P l.toArray Inv V Ext 0 A B N Fs l)
    (E : List Nat) (hE : ((List.range l.length).filter fun i => (K.getD i []).isEmpty) = E) (hend : ∀ x w L, (∀ i, i < l.length → L i = true) → Inv L x w → AllV V x w E → Q .normal (getsD D x a0 (List.range l.length)) w) : (Code.region id l.toArray true).wp P Q a0 w0 := by
  have F := facts_of hok
  have hz : l.toArray.size = l.length := by simp
  have hst := steps_of4 (a0 := a0) hsel hF hstep
  have hancA : ∀ j, anc l.toArray j = A.getD j [] := fun j => by unfold anc; rw [hA]
  have hNn := hN
  simp only [needsOk, Bool.and_eq_true, beq_iff_eq, List.all_eq_true, List.mem_range, List.contains_iff_mem, Bool.or_eq_true] at hNn
  obtain ⟨hNl, hNa⟩ := hNn
  refine region_rule3 hm hok Inv V Ext (fun i => K.getD i []) (fun i => N.getD i []) (fun i j hj => ?_) (fun i j hi hj hne hna => ?_) h0 (fun i o ho x w L hI hL1 hL2 hV => ?_) (fun x w L hL hI hV => ?_)
  · by_cases hi : i < l.length
    · have h1 := hNa i hi j hj
      rw [hancA]
      exact ⟨h1.1, fun k hk => (h1.2 k hk).imp_right fun h => by rw [hancA]; exact h⟩
    · have hj2 : j ∈ N.getD i [] := hj
      simp only [List.getD, List.getElem?_eq_none (show N.length ≤ i by omega), Option.getD_none] at hj2
      cases hj2
  · refine hmono i j (by omega) (by omega) hne (fun h => hna ?_)
    rw [hancA]; exact h
  · have hil : i < l.toArray.size := (Array.getElem?_eq_some_iff.1 ho).1
    have hAl : A[i]? = some (anc l.toArray i) := by
      have hlen : ∀ (n : Nat) (f : List (List Nat) → Nat → List Nat), ((List.range n).foldl (fun T i => T ++ [f T i]) []).length = n := by
        intro n f
        induction n with
        | zero => rfl
        | succ n ihn => rw [List.range_succ, List.foldl_append]; simp [ihn]
      have h1 : A.length = l.toArray.size := by rw [← hA]; exact hlen _ _
      rw [List.getElem?_eq_getElem (by omega), hancA]
      simp only [List.getD, List.getElem?_eq_getElem (show i < A.length by omega), Option.getD_some]
    have hBl : B[i]? = some ((List.range l.length).filter fun j => j == i || (A.getD j []).contains i) := by
      rw [← hB]; unfold descT
      rw [List.getElem?_map, List.getElem?_range (by omega)]; rfl
    have hNl2 : N[i]? = some (N.getD i []) := by simp only [List.getD, List.getElem?_eq_getElem (show i < N.length by omega), Option.getD_some]
    have h2 := steps_at3 hst i o _ _ _ (by simpa using ho) hAl hBl hNl2 x w L hI ⟨hL1, fun j hj => ?_⟩ (allV_of hV)
    · rw [Nat.zero_add, getsD_eq x hD _ _ (anc_lt F i)] at h2
      exact h2
    · simp only [List.mem_filter, Bool.or_eq_true, beq_iff_eq, List.contains_iff_mem] at hj
      refine hL2 j ?_
      rw [hancA]
      exact hj.2
  · have h2 := hend x w L (by simpa using hL) hI (allV_of fun j hj => by
      rw [← hE, List.mem_filter, List.mem_range, List.isEmpty_iff] at hj
      exact hV j (by simpa using hj.1) hj.2)
    rw [getsD_eq x hD _ _ (fun j hj => by simpa using hj)] at h2
    rw [hz]
    exact h2
end
end Go.Proofs.YtkbfhgcjimfgkaaDoor
