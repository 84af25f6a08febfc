/- A region that draws its order, where each operation turns memory in its own way; each operation walked at a small frame of its own. No program in sight. -/
import Derived.Test.YtkbfhgcjimfgkaaDoorPartA2
import Derived.Orders
import Derived.Tactics2
set_option linter.unusedVariables false
set_option linter.unusedSimpArgs false
namespace Go.Proofs.YtkbfhgcjimfgkaaDoor
open Go.RowKit
section
variable {P : Program} {ops : Array Oper}
def dstOf (ops : Array Oper) (i : Nat) : Option Tmp := (ops[i]?).bind (·.dst)
/-- the state in which the operations of a list have left their values -/
def gets (ops : Array Oper) (x : Nat → Value) : Act → List Nat → Act
  | a, [] => a
  | a, j :: r => gets ops x (a.put (dstOf ops j) (x j)) r
theorem put_size (a : Act) (d : Option Tmp) (v : Value) : (a.put d v).tmps.size = a.tmps.size := by cases d <;> simp [Act.put]
theorem put_defers (a : Act) (d : Option Tmp) (v : Value) : (a.put d v).defers = a.defers := by cases d <;> rfl
theorem gets_size (x : Nat → Value) : ∀ (l : List Nat) (a : Act), (gets ops x a l).tmps.size = a.tmps.size
  | [], _ => rfl
  | j :: r, a => by rw [gets, gets_size x r, put_size]
theorem gets_defers (x : Nat → Value) : ∀ (l : List Nat) (a : Act), (gets ops x a l).defers = a.defers
  | [], _ => rfl
  | j :: r, a => by rw [gets, gets_defers x r, put_defers]
theorem gets_other (x : Nat → Value) (d : Tmp) : ∀ (l : List Nat) (a : Act), (∀ j ∈ l, dstOf ops j ≠ some d) → (gets ops x a l).tmps[d]? = a.tmps[d]?
  | [], _, _ => rfl
  | j :: r, a, h => by
    rw [gets, gets_other x d r _ (fun k hk => h k (List.mem_cons_of_mem _ hk))]
    have hj := h j (List.mem_cons_self ..)
    cases he : dstOf ops j with
    | none => rfl
    | some e =>
      have hne : e ≠ d := fun h' => hj (by rw [he, h'])
      simp [Act.put, Array.getElem?_setIfInBounds_ne hne]
theorem gets_at (x : Nat → Value) (d : Tmp) (i : Nat) (hi : dstOf ops i = some d) : ∀ (l : List Nat) (a : Act), i ∈ l → (∀ j ∈ l, dstOf ops j = some d → j = i) → (gets ops x a l).tmps[d]? = if d < a.tmps.size then some (x i) else none
  | [], _, h, _ => by cases h
  | j :: r, a, h, hu => by
    rw [gets]
    by_cases hr : i ∈ r
    · rw [gets_at x d i hi r _ hr (fun k hk => hu k (List.mem_cons_of_mem _ hk)), put_size]
    · have hji : j = i := by
        rcases List.mem_cons.1 h with h | h
        · exact h.symm
        · exact absurd h hr
      subst hji
      rw [gets_other x d r _ (fun k hk he => hr (hu k (List.mem_cons_of_mem _ hk) he ▸ hk)), hi]
      simp only [Act.put, Array.getElem?_setIfInBounds]
      by_cases hd : d < a.tmps.size <;> simp [hd]
theorem act_ext {a b : Act} (h1 : a.defers = b.defers) (h2 : a.tmps.size = b.tmps.size) (h3 : ∀ d : Nat, a.tmps[d]? = b.tmps[d]?) : a = b := by
  cases a; cases b
  simp only at h1 h2 h3
  subst h1
  congr
  apply Array.ext_getElem?
  exact h3
/-- j leaves its value only behind i, whose value it looks at: i does not look at what j leaves ('x, y = y, x') -/
def later (ops : Array Oper) (i j : Nat) : Bool := decide (i < j) && match dstOf ops i, ops[j]? with
  | some e, some o => (o.looksAt ops).contains e
  | _, _ => false
/-- the operations whose values an operation looks at -/
def looks (ops : Array Oper) (i : Nat) : List Nat :=
  match ops[i]? with
  | none => []
  | some o => (List.range ops.size).filter fun j => match dstOf ops j with
    | none => false
    | some d => (o.looksAt ops).contains d && !later ops i j
/-- .. and those that they look at -/
def ancT (ops : Array Oper) : List (List Nat) :=
  (List.range ops.size).foldl (fun T i => T ++ [(List.range ops.size).filter fun j => (looks ops i).any fun k => k == j || (T.getD k []).contains j]) []
def anc (ops : Array Oper) (i : Nat) : List Nat := (ancT ops).getD i []
/-- it comes behind all others -/
def lastOp (ops : Array Oper) (i : Nat) : Bool := (List.range ops.size).all fun j => j == i || (anc ops i).contains j
def regionOk (ops : Array Oper) : Bool :=
  let A := ancT ops
  ((List.range ops.size).all fun i => (List.range ops.size).all fun j => i == j || (match dstOf ops i, dstOf ops j with | some d, some e => d != e | _, _ => true)) &&
  ((List.range ops.size).all fun i => match ops[i]? with
    | none => true
    | some o => (looks ops i).all (fun j => o.after.any (fun e => Region.binds .any e && e.on == j)) &&
        (A.getD i []).all (fun j => (looks ops i).any fun k => k == j || (A.getD k []).contains j) && (looks ops i).all (fun j => (A.getD i []).contains j) && o.after.all (fun e => !Region.binds .any e || decide (e.on < i))) &&
  Region.noSelect ops
/-- behind a step -/
def StepPost (Inv : World → Prop) (V : Nat → Value → World → Prop) (Ext : World → World → Prop) (i : Nat) (aD : Act) (d : Option Tmp) (w : World) : Exit → Act → World → Prop :=
  fun ex a' w' => ex = .normal ∧ ∃ v, a' = aD.put d v ∧ Inv w' ∧ Ext w w' ∧ V i v w'
theorem step_done {Inv : World → Prop} {V : Nat → Value → World → Prop} {Ext : World → World → Prop} {i : Nat} {aD a' : Act} {d : Option Tmp} {w w' : World} {v : Value} (he : a' = aD.put d v) (h1 : Inv w') (h2 : Ext w w') (h3 : V i v w') : StepPost Inv V Ext i aD d w .normal a' w' := ⟨rfl, v, he, h1, h2, h3⟩
def selL (n : Nat) (listed : Array Bool) : List Nat := (List.range n).filter fun i => listed.getD i false
structure Facts (ops : Array Oper) : Prop where
  inj : ∀ i j d, i < ops.size → j < ops.size → dstOf ops i = some d → dstOf ops j = some d → i = j
  dep : ∀ (i : Nat) (o : Oper) (j : Nat), ops[i]? = some o → j ∈ looks ops i → (∃ e ∈ o.after, Region.binds .any e = true ∧ e.on = j) ∧ j ∈ anc ops i
  clo : ∀ (i : Nat) (o : Oper) (j : Nat), ops[i]? = some o → j ∈ anc ops i → j ∈ looks ops i ∨ ∃ k ∈ looks ops i, j ∈ anc ops k
  sel : Region.noSelect ops = true
  ord : ∀ (i : Nat) (o : Oper), ops[i]? = some o → ∀ e ∈ o.after, Region.binds .any e = true → e.on < i
theorem facts_of (h : regionOk ops = true) : Facts ops := by
  simp only [regionOk, Bool.and_eq_true, List.all_eq_true, List.mem_range] at h
  obtain ⟨⟨h1, h2⟩, h3⟩ := h
  refine ⟨fun i j d hi hj hdi hdj => ?_, fun i o j ho hj => ?_, fun i o j ho hj => ?_, h3, fun i o ho e he hbe => ?_⟩
  · have := h1 i hi j hj
    rw [hdi, hdj] at this
    simpa using this
  · have hi : i < ops.size := (Array.getElem?_eq_some_iff.1 ho).1
    have := h2 i hi
    rw [ho] at this
    simp only [Bool.and_eq_true, List.all_eq_true] at this
    obtain ⟨⟨⟨ha, _⟩, hc⟩, _⟩ := this
    have h4 := ha j hj
    rw [Array.any_eq_true] at h4
    obtain ⟨k, hk, h5⟩ := h4
    simp only [Bool.and_eq_true, beq_iff_eq] at h5
    exact ⟨⟨_, Array.getElem_mem hk, h5.1, h5.2⟩, by have := hc j hj; simpa [anc] using this⟩
  · have hi : i < ops.size := (Array.getElem?_eq_some_iff.1 ho).1
    have := h2 i hi
    rw [ho] at this
    simp only [Bool.and_eq_true, List.all_eq_true] at this
    obtain ⟨⟨⟨_, hb⟩, _⟩, _⟩ := this
    have h4 := hb j hj
    rw [List.any_eq_true] at h4
    obtain ⟨k, hk, h5⟩ := h4
    simp only [Bool.or_eq_true, beq_iff_eq] at h5
    rcases h5 with rfl | h5
    · exact .inl hk
    · exact .inr ⟨k, hk, by simpa [anc] using h5⟩
  · have hi : i < ops.size := (Array.getElem?_eq_some_iff.1 ho).1
    have := h2 i hi
    rw [ho] at this
    simp only [Bool.and_eq_true, Array.all_eq_true_iff_forall_mem, Bool.or_eq_true, decide_eq_true_eq] at this
    rcases this.2 e he with h | h
    · rw [hbe] at h; cases h
    · exact h
theorem mem_looks {i j : Nat} {o : Oper} {d : Tmp} (ho : ops[i]? = some o) (hj : j < ops.size) (hd : dstOf ops j = some d) (hl : d ∈ o.looksAt ops) (hn : later ops i j = false) : j ∈ looks ops i := by
  simp only [looks, ho, List.mem_filter, List.mem_range]
  exact ⟨hj, by rw [hd]; simp only [hn, Bool.not_false, Bool.and_true]; simpa using hl⟩
theorem dst_lt {j : Nat} {d : Tmp} (h : dstOf ops j = some d) : j < ops.size := by
  unfold dstOf at h
  cases ho : ops[j]? with
  | none => rw [ho] at h; cases h
  | some o => exact (Array.getElem?_eq_some_iff.1 ho).1
theorem later_looks {i j : Nat} (h : later ops i j = true) : i ∈ looks ops j ∧ ∃ o, ops[j]? = some o := by
  unfold later at h
  simp only [Bool.and_eq_true, decide_eq_true_eq] at h
  obtain ⟨hij, h⟩ := h
  cases hd : dstOf ops i with
  | none => rw [hd] at h; simp at h
  | some e =>
    cases ho : ops[j]? with
    | none => rw [hd, ho] at h; simp at h
    | some o =>
      rw [hd, ho] at h
      refine ⟨mem_looks ho (dst_lt hd) hd (by simpa using h) ?_, o, rfl⟩
      unfold later
      rw [decide_eq_false (by omega)]; rfl
/-- two states in which the same values lie as far as an operation looks -/
theorem same_looks (F : Facts ops) {i : Nat} {o : Oper} (ho : ops[i]? = some o) (x : Nat → Value) (a0 : Act) (L : List Nat) (hL : ∀ j ∈ anc ops i, j ∈ L) (hlt : ∀ j ∈ L, j < ops.size) (hA : ∀ j ∈ anc ops i, j < ops.size) (hno : ∀ j ∈ L, i ∉ anc ops j) :
    (∀ d ∈ o.looksAt ops, (gets ops x a0 L).tmps[d]? = (gets ops x a0 (anc ops i)).tmps[d]?) := by
  intro d hd
  by_cases hex : ∃ j, dstOf ops j = some d
  · obtain ⟨j, hj⟩ := hex
    cases hl : later ops i j with
    | false =>
      have hjl := mem_looks ho (dst_lt hj) hj hd hl
      have hja := (F.dep i o j ho hjl).2
      rw [gets_at x d j hj L a0 (hL j hja) (fun k hk he => F.inj k j d (hlt k hk) (dst_lt hj) he hj), gets_at x d j hj _ a0 hja (fun k hk he => F.inj k j d (hA k hk) (dst_lt hj) he hj)]
    | true =>
      obtain ⟨h1, oj, h2⟩ := later_looks hl
      have h3 := (F.dep j oj i h2 h1).2
      have hjL : j ∉ L := fun h => hno j h h3
      have hjA : j ∉ anc ops i := fun h => hjL (hL j h)
      rw [gets_other x d L a0 (fun k hk he => hjL (F.inj k j d (hlt k hk) (dst_lt hj) he hj ▸ hk)), gets_other x d _ a0 (fun k hk he => hjA (F.inj k j d (hA k hk) (dst_lt hj) he hj ▸ hk))]
  · have hno : ∀ j, dstOf ops j ≠ some d := fun j h => hex ⟨j, h⟩
    rw [gets_other x d L a0 (fun j _ => hno j), gets_other x d _ a0 (fun j _ => hno j)]
theorem eval_same {a b : Act} {o : Oper} (h : ∀ d ∈ o.looksAt ops, a.tmps[d]? = b.tmps[d]?) : ∀ u ∈ o.op.operands, a.eval u = b.eval u := by
  intro u hu
  cases u with
  | tmp t =>
    have : t ∈ o.looksAt ops := List.mem_append_left _ (List.mem_filterMap.2 ⟨.tmp t, by simpa using hu, rfl⟩)
    simp only [Act.eval, Array.getD_eq_getD_getElem?, h t this]
  | _ => rfl
theorem wanted_same {a b : Act} {o : Oper} (h : ∀ d ∈ o.looksAt ops, a.tmps[d]? = b.tmps[d]?) : Region.wanted o (yielded ops a.tmps) = Region.wanted o (yielded ops b.tmps) := by
  unfold Region.wanted
  cases hg : o.guard with
  | none => rfl
  | some gw =>
    obtain ⟨g, want⟩ := gw
    have hy : yielded ops a.tmps g = yielded ops b.tmps g := by
      unfold yielded
      cases ht : (ops[g]?).bind (·.dst) with
      | none => rfl
      | some t =>
        have hm : t ∈ o.looksAt ops := by simp [Oper.looksAt, hg, ht]
        simp only [Option.bind_some, h t hm]
    simp only [hy]
theorem put_same {a b : Act} {d : Option Tmp} {v u : Value} (hs : a.tmps.size = b.tmps.size) (h : b.put d v = b.put d u) : a.put d v = a.put d u := by
  cases d with
  | none => rfl
  | some t =>
    by_cases ht : t < b.tmps.size
    · have h1 := congrArg (fun c => c.tmps[t]?) h
      simp [Act.put, ht] at h1
      rw [h1]
    · simp only [Act.put]
      rw [Array.setIfInBounds_eq_of_size_le (by rw [hs]; exact Nat.not_lt.1 ht), Array.setIfInBounds_eq_of_size_le (by rw [hs]; exact Nat.not_lt.1 ht)]
/-- what an operation leaves in one state it leaves in another one -/
theorem wpOp_of_step {Q : Exit → Act → World → Prop} {i : Nat} {o : Oper} (ho : ops[i]? = some o) (hs : ∀ cs b, o.op ≠ .select cs b) {a aD : Act} {w : World} {R : Value → World → Prop} (hz : a.tmps.size = aD.tmps.size)
    (h : ∀ d ∈ o.looksAt ops, a.tmps[d]? = aD.tmps[d]?) (hstep : wpList P ops (fun ex a' w' => ex = .normal ∧ ∃ v, a' = aD.put o.dst v ∧ R v w') [o] aD w) {K : Act → World → Prop}
    (hK : ∀ v w', R v w' → K (a.put o.dst v) w') : wpOp P ops Q i K a w := by
  have hK2 : ∀ v w', (∃ u, aD.put o.dst v = aD.put o.dst u ∧ R u w') → K (a.put o.dst v) w' := by
    rintro v w' ⟨u, he, hr⟩
    rw [put_same hz he]
    exact hK u w' hr
  unfold Go.wpOp
  simp only [ho]
  unfold wpList at hstep
  rw [wanted_same h]
  by_cases hw : Region.wanted o (yielded ops aD.tmps) = true
  · simp only [hw, if_true] at hstep ⊢
    rcases hstep with hstep | ⟨_, a', w', hl⟩
    · refine .inl ?_
      unfold Oper.wp at hstep ⊢
      rw [execOp_congr o hs (eval_same h)]
      generalize (execOp aD.eval o).run P w = r at *
      cases r with
      | ok n w' =>
        cases n <;> simp only [Oper.upon, wpList] at hstep ⊢
        case value v => exact hK2 v w' hstep.2
        case skip => exact hK2 undef w' hstep.2
        case defer d =>
          obtain ⟨_, v, he, _⟩ := hstep
          have h1 := congrArg Act.defers he
          rw [put_defers, put_defers] at h1
          exact absurd h1 (by simp)
        case enter f args =>
          refine Calls.mono hstep fun e w'' he => ?_
          cases e with
          | returned v => exact hK2 v w'' he.2
          | panicked c => exact absurd he.1 (by simp)
          | outgrown => obtain ⟨a', w', he, _⟩ := he; exact absurd he (by simp)
        case row row args => exact Rows.mono hstep fun v w'' he => hK2 v w'' he.2
      | halt x w' =>
        cases x <;> simp only [Oper.upon] at hstep ⊢
        case panic u => exact absurd hstep.1 (by simp)
    · exact absurd hl.1 (by simp)
  · simp only [hw] at hstep ⊢
    exact hK2 undef w hstep.2
theorem listed_set {listed : Array Bool} {i j : Nat} (hi : i < listed.size) : (listed.setIfInBounds i true).getD j false = (decide (j = i) || listed.getD j false) := by
  by_cases h : j = i
  · subst h; simp [Array.getD_eq_getD_getElem?, hi]
  · have h' : i ≠ j := fun e => h e.symm
    simp [Array.getD_eq_getD_getElem?, Array.getElem?_setIfInBounds_ne h', h]
theorem mem_sel {n i : Nat} {listed : Array Bool} : i ∈ selL n listed ↔ i < n ∧ listed.getD i false = true := by simp [selL]
/-- the state of a region under way -/
def Under (ops : Array Oper) (a0 : Act) (Inv : World → Prop) (V : Nat → Value → World → Prop) (listed : Array Bool) (a : Act) (w : World) : Prop :=
  ∃ x, a = gets ops x a0 (selL ops.size listed) ∧ (∀ i, listed.getD i false = true → V i (x i) w) ∧ Inv w ∧ listed.size = ops.size ∧ (∀ i, listed.getD i false = true → ∀ j ∈ anc ops i, listed.getD j false = true)
theorem count_split (p q : Nat → Bool) : ∀ l : List Nat, l.countP p = l.countP (fun j => p j && q j) + l.countP (fun j => p j && !q j)
  | [] => rfl
  | j :: l => by
    simp only [List.countP_cons, count_split p q l]
    cases p j <;> cases q j <;> simp <;> omega
theorem anc_lt (F : Facts ops) : ∀ (i : Nat), ∀ j ∈ anc ops i, j < ops.size := by
  intro i
  induction i using Nat.strongRecOn with
  | _ i ih =>
    intro j hj
    cases ho : ops[i]? with
    | none =>
      have hl : looks ops i = [] := by simp [looks, ho]
      have hge : ops.size ≤ i := by
        rcases Nat.lt_or_ge i ops.size with h | h
        · rw [Array.getElem?_eq_getElem h] at ho; cases ho
        · exact h
      have hlen : ∀ (n : Nat) (f : List (List Nat) → Nat → List Nat), ((List.range n).foldl (fun T i => T ++ [f T i]) []).length = n := by
        intro n f
        induction n with
        | zero => rfl
        | succ n ihn => rw [List.range_succ, List.foldl_append]; simp [ihn]
      have hz : (ancT ops).length = ops.size := hlen _ _
      have : anc ops i = [] := by simp [anc, List.getD, hz, hge]
      rw [this] at hj; cases hj
    | some o =>
      rcases F.clo i o j ho hj with h | ⟨k, hk, h⟩
      · simp only [looks, ho, List.mem_filter, List.mem_range] at h; exact h.1
      · obtain ⟨⟨e, he, hbe, rfl⟩, _⟩ := F.dep i o k ho hk
        exact ih e.on (F.ord i o ho e he hbe) j h
theorem dst_of {i : Nat} {o : Oper} (ho : ops[i]? = some o) : dstOf ops i = o.dst := by simp [dstOf, ho]
/-- **A region that draws its order**: each operation once, behind those that it looks at. -/
theorem region_rule {id : Nat} {Q : Exit → Act → World → Prop} {a0 : Act} {w0 : World} (hm : P.follows .mixedOrders = true) (hok : regionOk ops = true) (Inv : World → Prop) (V : Nat → Value → World → Prop) (Ext : World → World → Prop)
    (hmono : ∀ i, i < ops.size → lastOp ops i = false → ∀ v w w', Ext w w' → V i v w → V i v w') (h0 : Inv { w0 with drawn := w0.drawn + 1 })
    (hstep : ∀ (i : Nat) (o : Oper), ops[i]? = some o → ∀ x w, Inv w → (∀ j ∈ anc ops i, V j (x j) w) → wpList P ops (StepPost Inv V Ext i (gets ops x a0 (anc ops i)) o.dst w) [o] (gets ops x a0 (anc ops i)) w)
    (hend : ∀ x w, Inv w → (∀ i, i < ops.size → V i (x i) w) → Q .normal (gets ops x a0 (List.range ops.size)) w) : (Code.region id ops true).wp P Q a0 w0 := by
  have F := facts_of hok
  refine wp_region_any hm ?_
  have key : ∀ (fuel : Nat) (listed : Array Bool) (a : Act) (w : World), (List.range ops.size).countP (fun i => !listed.getD i false) ≤ fuel → Under ops a0 Inv V listed a w → wpAny P .any ops Q fuel listed a w := by
    intro fuel
    have hdone : ∀ (listed : Array Bool) (a : Act) (w : World), Under ops a0 Inv V listed a w → (∀ i, i < ops.size → listed.getD i false = true) → Q .normal a w := by
      rintro listed a w ⟨x, rfl, hv, hi, hsz, _⟩ hall
      have he : selL ops.size listed = List.range ops.size := by
        unfold selL
        rw [List.filter_eq_self]
        intro i hi
        exact hall i (List.mem_range.1 hi)
      rw [he]
      exact hend x w hi (fun i hi => hv i (hall i hi))
    have hall : ∀ (listed : Array Bool), listed.size = ops.size → Region.ready .any ops listed = [] → ∀ i, i < ops.size → listed.getD i false = true := by
      intro listed hsz hr i
      induction i using Nat.strongRecOn with
      | _ i ih =>
        intro hi
        cases hc : listed.getD i false with
        | true => rfl
        | false =>
          have hmem : i ∈ Region.ready .any ops listed := by
            rw [mem_ready]
            refine ⟨?_, ops[i], Array.getElem?_eq_getElem hi, fun e he hbe => ?_⟩
            · simp [Array.getD_eq_getD_getElem?, hsz ▸ hi] at hc ⊢; exact hc
            · have hlt := F.ord i ops[i] (Array.getElem?_eq_getElem hi) e he hbe
              exact ih e.on hlt (by omega)
          rw [hr] at hmem; cases hmem
    induction fuel with
    | zero =>
      intro listed a w hc hU
      have hU2 := hU
      obtain ⟨_, _, _, _, hsz, _⟩ := hU2
      have hl : ∀ i, i < ops.size → listed.getD i false = true := by
        intro i hi
        have h1 : (List.range ops.size).countP (fun i => !listed.getD i false) = 0 := by omega
        rw [List.countP_eq_zero] at h1
        have := h1 i (List.mem_range.2 hi)
        simpa using this
      refine ⟨?_, hdone listed a w hU hl⟩
      rw [List.eq_nil_iff_forall_not_mem]
      intro i hi
      rw [mem_ready] at hi
      obtain ⟨h1, o, ho, _⟩ := hi
      have hlt : i < ops.size := (Array.getElem?_eq_some_iff.1 ho).1
      have h2 := hl i hlt
      simp [Array.getD_eq_getD_getElem?, hsz ▸ hlt] at h1 h2
      rw [h1] at h2; cases h2
    | succ fuel ih =>
      intro listed a w hc hU
      have hU2 := hU
      obtain ⟨_, _, _, _, hsz, _⟩ := hU2
      refine ⟨fun hr => hdone listed a w hU (hall listed hsz hr), fun i hi => ?_⟩
      obtain ⟨x, rfl, hv, hinv, _, hdc⟩ := hU
      rw [mem_ready] at hi
      obtain ⟨h1, o, ho, hdeps⟩ := hi
      have hlt : i < ops.size := (Array.getElem?_eq_some_iff.1 ho).1
      have hil : i < listed.size := by omega
      have hnl : listed.getD i false = false := by simp [Array.getD_eq_getD_getElem?, hil] at h1 ⊢; exact h1
      have hanc : ∀ j ∈ anc ops i, listed.getD j false = true := by
        intro j hj
        rcases F.clo i o j ho hj with h | ⟨k, hk, h⟩
        · obtain ⟨⟨e, he, hb, rfl⟩, _⟩ := F.dep i o j ho h
          exact hdeps e he hb
        · obtain ⟨⟨e, he, hb, rfl⟩, _⟩ := F.dep i o k ho hk
          exact hdc e.on (hdeps e he hb) j h
      have hsel := Region.noSelect_spec F.sel
      refine wpOp_of_step (R := fun v w' => Inv w' ∧ Ext w w' ∧ V i v w') ho (fun cs b => hsel i o cs b ho) (by rw [gets_size, gets_size]) (same_looks F ho x a0 _ (fun j hj => mem_sel.2 ⟨anc_lt F i j hj, hanc j hj⟩) (fun j hj => (mem_sel.1 hj).1) (anc_lt F i) (fun j hj hi => by have h5 := hdc j (mem_sel.1 hj).2 i hi; rw [hnl] at h5; cases h5)) (hstep i o ho x w hinv (fun j hj => hv j (hanc j hj))) ?_
      rintro v w' ⟨hinv', hext, hvi⟩
      have hget : ∀ j, (listed.setIfInBounds i true).getD j false = (decide (j = i) || listed.getD j false) := fun j => listed_set hil
      refine ih _ _ w' ?_ ⟨fun j => if j = i then v else x j, ?_, ?_, hinv', by simpa using hsz, ?_⟩
      · have h2 := count_split (fun j => !listed.getD j false) (fun j => decide (j ≠ i)) (List.range ops.size)
        have h3 : 0 < (List.range ops.size).countP (fun j => (!listed.getD j false) && !decide (j ≠ i)) := by
          rw [List.countP_pos_iff]
          exact ⟨i, List.mem_range.2 hlt, by simp [hnl]⟩
        have h4 : (List.range ops.size).countP (fun j => !(listed.setIfInBounds i true).getD j false) = (List.range ops.size).countP (fun j => (!listed.getD j false) && decide (j ≠ i)) := by
          congr 1
          funext j
          rw [hget]
          by_cases hji : j = i <;> simp [hji]
        omega
      · have hdst := dst_of ho
        refine act_ext (by rw [put_defers, gets_defers, gets_defers]) (by rw [put_size, gets_size, gets_size]) (fun d => ?_)
        by_cases hd : o.dst = some d
        · rw [gets_at _ d i (hdst.trans hd) _ a0 (mem_sel.2 ⟨hlt, by rw [hget]; simp⟩) (fun k hk he => F.inj k i d (mem_sel.1 hk).1 hlt he (hdst.trans hd)), hd]
          simp only [Act.put, Array.getElem?_setIfInBounds, if_true, gets_size]
        · have hput : (Act.put (gets ops x a0 (selL ops.size listed)) o.dst v).tmps[d]? = (gets ops x a0 (selL ops.size listed)).tmps[d]? := by
            cases he : o.dst with
            | none => rfl
            | some t =>
              have hne : t ≠ d := fun h' => hd (by rw [he, h'])
              simp [Act.put, Array.getElem?_setIfInBounds_ne hne]
          rw [hput]
          by_cases hex : ∃ j, j ∈ selL ops.size listed ∧ dstOf ops j = some d
          · obtain ⟨j, hj, hjd⟩ := hex
            have hji : j ≠ i := fun e => hd (by rw [← hdst, ← e]; exact hjd)
            rw [gets_at x d j hjd _ a0 hj (fun k hk he => F.inj k j d (mem_sel.1 hk).1 (mem_sel.1 hj).1 he hjd), gets_at _ d j hjd _ a0 (mem_sel.2 ⟨(mem_sel.1 hj).1, by rw [hget, (mem_sel.1 hj).2]; simp⟩) (fun k hk he => F.inj k j d (mem_sel.1 hk).1 (mem_sel.1 hj).1 he hjd)]
            simp only [hji, if_false]
          · rw [gets_other x d _ a0 (fun j hj he => hex ⟨j, hj, he⟩), gets_other _ d _ a0 (fun j hj he => ?_)]
            have hj2 := (mem_sel.1 hj).2
            rw [hget] at hj2
            by_cases hji : j = i
            · subst hji; exact hd (by rw [← hdst]; exact he)
            · simp [hji] at hj2
              exact hex ⟨j, mem_sel.2 ⟨(mem_sel.1 hj).1, by simpa using hj2⟩, he⟩
      · intro j hj
        rw [hget] at hj
        by_cases hji : j = i
        · subst hji; simpa using hvi
        · simp only [hji, decide_false, Bool.false_or] at hj
          simp only [hji, if_false]
          refine hmono j ?_ ?_ _ w w' hext (hv j hj)
          · rcases Nat.lt_or_ge j ops.size with h | h
            · exact h
            · simp [Array.getD_eq_getD_getElem?, Array.getElem?_eq_none (show listed.size ≤ j by omega)] at hj
          cases hlo : lastOp ops j with
          | false => rfl
          | true =>
            simp only [lastOp, List.all_eq_true, List.mem_range] at hlo
            have := hlo i hlt
            have hij : (i == j) = false := by simpa using fun e => hji e.symm
            rw [hij, Bool.false_or, List.contains_iff_mem] at this
            have h5 := hdc j hj i this
            rw [hnl] at h5; cases h5
      · intro j hj k hk
        rw [hget] at hj ⊢
        by_cases hji : j = i
        · subst hji; rw [hanc k hk]; simp
        · simp only [hji, decide_false, Bool.false_or] at hj
          rw [hdc j hj k hk]; simp
  refine key _ _ _ _ ?_ ⟨fun _ => undef, ?_, ?_, h0, by simp, ?_⟩
  · exact Nat.le_trans (List.countP_le_length) (by simp)
  · have : selL ops.size (Array.replicate ops.size false) = [] := by
      unfold selL
      rw [List.filter_eq_nil_iff]
      intro i hi
      simp [Array.getD_eq_getD_getElem?, Array.getElem?_replicate]
      split <;> simp
    rw [this]; rfl
  · intro i hi; simp [Array.getD_eq_getD_getElem?, Array.getElem?_replicate] at hi; split at hi <;> simp at hi
  · intro i hi; simp [Array.getD_eq_getD_getElem?, Array.getElem?_replicate] at hi; split at hi <;> simp at hi
def getsD (D : List (Option Tmp)) (x : Nat → Value) : Act → List Nat → Act
  | a, [] => a
  | a, j :: r => getsD D x (a.put (D.getD j none) (x j)) r
theorem getsD_eq (x : Nat → Value) {D : List (Option Tmp)} (hD : (List.range ops.size).map (dstOf ops) = D) : ∀ (l : List Nat) (a : Act), (∀ j ∈ l, j < ops.size) → getsD D x a l = gets ops x a l
  | [], _, _ => rfl
  | j :: r, a, h => by
    have hj := h j (List.mem_cons_self ..)
    have : D.getD j none = dstOf ops j := by rw [← hD]; simp [List.getD, hj]
    rw [getsD, gets, this, getsD_eq x hD r _ (fun k hk => h k (List.mem_cons_of_mem _ hk))]
def AllV (V : Nat → Value → World → Prop) (x : Nat → Value) (w : World) : List Nat → Prop
  | [] => True
  | j :: r => V j (x j) w ∧ AllV V x w r
theorem allV_of {V : Nat → Value → World → Prop} {x : Nat → Value} {w : World} : ∀ {l : List Nat}, (∀ j ∈ l, V j (x j) w) → AllV V x w l
  | [], _ => trivial
  | j :: _, h => ⟨h j (List.mem_cons_self ..), allV_of fun k hk => h k (List.mem_cons_of_mem _ hk)⟩
def Steps (P : Program) (ops : Array Oper) (Inv : World → Prop) (V : Nat → Value → World → Prop) (Ext : World → World → Prop) (D : List (Option Tmp)) (a0 : Act) : Nat → List (List Nat) → List Oper → Prop
  | k, L :: A, o :: l => (∀ x w, Inv w → AllV V x w L → wpList P ops (StepPost Inv V Ext k (getsD D x a0 L) o.dst w) [o] (getsD D x a0 L) w) ∧ Steps P ops Inv V Ext D a0 (k + 1) A l
  | _, _, _ => True
theorem steps_at {Inv : World → Prop} {V : Nat → Value → World → Prop} {Ext : World → World → Prop} {D : List (Option Tmp)} {a0 : Act} : ∀ {l : List Oper} {A : List (List Nat)} {k : Nat}, Steps P ops Inv V Ext D a0 k A l → ∀ (i : Nat) (o : Oper) (L : List Nat), l[i]? = some o → A[i]? = some L →
    ∀ x w, Inv w → AllV V x w L → wpList P ops (StepPost Inv V Ext (k + i) (getsD D x a0 L) o.dst w) [o] (getsD D x a0 L) w
  | [], _, _, _, i, o, L, h, _ => by simp at h
  | _ :: _, [], _, _, i, o, L, _, h => by simp at h
  | o' :: l, L' :: A, k, hs, 0, o, L, h1, h2 => by
    simp at h1 h2
    subst h1 h2
    exact hs.1
  | o' :: l, L' :: A, k, hs, i + 1, o, L, h1, h2 => by
    simp at h1 h2
    have := steps_at hs.2 i o L h1 h2
    rw [show k + (i + 1) = k + 1 + i from by omega]
    exact this
/-- **A region that draws its order**, written out: one goal an operation, and the end. -/
theorem region_lit {l : List Oper} {id : Nat} {Q : Exit → Act → World → Prop} {a0 : Act} {w0 : World} (hm : P.follows .mixedOrders = true) (hok : regionOk l.toArray = true) (A : List (List Nat)) (hA : ancT l.toArray = A) (D : List (Option Tmp)) (hD : (List.range l.toArray.size).map (dstOf l.toArray) = D)
    (last : List Bool) (hlast : (List.range l.toArray.size).map (lastOp l.toArray) = last)
    (Inv : World → Prop) (V : Nat → Value → World → Prop) (Ext : World → World → Prop)
    (hmono : ∀ i, last.getD i true = false → ∀ v w w', Ext w w' → V i v w → V i v w') (h0 : Inv w0.drew) (hstep : Steps P l.toArray Inv V Ext D a0 0 A l)
    (hend : ∀ x w, Inv w → AllV V x w (List.range l.length) → Q .normal (getsD D x a0 (List.range l.length)) w) : (Code.region id l.toArray true).wp P Q a0 w0 := by
  have F := facts_of hok
  have hz : l.toArray.size = l.length := by simp
  refine region_rule hm hok Inv V Ext (fun i hlt hi => ?_) h0 (fun i o ho x w hI hV => ?_) (fun x w hI hV => ?_)
  · refine hmono i ?_
    rw [← hlast]
    simp only [List.getD, List.getElem?_map, List.getElem?_range hlt, Option.map_some, Option.getD_some]
    exact hi
  · have hil : i < l.toArray.size := (Array.getElem?_eq_some_iff.1 ho).1
    have hAl : A[i]? = some (anc l.toArray i) := by
      have hlen : ∀ (n : Nat) (f : List (List Nat) → Nat → List Nat), ((List.range n).foldl (fun T i => T ++ [f T i]) []).length = n := by
        intro n f
        induction n with
        | zero => rfl
        | succ n ihn => rw [List.range_succ, List.foldl_append]; simp [ihn]
      have h1 : A.length = l.toArray.size := by rw [← hA]; exact hlen _ _
      rw [List.getElem?_eq_getElem (by omega)]
      simp only [anc, hA, List.getD, List.getElem?_eq_getElem (show i < A.length by omega), Option.getD_some]
    have h2 := steps_at hstep i o (anc l.toArray i) (by simpa using ho) hAl x w hI (allV_of hV)
    rw [Nat.zero_add, getsD_eq x hD _ _ (anc_lt F i)] at h2
    exact h2
  · have h2 := hend x w hI (allV_of fun j hj => hV j (by simpa using hj))
    rw [getsD_eq x hD _ _ (fun j hj => by simpa using hj)] at h2
    rw [hz]
    exact h2
end
end Go.Proofs.YtkbfhgcjimfgkaaDoor
namespace Go.Proofs.YtkbfhgcjimfgkaaDoor
open Go.RowKit
/-- a frame's slots: so many that nobody looks at, one, and others -/
def fEm (k : Nat) : List Value := List.replicate k undef
def fZm (k : Nat) (v : Value) (l : List Value) : List Value := List.replicate k undef ++ v :: l
/-- letters for what the walk's simp shall not open -/
theorem toI {I J : (Nat → Bool) → (Nat → Value) → World → Prop} (h : Hid (I = J)) {L : Nat → Bool} {y : Nat → Value} {W : World} (x : J L y W) : I L y W := by rw [h.out]; exact x
theorem ofI {I J : (Nat → Bool) → (Nat → Value) → World → Prop} (h : Hid (I = J)) {L : Nat → Bool} {y : Nat → Value} {W : World} (x : I L y W) : J L y W := by rw [← h.out]; exact x
theorem toV {V U : Nat → Value → World → Prop} (h : Hid (V = U)) {i : Nat} {v : Value} {W : World} (x : U i v W) : V i v W := by rw [h.out]; exact x
/-- one more is done; one more value is there -/
def setB (L : Nat → Bool) (k : Nat) : Nat → Bool := fun j => if j = k then true else L j
def setV (x : Nat → Value) (k : Nat) (v : Value) : Nat → Value := fun j => if j = k then v else x j
theorem step3_done {I : (Nat → Bool) → (Nat → Value) → World → Prop} {V : Nat → Value → World → Prop} {Ext : World → World → Prop} {i k : Nat} {aD a' : Act} {d : Option Tmp} {w w' : World} {v : Value} {L : Nat → Bool} {x : Nat → Value} (he : a' = aD.put d v)
    (h1 : I (setB L k) (setV x k v) w') (h2 : Ext w w') (h3 : V i v w') :
    StepPost (fun _ => True) (fun i v w' => I (setB L k) (setV x k v) w' ∧ V i v w') Ext i aD d w .normal a' w' := ⟨rfl, v, he, trivial, h2, h1, h3⟩
section
variable {P : Program} {ops : Array Oper}
/-- a frame that shows an operation what it looks at serves as well -/
theorem step_same {Inv : World → Prop} {V : Nat → Value → World → Prop} {Ext : World → World → Prop} {i : Nat} {o : Oper} (hs : ∀ cs b, o.op ≠ .select cs b) {a F : Act} {w : World} (hz : ∀ d, o.dst = some d → d < F.tmps.size)
    (h : ∀ d ∈ o.looksAt ops, a.tmps[d]? = F.tmps[d]?) (hstep : wpList P ops (StepPost Inv V Ext i F o.dst w) [o] F w) : wpList P ops (StepPost Inv V Ext i a o.dst w) [o] a w := by
  have key : ∀ v w', (∃ u, F.put o.dst v = F.put o.dst u ∧ Inv w' ∧ Ext w w' ∧ V i u w') → StepPost Inv V Ext i a o.dst w .normal (a.put o.dst v) w' := by
    rintro v w' ⟨u, he, h1, h2, h3⟩
    refine ⟨rfl, u, ?_, h1, h2, h3⟩
    cases hd : o.dst with
    | none => rfl
    | some d =>
      rw [hd] at he
      have hlt := hz d hd
      have h4 := congrArg (fun c => c.tmps[d]?) he
      simp [Act.put, hlt] at h4
      rw [h4]
  unfold wpList at hstep ⊢
  rw [wanted_same h]
  by_cases hw : Region.wanted o (yielded ops F.tmps) = true
  · simp only [hw, if_true] at hstep ⊢
    rcases hstep with hstep | ⟨_, a', w', hl⟩
    · refine .inl ?_
      unfold Oper.wp at hstep ⊢
      rw [execOp_congr o hs (eval_same h)]
      generalize (execOp F.eval o).run P w = r at *
      cases r with
      | ok n w' =>
        cases n <;> simp only [Oper.upon, wpList] at hstep ⊢
        case value v => obtain ⟨_, u, h1, h2⟩ := hstep; exact key v w' ⟨u, h1, h2⟩
        case skip => obtain ⟨_, u, h1, h2⟩ := hstep; exact key undef w' ⟨u, h1, h2⟩
        case defer d =>
          obtain ⟨_, v, he, _⟩ := hstep
          have h1 := congrArg Act.defers he
          rw [put_defers, put_defers] at h1
          exact absurd h1 (by simp)
        case enter f args =>
          refine Calls.mono hstep fun e w'' he => ?_
          cases e with
          | returned v => obtain ⟨_, u, h1, h2⟩ := he; exact key v w'' ⟨u, h1, h2⟩
          | panicked c => exact absurd he.1 (by simp)
          | outgrown => obtain ⟨a', w', he, _⟩ := he; exact absurd he (by simp)
        case row row args => exact Rows.mono hstep fun v w'' he => by obtain ⟨_, u, h1, h2⟩ := he; exact key v w'' ⟨u, h1, h2⟩
      | halt x w' =>
        cases x <;> simp only [Oper.upon] at hstep ⊢
        case panic u => exact absurd hstep.1 (by simp)
    · exact absurd hl.1 (by simp)
  · simp only [hw] at hstep ⊢
    simp only [wpList] at hstep ⊢
    obtain ⟨_, u, h1, h2⟩ := hstep
    exact key undef w ⟨u, h1, h2⟩
/-- each frame shows its operation what it looks at -/
def FramesOk (ops : Array Oper) (D : List (Option Tmp)) (a0 : Act) : List (List Nat) → List ((Nat → Value) → Act) → List Oper → Prop
  | L :: A, F :: Fs, o :: l => (∀ x : Nat → Value, (o.looksAt ops).map (fun d => (getsD D x a0 L).tmps[d]?) = (o.looksAt ops).map (fun d => (F x).tmps[d]?) ∧ (match o.dst with | some d => decide (d < (F x).tmps.size) | none => true) = true) ∧ FramesOk ops D a0 A Fs l
  | _, _, [] => True
  | _, _, _ => False
def Steps2 (P : Program) (ops : Array Oper) (Inv : World → Prop) (V : Nat → Value → World → Prop) (Ext : World → World → Prop) : Nat → List (List Nat) → List ((Nat → Value) → Act) → List Oper → Prop
  | k, L :: A, F :: Fs, o :: l => (∀ x w, Inv w → AllV V x w L → wpList P ops (StepPost Inv V Ext k (F x) o.dst w) [o] (F x) w) ∧ Steps2 P ops Inv V Ext (k + 1) A Fs l
  | _, _, _, _ => True
def noSel (o : Oper) : Bool := match o.op with | .select _ _ => false | _ => true
theorem noSel_ne {o : Oper} (h : noSel o = true) : ∀ cs b, o.op ≠ .select cs b := by
  intro cs b he
  unfold noSel at h
  rw [he] at h; cases h
theorem steps_of {Inv : World → Prop} {V : Nat → Value → World → Prop} {Ext : World → World → Prop} {D : List (Option Tmp)} {a0 : Act} : ∀ {l : List Oper} {A : List (List Nat)} {Fs : List ((Nat → Value) → Act)} {k : Nat}, l.all noSel = true → FramesOk ops D a0 A Fs l → Steps2 P ops Inv V Ext k A Fs l → Steps P ops Inv V Ext D a0 k A l
  | [], A, Fs, k, _, _, _ => by cases A <;> trivial
  | o :: l, [], Fs, k, _, h, _ => by cases Fs <;> trivial
  | o :: l, L :: A, [], k, _, h, _ => by cases h
  | o :: l, L :: A, F :: Fs, k, hn, hf, hs => by
    simp only [List.all_cons, Bool.and_eq_true] at hn
    refine ⟨fun x w hI hV => ?_, steps_of hn.2 hf.2 hs.2⟩
    obtain ⟨h1, h2⟩ := hf.1 x
    refine step_same (noSel_ne hn.1) (F := F x) (fun d hd => ?_) (fun d hd => ?_) (hs.1 x w hI hV)
    · rw [hd] at h2
      exact of_decide_eq_true h2
    · exact List.map_inj_left.1 h1 d hd
/-- **A region that draws its order**, written out, at small frames: one goal an operation, and the end. -/
theorem region_lit2 {l : List Oper} {id : Nat} {Q : Exit → Act → World → Prop} {a0 : Act} {w0 : World} (hm : P.follows .mixedOrders = true) (hok : regionOk l.toArray = true) (hsel : l.all noSel = true) (A : List (List Nat)) (hA : ancT l.toArray = A) (D : List (Option Tmp)) (hD : (List.range l.toArray.size).map (dstOf l.toArray) = D)
    (last : List Bool) (hlast : (List.range l.toArray.size).map (lastOp l.toArray) = last)
    (Inv : World → Prop) (V : Nat → Value → World → Prop) (Ext : World → World → Prop) (Fs : List ((Nat → Value) → Act)) (hF : FramesOk l.toArray D a0 A Fs l)
    (hmono : ∀ i, last.getD i true = false → ∀ v w w', Ext w w' → V i v w → V i v w') (h0 : Inv w0.drew) (hstep : Steps2 P l.toArray Inv V Ext 0 A Fs l)
    (hend : ∀ x w, Inv w → AllV V x w (List.range l.length) → Q .normal (getsD D x a0 (List.range l.length)) w) : (Code.region id l.toArray true).wp P Q a0 w0 :=
  region_lit hm hok A hA D hD last hlast Inv V Ext hmono h0 (steps_of hsel hF hstep) hend
end
end Go.Proofs.YtkbfhgcjimfgkaaDoor
namespace Go.Proofs.YtkbfhgcjimfgkaaDoor
open Go.RowKit
section
variable {P : Program} {ops : Array Oper}
/-- as Under, but what is killed need not stand -/
def Under3 (ops : Array Oper) (K : Nat → List Nat) (a0 : Act) (Inv : (Nat → Bool) → (Nat → Value) → World → Prop) (V : Nat → Value → World → Prop) (listed : Array Bool) (a : Act) (w : World) : Prop :=
  ∃ x, a = gets ops x a0 (selL ops.size listed) ∧ (∀ i, listed.getD i false = true → (∀ j ∈ K i, listed.getD j false = false) → V i (x i) w) ∧ Inv (fun j => listed.getD j false) x w ∧ listed.size = ops.size ∧ (∀ i, listed.getD i false = true → ∀ j ∈ anc ops i, listed.getD j false = true)
theorem region_rule3 {id : Nat} {Q : Exit → Act → World → Prop} {a0 : Act} {w0 : World} (hm : P.follows .mixedOrders = true) (hok : regionOk ops = true) (Inv : (Nat → Bool) → (Nat → Value) → World → Prop) (V : Nat → Value → World → Prop) (Ext : Nat → World → World → Prop) (K N : Nat → List Nat) (hN : ∀ i, ∀ j ∈ N i, j ∈ anc ops i ∧ ∀ k ∈ K j, k = i ∨ i ∈ anc ops k)
    (hmono : ∀ i j, i < ops.size → j < ops.size → j ≠ i → j ∉ anc ops i → j ∉ K i → ∀ v w w', Ext j w w' → V i v w → V i v w') (h0 : ∀ x, Inv (fun _ => false) x { w0 with drawn := w0.drawn + 1 })
    (hstep : ∀ (i : Nat) (o : Oper), ops[i]? = some o → ∀ x w (L : Nat → Bool), Inv L x w → (∀ j ∈ anc ops i, L j = true) → (∀ j, j = i ∨ i ∈ anc ops j → L j = false) → (∀ j ∈ N i, V j (x j) w) → wpList P ops (StepPost (fun _ => True) (fun i v w' => Inv (setB L i) (setV x i v) w' ∧ V i v w') (Ext i) i (gets ops x a0 (anc ops i)) o.dst w) [o] (gets ops x a0 (anc ops i)) w)
    (hend : ∀ x w (L : Nat → Bool), (∀ i, i < ops.size → L i = true) → Inv L x w → (∀ i, i < ops.size → K i = [] → V i (x i) w) → Q .normal (gets ops x a0 (List.range ops.size)) w) : (Code.region id ops true).wp P Q a0 w0 := by
  have F := facts_of hok
  refine wp_region_any hm ?_
  have key : ∀ (fuel : Nat) (listed : Array Bool) (a : Act) (w : World), (List.range ops.size).countP (fun i => !listed.getD i false) ≤ fuel → Under3 ops K a0 Inv V listed a w → wpAny P .any ops Q fuel listed a w := by
    intro fuel
    have hdone : ∀ (listed : Array Bool) (a : Act) (w : World), Under3 ops K a0 Inv V listed a w → (∀ i, i < ops.size → listed.getD i false = true) → Q .normal a w := by
      rintro listed a w ⟨x, rfl, hv, hi, hsz, _⟩ hall
      have he : selL ops.size listed = List.range ops.size := by
        unfold selL
        rw [List.filter_eq_self]
        intro i hi
        exact hall i (List.mem_range.1 hi)
      rw [he]
      exact hend x w _ hall hi (fun i hi hk => hv i (hall i hi) (fun j hj => by rw [hk] at hj; cases hj))
    have hall : ∀ (listed : Array Bool), listed.size = ops.size → Region.ready .any ops listed = [] → ∀ i, i < ops.size → listed.getD i false = true := by
      intro listed hsz hr i
      induction i using Nat.strongRecOn with
      | _ i ih =>
        intro hi
        cases hc : listed.getD i false with
        | true => rfl
        | false =>
          have hmem : i ∈ Region.ready .any ops listed := by
            rw [mem_ready]
            refine ⟨?_, ops[i], Array.getElem?_eq_getElem hi, fun e he hbe => ?_⟩
            · simp [Array.getD_eq_getD_getElem?, hsz ▸ hi] at hc ⊢; exact hc
            · have hlt := F.ord i ops[i] (Array.getElem?_eq_getElem hi) e he hbe
              exact ih e.on hlt (by omega)
          rw [hr] at hmem; cases hmem
    induction fuel with
    | zero =>
      intro listed a w hc hU
      have hU2 := hU
      obtain ⟨_, _, _, _, hsz, _⟩ := hU2
      have hl : ∀ i, i < ops.size → listed.getD i false = true := by
        intro i hi
        have h1 : (List.range ops.size).countP (fun i => !listed.getD i false) = 0 := by omega
        rw [List.countP_eq_zero] at h1
        have := h1 i (List.mem_range.2 hi)
        simpa using this
      refine ⟨?_, hdone listed a w hU hl⟩
      rw [List.eq_nil_iff_forall_not_mem]
      intro i hi
      rw [mem_ready] at hi
      obtain ⟨h1, o, ho, _⟩ := hi
      have hlt : i < ops.size := (Array.getElem?_eq_some_iff.1 ho).1
      have h2 := hl i hlt
      simp [Array.getD_eq_getD_getElem?, hsz ▸ hlt] at h1 h2
      rw [h1] at h2; cases h2
    | succ fuel ih =>
      intro listed a w hc hU
      have hU2 := hU
      obtain ⟨_, _, _, _, hsz, _⟩ := hU2
      refine ⟨fun hr => hdone listed a w hU (hall listed hsz hr), fun i hi => ?_⟩
      obtain ⟨x, rfl, hv, hinv, _, hdc⟩ := hU
      rw [mem_ready] at hi
      obtain ⟨h1, o, ho, hdeps⟩ := hi
      have hlt : i < ops.size := (Array.getElem?_eq_some_iff.1 ho).1
      have hil : i < listed.size := by omega
      have hnl : listed.getD i false = false := by simp [Array.getD_eq_getD_getElem?, hil] at h1 ⊢; exact h1
      have hanc : ∀ j ∈ anc ops i, listed.getD j false = true := by
        intro j hj
        rcases F.clo i o j ho hj with h | ⟨k, hk, h⟩
        · obtain ⟨⟨e, he, hb, rfl⟩, _⟩ := F.dep i o j ho h
          exact hdeps e he hb
        · obtain ⟨⟨e, he, hb, rfl⟩, _⟩ := F.dep i o k ho hk
          exact hdc e.on (hdeps e he hb) j h
      have hsel := Region.noSelect_spec F.sel
      have hdesc : ∀ j, j = i ∨ i ∈ anc ops j → listed.getD j false = false := by
        rintro j (rfl | hj)
        · exact hnl
        · cases hc : listed.getD j false with
          | false => rfl
          | true =>
            have h5 := hdc j hc i hj
            rw [hnl] at h5; cases h5
      refine wpOp_of_step (R := fun v w' => True ∧ Ext i w w' ∧ Inv (fun j => if j = i then true else listed.getD j false) (fun j => if j = i then v else x j) w' ∧ V i v w') ho (fun cs b => hsel i o cs b ho) (by rw [gets_size, gets_size]) (same_looks F ho x a0 _ (fun j hj => mem_sel.2 ⟨anc_lt F i j hj, hanc j hj⟩) (fun j hj => (mem_sel.1 hj).1) (anc_lt F i) (fun j hj hi => by have h5 := hdc j (mem_sel.1 hj).2 i hi; rw [hnl] at h5; cases h5)) (hstep i o ho x w _ hinv hanc hdesc (fun j hj => hv j (hanc j (hN i j hj).1) (fun k hk => hdesc k ((hN i j hj).2 k hk)))) ?_
      rintro v w' ⟨_, hext, hinv', hvi⟩
      have hget : ∀ j, (listed.setIfInBounds i true).getD j false = (decide (j = i) || listed.getD j false) := fun j => listed_set hil
      have hfun : (fun j => (listed.setIfInBounds i true).getD j false) = (fun j => if j = i then true else listed.getD j false) := by
        funext j
        rw [hget]
        by_cases hji : j = i <;> simp [hji]
      refine ih _ _ w' ?_ ⟨fun j => if j = i then v else x j, ?_, ?_, by rw [hfun]; exact hinv', by simpa using hsz, ?_⟩
      · have h2 := count_split (fun j => !listed.getD j false) (fun j => decide (j ≠ i)) (List.range ops.size)
        have h3 : 0 < (List.range ops.size).countP (fun j => (!listed.getD j false) && !decide (j ≠ i)) := by
          rw [List.countP_pos_iff]
          exact ⟨i, List.mem_range.2 hlt, by simp [hnl]⟩
        have h4 : (List.range ops.size).countP (fun j => !(listed.setIfInBounds i true).getD j false) = (List.range ops.size).countP (fun j => (!listed.getD j false) && decide (j ≠ i)) := by
          congr 1
          funext j
          rw [hget]
          by_cases hji : j = i <;> simp [hji]
        omega
      · have hdst := dst_of ho
        refine act_ext (by rw [put_defers, gets_defers, gets_defers]) (by rw [put_size, gets_size, gets_size]) (fun d => ?_)
        by_cases hd : o.dst = some d
        · rw [gets_at _ d i (hdst.trans hd) _ a0 (mem_sel.2 ⟨hlt, by rw [hget]; simp⟩) (fun k hk he => F.inj k i d (mem_sel.1 hk).1 hlt he (hdst.trans hd)), hd]
          simp only [Act.put, Array.getElem?_setIfInBounds, if_true, gets_size]
        · have hput : (Act.put (gets ops x a0 (selL ops.size listed)) o.dst v).tmps[d]? = (gets ops x a0 (selL ops.size listed)).tmps[d]? := by
            cases he : o.dst with
            | none => rfl
            | some t =>
              have hne : t ≠ d := fun h' => hd (by rw [he, h'])
              simp [Act.put, Array.getElem?_setIfInBounds_ne hne]
          rw [hput]
          by_cases hex : ∃ j, j ∈ selL ops.size listed ∧ dstOf ops j = some d
          · obtain ⟨j, hj, hjd⟩ := hex
            have hji : j ≠ i := fun e => hd (by rw [← hdst, ← e]; exact hjd)
            rw [gets_at x d j hjd _ a0 hj (fun k hk he => F.inj k j d (mem_sel.1 hk).1 (mem_sel.1 hj).1 he hjd), gets_at _ d j hjd _ a0 (mem_sel.2 ⟨(mem_sel.1 hj).1, by rw [hget, (mem_sel.1 hj).2]; simp⟩) (fun k hk he => F.inj k j d (mem_sel.1 hk).1 (mem_sel.1 hj).1 he hjd)]
            simp only [hji, if_false]
          · rw [gets_other x d _ a0 (fun j hj he => hex ⟨j, hj, he⟩), gets_other _ d _ a0 (fun j hj he => ?_)]
            have hj2 := (mem_sel.1 hj).2
            rw [hget] at hj2
            by_cases hji : j = i
            · subst hji; exact hd (by rw [← hdst]; exact he)
            · simp [hji] at hj2
              exact hex ⟨j, mem_sel.2 ⟨(mem_sel.1 hj).1, by simpa using hj2⟩, he⟩
      · intro j hj hlive
        rw [hget] at hj
        by_cases hji : j = i
        · subst hji; simpa using hvi
        · simp only [hji, decide_false, Bool.false_or] at hj
          simp only [hji, if_false]
          have hlive2 : ∀ k ∈ K j, listed.getD k false = false ∧ k ≠ i := fun k hk => by
            have h8 := hlive k hk
            rw [hget] at h8
            by_cases hki : k = i
            · simp [hki] at h8
            · simp only [hki, decide_false, Bool.false_or] at h8
              exact ⟨h8, hki⟩
          refine hmono j i ?_ hlt (fun e => hji e.symm) (fun hm => ?_) (fun hm => (hlive2 i hm).2 rfl) _ w w' hext (hv j hj (fun k hk => (hlive2 k hk).1))
          · rcases Nat.lt_or_ge j ops.size with h | h
            · exact h
            · simp [Array.getD_eq_getD_getElem?, Array.getElem?_eq_none (show listed.size ≤ j by omega)] at hj
          · have h5 := hdc j hj i hm
            rw [hnl] at h5; cases h5
      · intro j hj k hk
        rw [hget] at hj ⊢
        by_cases hji : j = i
        · subst hji; rw [hanc k hk]; simp
        · simp only [hji, decide_false, Bool.false_or] at hj
          rw [hdc j hj k hk]; simp
  have hd0 : (fun j => (Array.replicate ops.size false).getD j false) = (fun _ => false) := by
    funext j
    simp [Array.getD_eq_getD_getElem?, Array.getElem?_replicate]
    split <;> rfl
  refine key _ _ _ _ ?_ ⟨fun _ => undef, ?_, ?_, by rw [hd0]; exact h0 _, by simp, ?_⟩
  · exact Nat.le_trans (List.countP_le_length) (by simp)
  · have : selL ops.size (Array.replicate ops.size false) = [] := by
      unfold selL
      rw [List.filter_eq_nil_iff]
      intro i hi
      simp [Array.getD_eq_getD_getElem?, Array.getElem?_replicate]
      split <;> simp
    rw [this]; rfl
  · intro i hi; simp [Array.getD_eq_getD_getElem?, Array.getElem?_replicate] at hi; split at hi <;> simp at hi
  · intro i hi; simp [Array.getD_eq_getD_getElem?, Array.getElem?_replicate] at hi; split at hi <;> simp at hi
/-- what is done, and what is not yet, when an operation comes -/
def Before (L : Nat → Bool) (A : List Nat) (B : List Nat) : Prop := (∀ j ∈ A, L j = true) ∧ (∀ j ∈ B, L j = false)
def Steps3 (P : Program) (ops : Array Oper) (Inv : (Nat → Bool) → (Nat → Value) → World → Prop) (V : Nat → Value → World → Prop) (Ext : Nat → World → World → Prop) (D : List (Option Tmp)) (a0 : Act) : Nat → List (List Nat) → List (List Nat) → List (List Nat) → List Oper → Prop
  | k, A :: As, B :: Bs, N :: Ns, o :: l => (∀ x w L, Inv L x w → Before L A B → AllV V x w N → wpList P ops (StepPost (fun _ => True) (fun i v w' => Inv (setB L k) (setV x k v) w' ∧ V i v w') (Ext k) k (getsD D x a0 A) o.dst w) [o] (getsD D x a0 A) w) ∧ Steps3 P ops Inv V Ext D a0 (k + 1) As Bs Ns l
  | _, _, _, _, _ => True
theorem steps_at3 {Inv : (Nat → Bool) → (Nat → Value) → World → Prop} {V : Nat → Value → World → Prop} {Ext : Nat → World → World → Prop} {D : List (Option Tmp)} {a0 : Act} : ∀ {l : List Oper} {As Bs Ns : List (List Nat)} {k : Nat}, Steps3 P ops Inv V Ext D a0 k As Bs Ns l → ∀ (i : Nat) (o : Oper) (A B N : List Nat), l[i]? = some o → As[i]? = some A → Bs[i]? = some B → Ns[i]? = some N →
    ∀ x w L, Inv L x w → Before L A B → AllV V x w N → wpList P ops (StepPost (fun _ => True) (fun i' v w' => Inv (setB L (k + i)) (setV x (k + i) v) w' ∧ V i' v w') (Ext (k + i)) (k + i) (getsD D x a0 A) o.dst w) [o] (getsD D x a0 A) w
  | [], _, _, _, _, _, i, o, A, B, N, h, _, _, _ => by simp at h
  | _ :: _, [], _, _, _, _, i, o, A, B, N, _, h, _, _ => by simp at h
  | _ :: _, _ :: _, [], _, _, _, i, o, A, B, N, _, _, h, _ => by simp at h
  | _ :: _, _ :: _, _ :: _, [], _, _, i, o, A, B, N, _, _, _, h => by simp at h
  | o' :: l, A' :: As, B' :: Bs, N' :: Ns, k, hs, 0, o, A, B, N, h1, h2, h3, h4 => by
    simp at h1 h2 h3 h4
    subst h1 h2 h3 h4
    exact hs.1
  | o' :: l, A' :: As, B' :: Bs, N' :: Ns, k, hs, i + 1, o, A, B, N, h1, h2, h3, h4 => by
    simp at h1 h2 h3 h4
    have := steps_at3 hs.2 i o A B N h1 h2 h3 h4
    rw [show k + (i + 1) = k + 1 + i from by omega]
    exact this
def Steps4 (P : Program) (ops : Array Oper) (Inv : (Nat → Bool) → (Nat → Value) → World → Prop) (V : Nat → Value → World → Prop) (Ext : Nat → World → World → Prop) : Nat → List (List Nat) → List (List Nat) → List (List Nat) → List ((Nat → Value) → Act) → List Oper → Prop
  | k, A :: As, B :: Bs, N :: Ns, F :: Fs, o :: l => (∀ x w L, Inv L x w → Before L A B → AllV V x w N → wpList P ops (StepPost (fun _ => True) (fun i v w' => Inv (setB L k) (setV x k v) w' ∧ V i v w') (Ext k) k (F x) o.dst w) [o] (F x) w) ∧ Steps4 P ops Inv V Ext (k + 1) As Bs Ns Fs l
  | _, _, _, _, _, _ => True
theorem steps_of4 {Inv : (Nat → Bool) → (Nat → Value) → World → Prop} {V : Nat → Value → World → Prop} {Ext : Nat → World → World → Prop} {D : List (Option Tmp)} {a0 : Act} : ∀ {l : List Oper} {As Bs Ns : List (List Nat)} {Fs : List ((Nat → Value) → Act)} {k : Nat}, l.all noSel = true → FramesOk ops D a0 As Fs l → Steps4 P ops Inv V Ext k As Bs Ns Fs l → Steps3 P ops Inv V Ext D a0 k As Bs Ns l
  | [], As, Bs, Ns, Fs, k, _, _, _ => by cases As <;> cases Bs <;> cases Ns <;> trivial
  | o :: l, [], Bs, Ns, Fs, k, _, h, _ => by cases Fs <;> trivial
  | o :: l, A :: As, [], Ns, Fs, k, _, h, _ => by trivial
  | o :: l, A :: As, B :: Bs, [], Fs, k, _, h, _ => by trivial
  | o :: l, A :: As, B :: Bs, N :: Ns, [], k, _, h, _ => by cases h
  | o :: l, A :: As, B :: Bs, N :: Ns, F :: Fs, k, hn, hf, hs => by
    simp only [List.all_cons, Bool.and_eq_true] at hn
    refine ⟨fun x w L hI hL hV => ?_, steps_of4 hn.2 hf.2 hs.2⟩
    obtain ⟨h1, h2⟩ := hf.1 x
    refine step_same (noSel_ne hn.1) (F := F x) (fun d hd => ?_) (fun d hd => ?_) (hs.1 x w L hI hL hV)
    · rw [hd] at h2
      exact of_decide_eq_true h2
    · exact List.map_inj_left.1 h1 d hd
/-- what an operation is told of those ahead of it must stand then -/
def needsOk (n : Nat) (A K N : List (List Nat)) : Bool := (N.length == n) && (List.range n).all fun i => (N.getD i []).all fun j => (A.getD i []).contains j && (K.getD j []).all fun k => k == i || (A.getD k []).contains i
def descT (n : Nat) (A : List (List Nat)) : List (List Nat) := (List.range n).map fun i => (List.range n).filter fun j => j == i || (A.getD j []).contains i
/-- **A region that draws its order**, written out, at small frames; each operation turns memory as it says. -/
theorem region_lit3 {l : List Oper} {id : Nat} {Q : Exit → Act → World → Prop} {a0 : Act} {w0 : World} (hm : P.follows .mixedOrders = true) (hok : regionOk l.toArray = true) (hsel : l.all noSel = true) (A : List (List Nat)) (hA : ancT l.toArray = A) (D : List (Option Tmp)) (hD : (List.range l.toArray.size).map (dstOf l.toArray) = D)
    (B : List (List Nat)) (hB : descT l.length A = B) (K N : List (List Nat)) (hN : needsOk l.length A K N = true) (Inv : (Nat → Bool) → (Nat → Value) → World → Prop) (V : Nat → Value → World → Prop) (Ext : Nat → World → World → Prop) (Fs : List ((Nat → Value) → Act)) (hF : FramesOk l.toArray D a0 A Fs l)
    (hmono : ∀ i j, i < l.length → j < l.length → j ≠ i → j ∉ A.getD i [] → j ∉ K.getD i [] → ∀ v w w', Ext j w w' → V i v w → V i v w') (h0 : ∀ x, Inv (fun _ => false) x w0.drew) (hstep : Steps4 P l.toArray Inv V Ext 0 A B N Fs l)
    (E : List Nat) (hE : ((List.range l.length).filter fun i => (K.getD i []).isEmpty) = E) (hend : ∀ x w L, (∀ i, i < l.length → L i = true) → Inv L x w → AllV V x w E → Q .normal (getsD D x a0 (List.range l.length)) w) : (Code.region id l.toArray true).wp P Q a0 w0 := by
  have F := facts_of hok
  have hz : l.toArray.size = l.length := by simp
  have hst := steps_of4 (a0 := a0) hsel hF hstep
  have hancA : ∀ j, anc l.toArray j = A.getD j [] := fun j => by unfold anc; rw [hA]
  have hNn := hN
  simp only [needsOk, Bool.and_eq_true, beq_iff_eq, List.all_eq_true, List.mem_range, List.contains_iff_mem, Bool.or_eq_true] at hNn
  obtain ⟨hNl, hNa⟩ := hNn
  refine region_rule3 hm hok Inv V Ext (fun i => K.getD i []) (fun i => N.getD i []) (fun i j hj => ?_) (fun i j hi hj hne hna => ?_) h0 (fun i o ho x w L hI hL1 hL2 hV => ?_) (fun x w L hL hI hV => ?_)
  · by_cases hi : i < l.length
    · have h1 := hNa i hi j hj
      rw [hancA]
      exact ⟨h1.1, fun k hk => (h1.2 k hk).imp_right fun h => by rw [hancA]; exact h⟩
    · have hj2 : j ∈ N.getD i [] := hj
      simp only [List.getD, List.getElem?_eq_none (show N.length ≤ i by omega), Option.getD_none] at hj2
      cases hj2
  · refine hmono i j (by omega) (by omega) hne (fun h => hna ?_)
    rw [hancA]; exact h
  · have hil : i < l.toArray.size := (Array.getElem?_eq_some_iff.1 ho).1
    have hAl : A[i]? = some (anc l.toArray i) := by
      have hlen : ∀ (n : Nat) (f : List (List Nat) → Nat → List Nat), ((List.range n).foldl (fun T i => T ++ [f T i]) []).length = n := by
        intro n f
        induction n with
        | zero => rfl
        | succ n ihn => rw [List.range_succ, List.foldl_append]; simp [ihn]
      have h1 : A.length = l.toArray.size := by rw [← hA]; exact hlen _ _
      rw [List.getElem?_eq_getElem (by omega), hancA]
      simp only [List.getD, List.getElem?_eq_getElem (show i < A.length by omega), Option.getD_some]
    have hBl : B[i]? = some ((List.range l.length).filter fun j => j == i || (A.getD j []).contains i) := by
      rw [← hB]; unfold descT
      rw [List.getElem?_map, List.getElem?_range (by omega)]; rfl
    have hNl2 : N[i]? = some (N.getD i []) := by simp only [List.getD, List.getElem?_eq_getElem (show i < N.length by omega), Option.getD_some]
    have h2 := steps_at3 hst i o _ _ _ (by simpa using ho) hAl hBl hNl2 x w L hI ⟨hL1, fun j hj => ?_⟩ (allV_of hV)
    · rw [Nat.zero_add, getsD_eq x hD _ _ (anc_lt F i)] at h2
      exact h2
    · simp only [List.mem_filter, Bool.or_eq_true, beq_iff_eq, List.contains_iff_mem] at hj
      refine hL2 j ?_
      rw [hancA]
      exact hj.2
  · have h2 := hend x w L (by simpa using hL) hI (allV_of fun j hj => by
      rw [← hE, List.mem_filter, List.mem_range, List.isEmpty_iff] at hj
      exact hV j (by simpa using hj.1) hj.2)
    rw [getsD_eq x hD _ _ (fun j hj => by simpa using hj)] at h2
    rw [hz]
    exact h2
end
end Go.Proofs.YtkbfhgcjimfgkaaDoor
