/- A region that draws its order, each operation walked at a small frame of its own. No program in sight. -/
import Derived.Test.YtkbfhgcjimfgkaaDoorRegion
set_option linter.unusedVariables false
set_option linter.unusedSimpArgs false
namespace Go.Proofs.YtkbfhgcjimfgkaaDoor
open Go.RowKit

/-- a frame's slots: so many that nobody looks at, one, and others -/
def fEm (k : Nat) : List Value := List.replicate k undef
def fZm (k : Nat) (v : Value) (l : List Value) : List Value := List.replicate k undef ++ v :: l
/-- letters for what the walk's simp shall not open -/
theorem toI {I J : (Nat → Bool) → (Nat → Value) → World → Prop} (h : Hid (I = J)) {L : Nat → Bool} {y : Nat → Value} {W : World} (x : J L y W) : I L y W := by rw [h.out]; exact x
theorem ofI {I J : (Nat → Bool) → (Nat → Value) → World → Prop} (h : Hid (I = J)) {L : Nat → Bool} {y : Nat → Value} {W : World} (x : I L y W) : J L y W := by rw [← h.out]; exact x
theorem toV {V U : Nat → Value → World → Prop} (h : Hid (V = U)) {i : Nat} {v : Value} {W : World} (x : U i v W) : V i v W := by rw [h.out]; exact x
theorem ofV {V U : Nat → Value → World → Prop} (h : Hid (V = U)) {i : Nat} {v : Value} {W : World} (x : V i v W) : U i v W := by rw [← h.out]; exact x

/-- one more is done; one more value is there -/
def setB (L : Nat → Bool) (k : Nat) : Nat → Bool := fun j => if j = k then true else L j
def setV (x : Nat → Value) (k : Nat) (v : Value) : Nat → Value := fun j => if j = k then v else x j
theorem step3_done {I : (Nat → Bool) → (Nat → Value) → World → Prop} {V : Nat → Value → World → Prop} {Ext : World → World → Prop} {i k : Nat} {aD a' : Act} {d : Option Tmp} {w w' : World} {v : Value} {L : Nat → Bool} {x : Nat → Value} (he : a' = aD.put d v)
    (h1 : I (setB L k) (setV x k v) w') (h2 : Ext w w') (h3 : V i v w') :
    StepPost (fun _ => True) (fun i v w' => I (setB L k) (setV x k v) w' ∧ V i v w') Ext i aD d w .normal a' w' := ⟨rfl, v, he, trivial, h2, h1, h3⟩

section
variable {P : Program} {ops : Array Oper}

/-- a frame that shows an operation what it looks at serves as well -/
theorem step_same {Inv : World → Prop} {V : Nat → Value → World → Prop} {Ext : World → World → Prop} {i : Nat} {o : Oper} (hs : ∀ cs b, o.op ≠ .select cs b) {a F : Act} {w : World} (hz : ∀ d, o.dst = some d → d < F.tmps.size)
    (h : ∀ d ∈ o.looksAt ops, a.tmps[d]? = F.tmps[d]?) (hstep : wpList P ops (StepPost Inv V Ext i F o.dst w) [o] F w) : wpList P ops (StepPost Inv V Ext i a o.dst w) [o] a w := by
  have key : ∀ v w', (∃ u, F.put o.dst v = F.put o.dst u ∧ Inv w' ∧ Ext w w' ∧ V i u w') → StepPost Inv V Ext i a o.dst w .normal (a.put o.dst v) w' := by
    rintro v w' ⟨u, he, h1, h2, h3⟩
    refine ⟨rfl, u, ?_, h1, h2, h3⟩
    cases hd : o.dst with
    | none => rfl
    | some d =>
      rw [hd] at he
      have hlt := hz d hd
      have h4 := congrArg (fun c => c.tmps[d]?) he
      simp [Act.put, hlt] at h4
      rw [h4]
  unfold wpList at hstep ⊢
  rw [wanted_same h]
  by_cases hw : Region.wanted o (yielded ops F.tmps) = true
  · simp only [hw, if_true] at hstep ⊢
    rcases hstep with hstep | ⟨_, a', w', hl⟩
    · refine .inl ?_
      unfold Oper.wp at hstep ⊢
      rw [execOp_congr o hs (eval_same h)]
      generalize (execOp F.eval o).run P w = r at *
      cases r with
      | ok n w' =>
        cases n <;> simp only [Oper.upon, wpList] at hstep ⊢
        case value v => obtain ⟨_, u, h1, h2⟩ := hstep; exact key v w' ⟨u, h1, h2⟩
        case skip => obtain ⟨_, u, h1, h2⟩ := hstep; exact key undef w' ⟨u, h1, h2⟩
        case defer d =>
          obtain ⟨_, v, he, _⟩ := hstep
          have h1 := congrArg Act.defers he
          rw [put_defers, put_defers] at h1
          exact absurd h1 (by simp)
        case enter f args =>
          refine Calls.mono hstep fun e w'' he => ?_
          cases e with
          | returned v => obtain ⟨_, u, h1, h2⟩ := he; exact key v w'' ⟨u, h1, h2⟩
          | panicked c => exact absurd he.1 (by simp)
          | outgrown => obtain ⟨a', w', he, _⟩ := he; exact absurd he (by simp)
        case row row args => exact Rows.mono hstep fun v w'' he => by obtain ⟨_, u, h1, h2⟩ := he; exact key v w'' ⟨u, h1, h2⟩
      | halt x w' =>
        cases x <;> simp only [Oper.upon] at hstep ⊢
        case panic u => exact absurd hstep.1 (by simp)
    · exact absurd hl.1 (by simp)
  · simp only [hw] at hstep ⊢
    simp only [wpList] at hstep ⊢
    obtain ⟨_, u, h1, h2⟩ := hstep
    exact key undef w ⟨u, h1, h2⟩

/-- each frame shows its operation what it looks at -/
def FramesOk (ops : Array Oper) (D : List (Option Tmp)) (a0 : Act) : List (List Nat) → List ((Nat → Value) → Act) → List Oper → Prop
  | L :: A, F :: Fs, o :: l => (∀ x : Nat → Value, (o.looksAt ops).map (fun d => (getsD D x a0 L).tmps[d]?) = (o.looksAt ops).map (fun d => (F x).tmps[d]?) ∧ (match o.dst with | some d => decide (d < (F x).tmps.size) | none => true) = true) ∧ FramesOk ops D a0 A Fs l
  | _, _, [] => True
  | _, _, _ => False
def Steps2 (P : Program) (ops : Array Oper) (Inv : World → Prop) (V : Nat → Value → World → Prop) (Ext : World → World → Prop) : Nat → List (List Nat) → List ((Nat → Value) → Act) → List Oper → Prop
  | k, L :: A, F :: Fs, o :: l => (∀ x w, Inv w → AllV V x w L → wpList P ops (StepPost Inv V Ext k (F x) o.dst w) [o] (F x) w) ∧ Steps2 P ops Inv V Ext (k + 1) A Fs l
  | _, _, _, _ => True
def noSel (o : Oper) : Bool := match o.op with | .select _ _ => false | _ => true
theorem noSel_ne {o : Oper} (h : noSel o = true) : ∀ cs b, o.op ≠ .select cs b := by
  intro cs b he
  unfold noSel at h
  rw [he] at h; cases h
theorem steps_of {Inv : World → Prop} {V : Nat → Value → World → Prop} {Ext : World → World → Prop} {D : List (Option Tmp)} {a0 : Act} : ∀ {l : List Oper} {A : List (List Nat)} {Fs : List ((Nat → Value) → Act)} {k : Nat}, l.all noSel = true → FramesOk ops D a0 A Fs l → Steps2 P ops Inv V Ext k A Fs l → Steps P ops Inv V Ext D a0 k A l
  | [], A, Fs, k, _, _, _ => by cases A <;> trivial
  | o :: l, [], Fs, k, _, h, _ => by cases Fs <;> trivial
  | o :: l, L :: A, [], k, _, h, _ => by cases h
  | o :: l, L :: A, F :: Fs, k, hn, hf, hs => by
    simp only [List.all_cons, Bool.and_eq_true] at hn
    refine ⟨fun x w hI hV => ?_, steps_of hn.2 hf.2 hs.2⟩
    obtain ⟨h1, h2⟩ := hf.1 x
    refine step_same (noSel_ne hn.1) (F := F x) (fun d hd => ?_) (fun d hd => ?_) (hs.1 x w hI hV)
    · rw [hd] at h2
      exact of_decide_eq_true h2
    · exact List.map_inj_left.1 h1 d hd

/-- **A region that draws its order**, written out, at small frames: one goal an operation, and the end. -/
theorem region_lit2 {l : List Oper} {id : Nat} {Q : Exit → Act → World → Prop} {a0 : Act} {w0 : World} (hm : P.follows .mixedOrders = true) (hok : regionOk l.toArray = true) (hsel : l.all noSel = true) (A : List (List Nat)) (hA : ancT l.toArray = A) (D : List (Option Tmp)) (hD : (List.range l.toArray.size).map (dstOf l.toArray) = D)
    (last : List Bool) (hlast : (List.range l.toArray.size).map (lastOp l.toArray) = last)
    (Inv : World → Prop) (V : Nat → Value → World → Prop) (Ext : World → World → Prop) (Fs : List ((Nat → Value) → Act)) (hF : FramesOk l.toArray D a0 A Fs l)
    (hmono : ∀ i, last.getD i true = false → ∀ v w w', Ext w w' → V i v w → V i v w') (h0 : Inv w0.drew) (hstep : Steps2 P l.toArray Inv V Ext 0 A Fs l)
    (hend : ∀ x w, Inv w → AllV V x w (List.range l.length) → Q .normal (getsD D x a0 (List.range l.length)) w) : (Code.region id l.toArray true).wp P Q a0 w0 :=
  region_lit hm hok A hA D hD last hlast Inv V Ext hmono h0 (steps_of hsel hF hstep) hend
end
end Go.Proofs.YtkbfhgcjimfgkaaDoor
