/- The walks of text.copied and of slices.Clone at operations: parts in memory of their own. -/
import Derived.Test.YtndclmjpjcilmaaDoorAppLaw
import Derived.Deep.AppendLies
import Derived.WalkSpells
import Derived.Lib.SliceRun
set_option linter.unusedSimpArgs false
namespace Go.Proofs.YtndclmjpjcilmaaDoor
open Go.RowKit

theorem flat_get (l : Op) (j : Nat) (u : Value) (h : (flat l)[j]? = some u) : ∃ p, l[j / 3]? = some p ∧ (partCells p)[j % 3]? = some u := by
  have hlt := (List.getElem?_eq_some_iff.1 h).1
  rw [flat_len] at hlt
  have hi : j / 3 < l.length := by omega
  refine ⟨l[j / 3], List.getElem?_eq_getElem hi, ?_⟩
  obtain ⟨h1, h2, h3⟩ := flat_at l (j / 3) _ (List.getElem?_eq_getElem hi)
  have hj : j = j / 3 * 3 + j % 3 := by omega
  have hr : j % 3 < 3 := Nat.mod_lt _ (by decide)
  generalize j % 3 = r at *
  generalize j / 3 = i at *
  subst hj
  match r, hr with
  | 0, _ => rw [Nat.add_zero, h1] at h; simpa [partCells] using h
  | 1, _ => rw [h2] at h; simpa [partCells] using h
  | 2, _ => rw [h3] at h; simpa [partCells] using h
/-- the cells of an operation that lies in memory -/
theorem RdS.news {A : Nat → Prop} {w : World} {l : Op} {b off n c : Nat} (hr : RdS A w l (some ⟨b, off, none⟩) n c) (hn : 0 < n) : ∀ j u, (flat l)[j]? = some u → w.cell? ((⟨b, off, none⟩ : Addr).add j) = some u := by
  intro j u hu
  obtain ⟨b', off', e, _, _, he⟩ := hr.2.2.2.2 hn
  injection e with e
  injection e with e1 e2
  subst e1 e2
  obtain ⟨p, hp, hq⟩ := flat_get l j u hu
  obtain ⟨xs, ⟨rfl, _⟩, h4⟩ := he (j / 3) p hp
  have h5 := h4 (j % 3) u hq
  have ea : (⟨b, off, none⟩ : Addr).add j = ⟨b, off + j, none⟩ := by
    unfold Addr.add
    split
    · rename_i h0; rw [h0]; rfl
    · rfl
  rw [ea]
  simp only [Rep.n] at h5
  rw [show off + j = off + j / 3 * 3 + j % 3 from by omega]
  exact h5
/-- parts fit their cells -/
def Fits (l : Op) : Prop := ∀ p ∈ l, I64 p.kind ∧ I64 p.n ∧ p.text.size ≤ strMax
theorem RdS.fits {A : Nat → Prop} {w : World} {l : Op} {a : Option Addr} {n c : Nat} (hr : RdS A w l a n c) : Fits l := by
  intro p hp
  have hn : 0 < n := by have := hr.1; have := List.length_pos_of_mem hp; omega
  obtain ⟨b, off, _, _, _, hc⟩ := hr.part hn
  obtain ⟨i, hi, rfl⟩ := List.getElem_of_mem hp
  obtain ⟨h1, h2, h3, _⟩ := hc i hi
  exact ⟨h1, h2, h3⟩
theorem RdS.of_own {w : World} {base : Nat} {l : Op} {v : Value} (h : w.ownsRow base 28 3 v l.length (flat l)) (hp : Fits l) : ∃ a c, v = .slice a l.length c ∧ RdS (fun b => base ≤ b ∧ b < w.heap.size) w l a l.length c := by
  obtain ⟨a, n, c, hv, hr⟩ := RdS.of_row (α := Part) (A := fun b => base ≤ b ∧ b < w.heap.size) h (fun b hb => h.lt b hb) (fun i x hx => ⟨partCells x, ⟨rfl, hp x (List.mem_of_getElem? hx)⟩, fun j u hu => by
    obtain ⟨h1, h2, h3⟩ := flat_at l i x hx
    simp only [Rep.n]
    match j, hu with
    | 0, hu => simp [partCells] at hu; rw [← hu]; exact h1
    | 1, hu => simp [partCells] at hu; rw [← hu]; exact h2
    | 2, hu => simp [partCells] at hu; rw [← hu]; exact h3⟩)
  have hn := hr.1
  subst hn
  exact ⟨a, c, hv, hr⟩
theorem RdS.nil' {α : Type} [Rep α] (A : Nat → Prop) (w : World) (a : Option Addr) (c : Nat) (hc : c ≤ maxLen) (ha : a = none → c = 0) : RdS (α := α) A w [] a 0 c := ⟨rfl, Nat.zero_le _, hc, ha, fun h => absurd h (by omega)⟩
/-- nothing is appended to nothing -/
theorem run_append_empty {P : Program} {w : World} (t ty e : TypeId) (i : TypeInfo) (ht : P.underlying t = some (.slice e)) (hi : P.info? e = some i) (a ax : Option Addr) (c cx : Nat) :
    (Builtin.append_ #[t, t] ty #[.slice a 0 c, .slice ax 0 cx]).run P w = .ok (.slice a 0 c) w := by
  cases a <;> cases ax <;> simp [Builtin.append_, run_underlying ht, sizeOf, typeInfo, hi, Builtin.lenOf, Builtin.firstCells, storeCells, loadCells, loadCellsFrom]
theorem wpList_append_empty {P : Program} {w : World} {ops : Array Oper} {rest : List Oper} {o : Oper} {a : Act} {Q : Exit → Act → World → Prop} (hgd : o.guard = none) (s x : Operand) (t : TypeId)
    (ho : o.op = .call { callee := .builtin .append, args := #[s, x], argTypes := #[t, t] }) (e : TypeId) (i : TypeInfo) (ht : P.underlying t = some (.slice e)) (hi : P.info? e = some i)
    (b : Option Addr) (c : Nat) (hs : a.eval s = .slice b 0 c) (ax : Option Addr) (cx : Nat) (hx : a.eval x = .slice ax 0 cx) (h : wpList P ops Q rest (a.put o.dst (.slice b 0 c)) w) : wpList P ops Q (o :: rest) a w := by
  refine wpList_plain hgd fun K hK => ?_
  have hrun := run_append_empty (P := P) (w := w) t o.type e i ht hi b ax c cx
  unfold Oper.wp
  simp [execOp, ho, resolve, invoke, builtin, hs, hx, hrun, Result.andThen]
  exact hK _ _ h
/-- what a copy is: the same operation, in a row of the call's own -/
def CopyPost (w : World) (o : Op) (e : Ending) (w' : World) : Prop :=
  ∃ a c, e = .returned (.slice a o.length c) ∧ RdS (fun b => w.heap.size ≤ b ∧ b < w'.heap.size) w' o a o.length c ∧ Below w.heap.size w w'

set_option maxRecDepth 100000 in
set_option maxHeartbeats 1000000 in
theorem copied_any (o : Op) (a : Option Addr) (n c : Nat) (w : World) (hr : RdS (· < w.heap.size) w o a n c) (hn : n ≤ 1000000000) :
    Calls Tryd.prog 49 #[.slice a n c] w (CopyPost w o) := by
  obtain ⟨i0, hi, hz0, hz1, hz2⟩ := info_parts infoP
  have hnl := hr.1
  have hfit := hr.fits
  by_cases h0 : n = 0
  · have ho : o = [] := List.eq_nil_of_length_eq_zero (by omega)
    subst ho h0
    have Hfin : Hid (CopyPost w [] (.returned (.slice none 0 0)) w) := ⟨none, 0, rfl, RdS.nil' _ _ _ _ (by unfold maxLen; omega) (fun _ => rfl), Below.refl _ _⟩
    clear hr hfit hnl
    go_enter Tryd.func49, Tryd.ntmps49
    go_wp2_with (at_builtin; refine wpList_append_empty rfl _ _ _ (by rfl) 28 i0 Tryd.underlying30 hi none 0 (by rfl) a c (by rfl) ?_)
    go_ret
    exact Hfin.out
  · obtain ⟨b, off, rfl, _, hbs, _⟩ := hr.part (by omega)
    have hnews := hr.news (by omega)
    have Hfit := Lib.hid hfit
    have Hnews := Lib.hid hnews
    have Hnl := Lib.hid hnl
    have hfl : (flat o).length = n * 3 := by rw [flat_len]; omega
    have Hfl := Lib.hid hfl
    clear hr hfit hnews hnl hfl
    go_enter Tryd.func49, Tryd.ntmps49
    go_wp2_with (at_builtin; refine wpList_append_lies _ rfl _ _ _ (by rfl) w.heap.size 28 i0 _ 3 32 Tryd.underlying30 hi hz0 hz1 hz2 rfl (by omega) (.slice none 0 0) 0 [] (by rfl) (World.ownsRow_nil _ _ _ _) ⟨b, off, none⟩ n c (flat o) (by rfl) Hfl.out Hnews.out (flat_one' o) (by omega) (by unfold maxLen; omega) (by omega) (by omega) w.heap.size rfl ?_)
    intro gg cap w1 hown1 hgrow hat hlt1
    have Hfin : Hid (CopyPost w o (.returned (.slice (some ⟨gg, 0, none⟩) n cap)) w1) := by
      have hnl := Hnl.out
      rw [hnl] at hown1
      obtain ⟨a2, c2, hv, hr2⟩ := RdS.of_own hown1 Hfit.out
      injection hv with h1 h2 h3
      subst h1 h3
      refine ⟨_, _, by rw [hnl], hr2, ?_⟩
      exact (Below.refl _ _).grown hgrow (Nat.le_refl _) (fun g hg => by cases hg)
    clear hown1 hgrow hat
    go_wp2_with fail
    go_ret
    exact Hfin.out
set_option maxRecDepth 100000 in
set_option maxHeartbeats 1000000 in
theorem clone_any (o : Op) (a : Option Addr) (n c : Nat) (w : World) (hr : RdS (· < w.heap.size) w o a n c) (hn : n ≤ 1000000000) :
    Calls Tryd.prog 45 #[.slice a n c] w (CopyPost w o) := by
  obtain ⟨i0, hi, hz0, hz1, hz2⟩ := info_parts infoP
  have hnl := hr.1
  have hfit := hr.fits
  by_cases h0 : n = 0
  · have ho : o = [] := List.eq_nil_of_length_eq_zero (by omega)
    subst ho h0
    have hca := hr.2.2.2.1
    clear hr hfit hnl
    cases a with
    | none =>
      have Hfin : Hid (CopyPost w [] (.returned (.slice none 0 0)) w) := ⟨none, 0, rfl, RdS.nil' _ _ _ _ (by unfold maxLen; omega) (fun _ => rfl), Below.refl _ _⟩
      have hc0 : c = 0 := hca rfl
      subst hc0
      clear hca
      have heq := fun W : World => Lib.run_eql_slice_nil (P := Tryd.prog) W 30 28 none 0 0 0 0 Tryd.underlying30
      go_enter Tryd.func45, Tryd.ntmps45
      go_wp2_with fail
      go_ret
      exact Hfin.out
    | some ad =>
      clear hca
      have Hfin : Hid (CopyPost w [] (.returned (.slice (some ⟨w.heap.size, 0, none⟩) 0 0)) (w.alloc (.cells #[] 28))) := ⟨some ⟨w.heap.size, 0, none⟩, 0, rfl, RdS.nil' _ _ _ _ (by unfold maxLen; omega) (fun h => by cases h), (Below.refl _ _).alloc (Nat.le_refl _) _⟩
      have heq := fun W : World => Lib.run_eql_slice_nil (P := Tryd.prog) W 30 28 (some ad) 0 c 0 0 Tryd.underlying30
      go_enter Tryd.func45, Tryd.ntmps45
      go_wp2_with (at_builtin; refine wpList_append_empty rfl _ _ _ (by rfl) 28 i0 Tryd.underlying30 hi (some ⟨w.heap.size, 0, none⟩) 0 (by rfl) (some ad) c (by rfl) ?_)
      go_ret
      exact Hfin.out
  · obtain ⟨b, off, rfl, _, hbs, _⟩ := hr.part (by omega)
    have hnews := hr.news (by omega)
    have Hfit := Lib.hid hfit
    have Hnews := Lib.hid (p := ∀ W : World, Below w.heap.size w W → ∀ j u, (flat o)[j]? = some u → W.cell? ((⟨b, off, none⟩ : Addr).add j) = some u) (fun W hW j u hu => (hW.cell (p := (⟨b, off, none⟩ : Addr).add j) (by unfold Addr.add; split <;> exact hbs)).trans (hnews j u hu))
    have Hnl := Lib.hid hnl
    have hfl : (flat o).length = n * 3 := by rw [flat_len]; omega
    have Hfl := Lib.hid hfl
    have Hown : Hid ((w.alloc (.cells #[] 28)).ownsRow w.heap.size 28 3 (.slice (some ⟨w.heap.size, 0, none⟩) 0 0) 0 []) := ⟨rfl, .inr ⟨w.heap.size, 0, #[], rfl, Nat.le_refl _, heap_alloc_new w _, Nat.le_refl _, by unfold maxLen; omega, rfl, rfl⟩⟩
    clear hr hfit hnews hnl hfl
    have heq := fun W : World => Lib.run_eql_slice_nil (P := Tryd.prog) W 30 28 (some ⟨b, off, none⟩) n c 0 0 Tryd.underlying30
    go_enter Tryd.func45, Tryd.ntmps45
    go_wp2_with (at_builtin; refine wpList_append_lies _ rfl _ _ _ (by rfl) w.heap.size 28 i0 _ 3 32 Tryd.underlying30 hi hz0 hz1 hz2 rfl (by omega) (.slice (some ⟨w.heap.size, 0, none⟩) 0 0) 0 [] (by rfl) Hown.out ⟨b, off, none⟩ n c (flat o) (by rfl) Hfl.out (Hnews.out _ ((Below.refl _ _).alloc (Nat.le_refl _) _)) (flat_one' o) (by omega) (by unfold maxLen; omega) (by omega) (by simp) (w.heap.size + 1) (by simp) ?_)
    intro gg cap w1 hown1 hgrow hat hlt1
    have Hfin : Hid (CopyPost w o (.returned (.slice (some ⟨gg, 0, none⟩) n cap)) w1) := by
      have hnl := Hnl.out
      try rw [Nat.zero_add] at hown1
      try rw [List.nil_append] at hown1
      rw [hnl] at hown1
      obtain ⟨a2, c2, hv, hr2⟩ := RdS.of_own hown1 Hfit.out
      injection hv with h1 h2 h3
      subst h1 h3
      refine ⟨_, _, by rw [hnl], hr2, ?_⟩
      exact ((Below.refl _ _).alloc (Nat.le_refl _) _).grown hgrow (by simp) (fun g hg => by simp [Value.ownBlock] at hg; omega)
    clear hown1 hgrow hat
    go_wp2_with fail
    go_ret
    exact Hfin.out
end Go.Proofs.YtndclmjpjcilmaaDoor
