/- What a copy of an operation is; parts as cells. No condition. -/
import Derived.Test.YtkbfhgcjimfgkaaDoorAppLaw
import Derived.Deep.AppendLies
import Derived.WalkSpells
import Derived.Lib.SliceRun
set_option linter.unusedVariables false
set_option linter.unusedSimpArgs false
namespace Go.Proofs.YtkbfhgcjimfgkaaDoor
open Go.RowKit

theorem flat_get (l : Op) (j : Nat) (u : Value) (h : (flat l)[j]? = some u) : ∃ p, l[j / 3]? = some p ∧ (partCells p)[j % 3]? = some u := by
  have hlt := (List.getElem?_eq_some_iff.1 h).1
  rw [flat_len] at hlt
  have hi : j / 3 < l.length := by omega
  refine ⟨l[j / 3], List.getElem?_eq_getElem hi, ?_⟩
  obtain ⟨h1, h2, h3⟩ := flat_at l (j / 3) _ (List.getElem?_eq_getElem hi)
  have hj : j = j / 3 * 3 + j % 3 := by omega
  have hr : j % 3 < 3 := Nat.mod_lt _ (by decide)
  generalize j % 3 = r at *
  generalize j / 3 = i at *
  subst hj
  match r, hr with
  | 0, _ => rw [Nat.add_zero, h1] at h; simpa [partCells] using h
  | 1, _ => rw [h2] at h; simpa [partCells] using h
  | 2, _ => rw [h3] at h; simpa [partCells] using h
/-- the cells of an operation that lies in memory -/
theorem RdS.news {A : Nat → Prop} {w : World} {l : Op} {b off n c : Nat} (hr : RdS A w l (some ⟨b, off, none⟩) n c) (hn : 0 < n) : ∀ j u, (flat l)[j]? = some u → w.cell? ((⟨b, off, none⟩ : Addr).add j) = some u := by
  intro j u hu
  obtain ⟨b', off', e, _, _, he⟩ := hr.2.2.2.2 hn
  injection e with e
  injection e with e1 e2
  subst e1 e2
  obtain ⟨p, hp, hq⟩ := flat_get l j u hu
  obtain ⟨xs, ⟨rfl, _⟩, h4⟩ := he (j / 3) p hp
  have h5 := h4 (j % 3) u hq
  have ea : (⟨b, off, none⟩ : Addr).add j = ⟨b, off + j, none⟩ := by
    unfold Addr.add
    split
    · rename_i h0; rw [h0]; rfl
    · rfl
  rw [ea]
  simp only [Rep.n] at h5
  rw [show off + j = off + j / 3 * 3 + j % 3 from by omega]
  exact h5
/-- parts fit their cells -/
def Fits (l : Op) : Prop := ∀ p ∈ l, I64 p.kind ∧ I64 p.n ∧ p.text.size ≤ strMax
theorem RdS.fits {A : Nat → Prop} {w : World} {l : Op} {a : Option Addr} {n c : Nat} (hr : RdS A w l a n c) : Fits l := by
  intro p hp
  have hn : 0 < n := by have := hr.1; have := List.length_pos_of_mem hp; omega
  obtain ⟨b, off, _, _, _, hc⟩ := hr.part hn
  obtain ⟨i, hi, rfl⟩ := List.getElem_of_mem hp
  obtain ⟨h1, h2, h3, _⟩ := hc i hi
  exact ⟨h1, h2, h3⟩
theorem RdS.of_own {w : World} {base : Nat} {l : Op} {v : Value} (h : w.ownsRow base 53 3 v l.length (flat l)) (hp : Fits l) : ∃ a c, v = .slice a l.length c ∧ RdS (fun b => base ≤ b ∧ b < w.heap.size) w l a l.length c := by
  obtain ⟨a, n, c, hv, hr⟩ := RdS.of_row (α := Part) (A := fun b => base ≤ b ∧ b < w.heap.size) h (fun b hb => h.lt b hb) (fun i x hx => ⟨partCells x, ⟨rfl, hp x (List.mem_of_getElem? hx)⟩, fun j u hu => by
    obtain ⟨h1, h2, h3⟩ := flat_at l i x hx
    simp only [Rep.n]
    match j, hu with
    | 0, hu => simp [partCells] at hu; rw [← hu]; exact h1
    | 1, hu => simp [partCells] at hu; rw [← hu]; exact h2
    | 2, hu => simp [partCells] at hu; rw [← hu]; exact h3⟩)
  have hn := hr.1
  subst hn
  exact ⟨a, c, hv, hr⟩
theorem RdS.nil' {α : Type} [Rep α] (A : Nat → Prop) (w : World) (a : Option Addr) (c : Nat) (hc : c ≤ maxLen) (ha : a = none → c = 0) : RdS (α := α) A w [] a 0 c := ⟨rfl, Nat.zero_le _, hc, ha, fun h => absurd h (by omega)⟩
/-- nothing is appended to nothing -/
theorem run_append_empty {P : Program} {w : World} (t ty e : TypeId) (i : TypeInfo) (ht : P.underlying t = some (.slice e)) (hi : P.info? e = some i) (a ax : Option Addr) (c cx : Nat) :
    (Builtin.append_ #[t, t] ty #[.slice a 0 c, .slice ax 0 cx]).run P w = .ok (.slice a 0 c) w := by
  cases a <;> cases ax <;> simp [Builtin.append_, run_underlying ht, sizeOf, typeInfo, hi, Builtin.lenOf, Builtin.firstCells, storeCells, loadCells, loadCellsFrom]
theorem wpList_append_empty {P : Program} {w : World} {ops : Array Oper} {rest : List Oper} {o : Oper} {a : Act} {Q : Exit → Act → World → Prop} (hgd : o.guard = none) (s x : Operand) (t : TypeId)
    (ho : o.op = .call { callee := .builtin .append, args := #[s, x], argTypes := #[t, t] }) (e : TypeId) (i : TypeInfo) (ht : P.underlying t = some (.slice e)) (hi : P.info? e = some i)
    (b : Option Addr) (c : Nat) (hs : a.eval s = .slice b 0 c) (ax : Option Addr) (cx : Nat) (hx : a.eval x = .slice ax 0 cx) (h : wpList P ops Q rest (a.put o.dst (.slice b 0 c)) w) : wpList P ops Q (o :: rest) a w := by
  refine wpList_plain hgd fun K hK => ?_
  have hrun := run_append_empty (P := P) (w := w) t o.type e i ht hi b ax c cx
  unfold Oper.wp
  simp [execOp, ho, resolve, invoke, builtin, hs, hx, hrun, Result.andThen]
  exact hK _ _ h
/-- what a copy is: the same operation, in a row of the call's own -/
def CopyPost (w : World) (o : Op) (e : Ending) (w' : World) : Prop :=
  ∃ a c, e = .returned (.slice a o.length c) ∧ RdS (fun b => w.heap.size ≤ b ∧ b < w'.heap.size) w' o a o.length c ∧ Below w.heap.size w w'

end Go.Proofs.YtkbfhgcjimfgkaaDoor
