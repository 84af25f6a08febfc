/- append of nothing leaves a slice as it is; a link and its packets as the cable holds them. -/
import Derived.Test.YtkhacogeffidoaaDoorOwnM
set_option linter.unusedVariables false
set_option linter.unusedSimpArgs false
namespace Go.Proofs.YtkhacogeffidoaaDoor
open Go.RowKit

theorem run_append_zero {P : Program} {w : World} (t ty e : TypeId) (i : TypeInfo) (ht : P.underlying t = some (.slice e)) (hi : P.info? e = some i) (a : Option Addr) (n c : Nat) (hnc : n ≤ c) (hn : a = none → c = 0) (pa : Option Addr) (pc : Nat) :
    (Builtin.append_ #[t, t] ty #[.slice a n c, .slice pa 0 pc]).run P w = .ok (.slice a n c) w := by
  cases pa with
  | none =>
    cases a with
    | none =>
      have hc := hn rfl
      subst hc
      have hn0 : n = 0 := by omega
      subst hn0
      simp [Builtin.append_, run_underlying ht, sizeOf, typeInfo, hi, Builtin.lenOf, Builtin.firstCells]
    | some b =>
      simp [Builtin.append_, run_underlying ht, sizeOf, typeInfo, hi, Builtin.lenOf, Builtin.firstCells, hnc, storeCells]
  | some ad =>
    have hl : (loadCells ad 0).run P w = .ok #[] w := by simp [loadCells, loadCellsFrom]
    cases a with
    | none =>
      have hc := hn rfl
      subst hc
      have hn0 : n = 0 := by omega
      subst hn0
      simp [Builtin.append_, run_underlying ht, sizeOf, typeInfo, hi, Builtin.lenOf, Builtin.firstCells, hl, Result.andThen, storeCells]
    | some b =>
      simp [Builtin.append_, run_underlying ht, sizeOf, typeInfo, hi, Builtin.lenOf, Builtin.firstCells, hnc, storeCells, hl, Result.andThen]
theorem wpList_append_zero {P : Program} {w : World} {ops : Array Oper} {rest : List Oper} {o : Oper} {a : Act} {Q : Exit → Act → World → Prop} (hgd : o.guard = none) (s x : Operand) (t : TypeId)
    (ho : o.op = .call { callee := .builtin .append, args := #[s, x], argTypes := #[t, t] })
    (e : TypeId) (i : TypeInfo) (ht : P.underlying t = some (.slice e)) (hi : P.info? e = some i)
    (va : Option Addr) (n c : Nat) (hs : a.eval s = .slice va n c) (hnc : n ≤ c) (hn : va = none → c = 0) (pa : Option Addr) (pc : Nat) (hx : a.eval x = .slice pa 0 pc)
    (h : wpList P ops Q rest (a.put o.dst (.slice va n c)) w) : wpList P ops Q (o :: rest) a w := by
  refine wpList_plain hgd fun K hK' => ?_
  have hrun := run_append_zero (P := P) (w := w) t o.type e i ht hi va n c hnc hn pa pc
  unfold Oper.wp
  simp [execOp, ho, resolve, invoke, builtin, hs, hx, hrun, Result.andThen]
  exact hK' _ _ h
end Go.Proofs.YtkhacogeffidoaaDoor
