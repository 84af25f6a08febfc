/- The walk of wherrykeep.picked. -/
import Derived.Test.YtkbfhgcjimfgkaaDoorRows
import Derived.Test.YtkbfhgcjimfgkaaDoorBase
import Derived.Lib.Hide
set_option linter.unusedVariables false
set_option linter.unusedSimpArgs false
namespace Go.Proofs.YtkbfhgcjimfgkaaDoor
open Go.RowKit

def pk (n m : Int) : Int := if n < 0 then (-(n + 1)) % m else n % m
theorem pk_range (n m : Int) (hm : 1 ≤ m) : 0 ≤ pk n m ∧ pk n m < m := by
  unfold pk
  split
  · exact ⟨Int.emod_nonneg _ (by omega), Int.emod_lt_of_pos _ (by omega)⟩
  · exact ⟨Int.emod_nonneg _ (by omega), Int.emod_lt_of_pos _ (by omega)⟩

set_option maxHeartbeats 400000 in
theorem picked_any (n m : Int) (w : World) (hn : I64 n) (hm : 1 ≤ m) (hm' : m ≤ 9223372036854775807) :
    Calls Tryd.prog 11 #[.int .i64 n, .int .i64 m] w fun e w' => e = .returned (.int .i64 (pk n m)) ∧ w = w' := by
  unfold I64 at hn
  by_cases h : n < 0
  · have h1 : 0 ≤ -(n+1) := by omega
    go_enter Tryd.func11, Tryd.ntmps11
    go_wp2
    go_ret
    refine ⟨?_, rfl⟩
    show Ending.returned (.int .i64 (-((n + 1).tmod m))) = _
    rw [pk, if_pos h, ← Int.neg_tmod, Int.tmod_eq_emod_of_nonneg h1]
  · go_enter Tryd.func11, Tryd.ntmps11
    go_wp2
    go_ret
    exact ⟨by rw [pk, if_neg (by omega)]; rfl, rfl⟩

end Go.Proofs.YtkbfhgcjimfgkaaDoor
