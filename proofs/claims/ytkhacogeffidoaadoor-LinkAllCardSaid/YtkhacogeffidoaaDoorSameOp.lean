/- The walk of sameOp, at two that read alike. -/
import Derived.Test.YtkhacogeffidoaaDoorSubP
import Derived.BigQuiet
set_option linter.unusedVariables false
set_option linter.unusedSimpArgs false
namespace Go.Proofs.YtkhacogeffidoaaDoor
open Go.RowKit

set_option maxRecDepth 100000 in
set_option maxHeartbeats 2000000 in
theorem sameOp_ok (o : Op) (a b : Option Addr) (n c m d : Nat) (w : World) (h1 : RdS (· < w.heap.size) w o a n c) (h2 : RdS (· < w.heap.size) w o b m d) :
    Calls Tryd.prog 33 #[.slice a n c, .slice b m d] w fun e w' => e = .returned (.bool true) ∧ Below w.heap.size w w' := by
  obtain rfl : n = m := h1.1.trans h2.1.symm
  have hnl : n = o.length := h1.1
  have hnm : n ≤ maxLen := by have h3 := h1.2.1; have h4 := h1.2.2.1; omega
  unfold maxLen at hnm
  have hne : ((n : Int) != (n : Int)) = false := by simp
  have H1 := Lib.hid h1
  have H2 := Lib.hid h2
  have Hl := Lib.hid hnl
  clear h1 h2 hnl
  go_enter Tryd.func33, Tryd.ntmps33
  go_wp2_with fail
  go_loopw [13] (fun i wr => ∃ k : Nat, k ≤ n ∧ i = .int .i64 k ∧ Below w.heap.size w wr) (fun i _ => n - (intOf i).toNat)
  case atStart => exact ⟨0, by omega, rfl, Below.refl _ _⟩
  case round =>
    obtain ⟨k, hk, rfl, hb⟩ := hrel
    by_cases hlt : k < n
    · have r1 := H1.out.go hb
      have r2 := H2.out.go hb
      obtain ⟨b1, off1, rfl, _, hbs1, hcs1⟩ := r1.part (by omega)
      obtain ⟨b2, off2, rfl, _, hbs2, hcs2⟩ := r2.part (by omega)
      have hkl : k < o.length := by have := Hl.out; omega
      obtain ⟨hk64, hn64, ht, c0, c1, c2⟩ := hcs1 k hkl
      obtain ⟨-, -, -, d0, d1, d2⟩ := hcs2 k hkl
      generalize o[k] = p at *
      obtain ⟨pk, pn, pt⟩ := p
      simp only at c0 c1 c2 d0 d1 d2 hk64 hn64 ht
      have HB := Lib.hid hb
      clear r1 r2 hcs1 hcs2 hb hkl
      have hkn : (k : Int) < (n : Int) := by omega
      go_wp2_with fail
      go_quiet (fail)
      go_wp2_with fail
      go_roundw
      case rel => exact ⟨k + 1, by omega, by go_num, by first | exact HB.out | exact HB.out.drew | exact below_drewN HB.out _⟩
      case measure => simp [intOf]; omega
    · have hkn : k = n := by omega
      subst hkn
      have HB := Lib.hid hb
      clear hb
      go_wp2_with fail
      go_ret
      exact ⟨rfl, HB.out⟩
end Go.Proofs.YtkhacogeffidoaaDoor
