/- Plain (without the wire): what is made of raw things may be. No program in sight. -/
import Derived.Test.YtkhacogeffidoaaDoorPacketMake
import Derived.Test.YtkhacogeffidoaaDoorCheckPacket
set_option linter.unusedVariables false
set_option linter.unusedSimpArgs false
namespace Go.Proofs.YtkhacogeffidoaaDoor
open Go.RowKit

theorem noText_ok : checkText noText = 0 := by decide
theorem frame_ok (r : Raw) (l : List Raw) : checkFrame (frameOf r l).kind (frameOf r l).heard (frameOf r l).epoch (frameOf r l).op (frameOf r l).text = 0 ∧
    I64 (frameOf r l).kind ∧ I64 (frameOf r l).heard ∧ I64 (frameOf r l).epoch ∧ (frameOf r l).text.size ≤ strMax ∧ (frameOf r l).op.length ≤ 8001 := by
  have ra := pk_range r.a 5000 (by omega)
  have rb := pk_range r.b 5000 (by omega)
  have rb5 := pk_range r.b 50 (by omega)
  have rc' := pk_range r.c 20 (by omega)
  unfold frameOf
  by_cases h0 : pk (r.kind.tdiv 4) 3 = 0
  · rw [if_pos h0]
    refine ⟨?_, by unfold I64; simp only; omega, by unfold I64; simp only; omega, by unfold I64; simp only; omega, by rw [noText_size]; omega, by simp⟩
    have a1 : num (pk r.b 5000) = true := by simp [num]; omega
    have a2 : num (1 + pk r.a 5000) = true := by simp [num]; omega
    have a3 : decide (0 < 1 + pk r.a 5000) = true := by simp; omega
    simp [checkFrame, a1, a2, check_nil, noText_ok, frameOdd, a3, emptyS_noText]
  · rw [if_neg h0]
    by_cases h1 : pk (r.kind.tdiv 4) 3 = 1
    · rw [if_pos h1]
      have hl := letters_ok r.text 20 (by omega)
      refine ⟨?_, by unfold I64; simp only; omega, by unfold I64; simp only; omega, by unfold I64; simp only; omega, by unfold strMax; simp only; omega, by simp⟩
      have a1 : num 0 = true := by simp [num]
      have a2 : num (1 + pk r.a 5000) = true := by simp [num]; omega
      have a3 : decide (0 < 1 + pk r.a 5000) = true := by simp; omega
      simp [checkFrame, a1, a2, check_nil, hl.1, frameOdd, a3]
    · rw [if_neg h1]
      have ho := mkOp_ok (pk r.c 20) l rc'.1 (by omega)
      have hz := check_zero ho.1
      refine ⟨?_, by unfold I64; simp only; omega, by unfold I64; simp only; omega, by unfold I64; simp only; omega, by rw [noText_size]; omega, hz.1⟩
      have a1 : num (pk r.b 50) = true := by simp [num]; omega
      have a2 : num 0 = true := by simp [num]
      simp [checkFrame, a1, a2, ho.1, noText_ok, frameOdd, emptyS_noText]

theorem packetOf_ok (r : Raw) (l : List Raw) : (packetOf r l).check = 0 := by
  have ra := pk_range r.a 5000 (by omega)
  have rb5 := pk_range r.b 50 (by omega)
  have rc' := pk_range r.c 30 (by omega)
  unfold packetOf
  by_cases h0 : pk r.kind 4 = 0
  · rw [if_pos h0]
    have a1 : num (pk r.a 5000) = true := by simp [num]; omega
    have a2 : num 0 = true := by simp [num]
    have a3 : num (pk r.b 50) = true := by simp [num]; omega
    simp [Pkt.check, checkPacket, a1, a2, a3, emptyF, bareFr, emptyS_noText]
  · rw [if_neg h0]
    have a1 : num (pk r.a 5000 + 1) = true := by simp [num]; omega
    have a2 : num (1 + pk r.c 30) = true := by simp [num]; omega
    have a3 : num (pk r.b 50) = true := by simp [num]; omega
    have a4 : ¬ (1 + pk r.c 30 < 1 ∨ pk r.a 5000 + 1 < 1) := by omega
    unfold Pkt.check checkPacket
    simp only [a1, a2, a3]
    rw [if_neg (by simp), if_neg (by simp), if_neg a4]
    exact (frame_ok r l).1
end Go.Proofs.YtkhacogeffidoaaDoor
