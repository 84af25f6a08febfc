/- Contracts of what is called of Go's library: utf8.ValidString, utf8.RuneCountInString, strings.Builder; and of text.length, text.CheckText. -/
import Derived.Test.YtkbfhgcjimfgkaaDoorRows
import Derived.Test.YtkbfhgcjimfgkaaDoorGood
import Derived.Test.YtkbfhgcjimfgkaaDoorShelf
import Derived.Lib.RuneCount
import Derived.Lib.ValidLaws
import Derived.BigQuiet
import Derived.Deep.QuietTactic
import Derived.Lib.Hide
set_option linter.unusedVariables false
set_option linter.unusedSimpArgs false
namespace Go.Proofs.YtkbfhgcjimfgkaaDoor
open Go.RowKit

def valid (s : Str) : Bool := Lib.validD s.data.toList
def rc (s : Str) : Int := Lib.runeCount s
def checkText (s : Str) : Int := if valid s = false then 4 else if 4000 < rc s then 1 else 0

theorem valid_any (s : Str) (w : World) (hg : Good w) (hs : s.size ≤ strMax) :
    Calls Tryd.prog 48 #[.string s] w fun e w' => e = .returned (.bool (valid s)) ∧ Below w.heap.size w w' :=
  Tryd.utf8_ValidString s w (by unfold strMax at hs; omega) hg.tabs
theorem rc_any (s : Str) (w : World) (hs : s.size ≤ strMax) :
    Calls Tryd.prog 31 #[.string s] w fun e w' => e = .returned (.int .i64 (rc s)) ∧ Below w.heap.size w w' := by
  refine (Tryd.utf8_RuneCountInString s w (by unfold strMax at hs; omega)).mono ?_
  rintro e w' ⟨rfl, pos, rfl⟩
  exact ⟨rfl, by unfold World.iter; (repeat (first | exact Below.refl _ _ | assumption | (refine Below.drew ?_) | (refine below_drewN ?_ _) | (refine Below.alloc ?_ (by first | (simp; done) | (simp; omega) | omega) _) | (refine Below.setCell ?_ (by first | (simp; done) | (simp; omega) | omega) _) | (refine Below.trans ?_ (Below.mono (by assumption) (by first | (simp; done) | (simp; omega) | omega)))))⟩
theorem rc_nonneg (s : Str) : 0 ≤ rc s := by unfold rc; omega
theorem rc_le (s : Str) : rc s ≤ s.size := by unfold rc; have := Lib.runeCount_le s; omega

set_option maxHeartbeats 400000 in
theorem length_any (s : Str) (w : World) (hg : Good w) (hs : s.size ≤ strMax) :
    Calls Tryd.prog 49 #[.string s] w fun e w' => e = .returned (.tuple #[.int .i64 (rc s), .bool (valid s && decide (rc s ≤ 4000))]) ∧ Below w.heap.size w w' := by
  have hv := fun W hW => valid_any s W hW hs
  have hrn := rc_nonneg s
  have hrl := rc_le s
  have hr := fun W => rc_any s W hs
  unfold strMax at hs
  have Hv := Lib.hid hv
  have Hr := Lib.hid hr
  clear hv hr
  generalize valid s = v at *
  generalize rc s = r at *
  cases v
  all_goals
    go_enter Tryd.func49, Tryd.ntmps49
    go_wp2_with fail
    refine (Hr.out _).mono ?_
    rintro e w1 ⟨rfl, hb1⟩
    go_wp2_with fail
    refine (Hv.out _ (hg.below' hb1)).mono ?_
    rintro e w2 ⟨rfl, hb2⟩
    go_wp2_with fail
    go_ret2
    exact ⟨by simp, hb1.trans (hb2.mono hb1.size)⟩

set_option maxHeartbeats 400000 in
theorem checkText_any (s : Str) (w : World) (hg : Good w) (hs : s.size ≤ strMax) :
    Calls Tryd.prog 25 #[.string s] w fun e w' => e = .returned (.int .i64 (checkText s)) ∧ Below w.heap.size w w' := by
  have hv := fun W hW => valid_any s W hW hs
  have hr := fun W hW => length_any s W hW hs
  have Hv := Lib.hid hv
  have Hr := Lib.hid hr
  clear hv hr
  unfold checkText
  generalize valid s = v at *
  generalize rc s = r at *
  cases v
  · go_enter Tryd.func25, Tryd.ntmps25
    go_wp2_with fail
    refine (Hv.out _ hg).mono ?_
    rintro e w1 ⟨rfl, hb1⟩
    go_wp2_with fail
    go_ret
    exact ⟨by simp, hb1⟩
  · by_cases h : 4000 < r
    · have hd : decide (r ≤ 4000) = false := by simp; omega
      rw [hd] at Hr
      go_enter Tryd.func25, Tryd.ntmps25
      go_wp2_with fail
      refine (Hv.out _ hg).mono ?_
      rintro e w1 ⟨rfl, hb1⟩
      go_wp2_with fail
      refine (Hr.out _ (hg.below' hb1)).mono ?_
      rintro e w2 ⟨rfl, hb2⟩
      go_wp2_with fail
      go_ret
      exact ⟨rfl, hb1.trans (hb2.mono hb1.size)⟩
    · have hd : decide (r ≤ 4000) = true := by simp; omega
      rw [hd] at Hr
      go_enter Tryd.func25, Tryd.ntmps25
      go_wp2_with fail
      refine (Hv.out _ hg).mono ?_
      rintro e w1 ⟨rfl, hb1⟩
      go_wp2_with fail
      refine (Hr.out _ (hg.below' hb1)).mono ?_
      rintro e w2 ⟨rfl, hb2⟩
      go_wp2_with fail
      go_ret
      exact ⟨rfl, hb1.trans (hb2.mono hb1.size)⟩
end Go.Proofs.YtkbfhgcjimfgkaaDoor
