/- The walks of slices.Grow (of nil) and slices.Concat at bytes. -/
import Derived.Test.YtdbdhpjjndhjiaaDoorAppB
import Derived.Lib.AppendZeros
set_option linter.unusedSimpArgs false
namespace Go.Proofs.YtdbdhpjjndhjiaaDoor
open Go.RowKit

set_option maxRecDepth 100000 in
set_option maxHeartbeats 1000000 in
theorem grow_any (n : Nat) (w : World) (hn : n ≤ 10000000000) :
    Calls Tryd.prog 61 #[.slice none 0 0, .int .i64 (n : Int)] w fun e w' => ∃ a c, e = .returned (.slice a 0 c) ∧ w'.ownsRow w.heap.size 5 1 (.slice a 0 c) 0 [] ∧ Below w.heap.size w w' := by
  obtain ⟨i0, hi, hz0, hz1, hz2⟩ := info_parts infoU8
  by_cases h0 : n = 0
  · subst h0
    go_enter Tryd.func61, Tryd.ntmps61
    go_wp2_with fail
    go_ret
    exact ⟨none, 0, rfl, World.ownsRow_nil _ _ _ _, Below.refl _ _⟩
  · have hnp : 0 < n := by omega
    have hrun := Lib.run_append_nil_zeros (P := Tryd.prog) w 25 3 25 5 i0 (.int .u8 0) .i64 .i64 Tryd.underlying25 Tryd.underlying3 hi hz0 n hnp (by rw [hz1]; omega) (by omega) (by rw [hz2]; omega)
    have hgc1 := grownCap_ge w n 0 5
    have hgc2 : grownCap w n 0 5 ≤ maxLen := grownCap_le_maxLen w n 0 5 (by unfold maxLen; omega)
    have hown : (w.drew.alloc (.cells (Builtin.zeroCells (Value.int .u8 0).cells n ++ Builtin.zeroCells (Value.int .u8 0).cells (grownCap w n 0 5 - n)) 5)).ownsRow w.heap.size 5 1 (.slice (some ⟨w.heap.size, 0, none⟩) 0 (grownCap w n 0 5)) 0 [] := by
      refine ⟨rfl, .inr ⟨w.heap.size, grownCap w n 0 5, _, rfl, Nat.le_refl _, heap_alloc_new w.drew _, Nat.zero_le _, hgc2, ?_, ?_⟩⟩
      · rw [Array.size_append, size_zeroCells, size_zeroCells]; show n * 1 + (_ - n) * 1 = _; omega
      · simp
    have Hown := Lib.hid hown
    unfold maxLen at hgc2
    generalize grownCap w n 0 5 = cap at *
    clear hown hi hz0 hz1 hz2 i0 h0
    go_enter Tryd.func61, Tryd.ntmps61
    go_wp2_with (at_builtin; go_must (refine Lib.wpList_append_run _ rfl _ _ _ _ (by rfl) _ _ (by rfl) (by rfl) _ _ hrun ?_))
    go_ret
    exact ⟨_, _, rfl, Hown.out, by (repeat (first | exact Below.refl _ _ | assumption | (refine Below.drew ?_) | (refine below_drewN ?_ _) | (refine Below.alloc ?_ (by first | (simp; done) | (simp; omega) | omega) _) | (refine Below.setCell ?_ (by first | (simp; done) | (simp; omega) | omega) _) | (refine Below.trans ?_ (Below.mono (by assumption) (by first | (simp; done) | (simp; omega) | omega)))))⟩
/-- an element of a slice of slices -/
theorem RdS.elem {α : Type} [Rep α] {A : Nat → Prop} {w : World} {ls : List (List α)} {a : Option Addr} {n c : Nat} (hr : RdS A w ls a n c) (hn : 0 < n) :
    ∃ b off, a = some ⟨b, off, none⟩ ∧ A b ∧ b < w.heap.size ∧ ∀ i (h : i < ls.length), ∃ a' n' c', w.cell? ⟨b, off + i, none⟩ = some (.slice a' n' c') ∧ RdS A w ls[i] a' n' c' := by
  obtain ⟨b, off, e, hA, hb, he⟩ := hr.2.2.2.2 hn
  refine ⟨b, off, e, hA, hb, fun i h => ?_⟩
  obtain ⟨xs, ⟨a', n', c', rfl, h1⟩, h4⟩ := he i ls[i] (List.getElem?_eq_getElem h)
  refine ⟨a', n', c', ?_, h1⟩
  have := h4 0 _ rfl
  rw [show off + i * Rep.n (List α) + 0 = off + i from by show off + i * 1 + 0 = off + i; omega] at this
  exact this
/-- how many elements the first k lists have -/
def lenK (ls : List Bs) (k : Nat) : Nat := (ls.take k).flatten.length
theorem lenK_next (ls : List Bs) (k : Nat) (h : k < ls.length) : lenK ls (k + 1) = lenK ls k + ls[k].length := by
  unfold lenK
  rw [List.take_succ_eq_append_getElem h, List.flatten_append, List.length_append]
  simp
theorem lenK_le (ls : List Bs) (k : Nat) : lenK ls k ≤ ls.flatten.length := by
  unfold lenK
  have h : ls = ls.take k ++ ls.drop k := (List.take_append_drop k ls).symm
  conv => rhs; rw [h]
  rw [List.flatten_append, List.length_append]; omega
set_option maxRecDepth 100000 in
set_option maxHeartbeats 3000000 in
theorem concat_any (ls : List Bs) (a : Option Addr) (n c : Nat) (w : World) (hr : RdS (· < w.heap.size) w ls a n c) (hl : ls.length ≤ 1000) (hb : ls.flatten.length ≤ 1000000000) (he : ∀ k (h : k < ls.length), ls[k] = [] → (ls.take k).flatten = []) :
    Calls Tryd.prog 39 #[.slice a n c] w (CloneP w ls.flatten) := by
  have HG := Lib.hid (fun W => grow_any ls.flatten.length W (by omega))
  have hnl := hr.1
  have hnc := hr.2.1
  have hcm : c ≤ 9223372036854775807 := hr.2.2.1
  have Hel := Lib.hid (fun h => hr.elem h)
  have Hnl := Lib.hid hnl
  have Hlk := Lib.hid (fun k => lenK_le ls k)
  have Hnx := Lib.hid (fun k h => lenK_next ls k h)
  have Hall : Hid (lenK ls n = ls.flatten.length) := by unfold Hid lenK; rw [hnl, List.take_length]
  have Hemp := Lib.hid he
  have hn1 : n ≤ 1000 := by omega
  clear hr he hnl
  generalize hF : ls.flatten = F at *
  have HF := Lib.hid hF
  clear hF
  go_enter Tryd.func39, Tryd.ntmps39
  go_wp2_with fail
  go_loop [3, 11] (fun sz i => ∃ k : Nat, k ≤ n ∧ i = .int .i64 k ∧ sz = .int .i64 (lenK ls k : Nat)) (fun _ i => n - (intOf i).toNat)
  case atStart => exact ⟨0, by omega, rfl, rfl⟩
  case round =>
    obtain ⟨k, hk, rfl, rfl⟩ := hrel
    have hlk := Hlk.out k
    by_cases hlt : k < n
    · obtain ⟨b, off, rfl, _, hbl, hcs⟩ := Hel.out (by omega)
      have hkl : k < ls.length := by have := Hnl.out; omega
      obtain ⟨a', n', c', hc, hr'⟩ := hcs k hkl
      have hn' := hr'.1
      have hlk2 := Hlk.out (k + 1)
      have hx := Hnx.out k hkl
      rw [hx, ← hn'] at hlk2
      have Hx : Hid (lenK ls (k + 1) = lenK ls k + n') := by unfold Hid; rw [hx, hn']
      clear hcs hr' hn' hx
      generalize lenK ls k = s at *
      have hs0 : decide (((s : Int) + (n' : Int)) < 0) = false := by simp; omega
      go_wp2_with fail
      go_round
      case rel => exact ⟨k + 1, by omega, by go_num, by rw [Hx.out]; go_num⟩
      case measure => simp [intOf]; omega
    · have hkn : k = n := by omega
      subst hkn
      rw [Hall.out]
      rw [Hall.out] at hlk
      clear hlt hlk
      go_wp2_with fail
      refine (HG.out _).mono ?_
      rintro e w1 ⟨ag, cg, rfl, hown, hb1⟩
      have Hown := Lib.hid hown
      have HB1 := Lib.hid hb1
      clear hown hb1 HG
      go_wp2_with fail
      go_loopw [6, 27] (fun v i wr => ∃ (j : Nat) (ax : Option Addr) (cx : Nat), j ≤ k ∧ i = .int .i64 j ∧ v = .slice ax (lenK ls j) cx ∧ wr.ownsRow w.heap.size 5 1 v (lenK ls j) (bb (ls.take j).flatten) ∧ Below w.heap.size w wr) (fun _ i _ => k - (intOf i).toNat)
      case atStart => exact ⟨0, ag, cg, by omega, rfl, rfl, Hown.out, HB1.out⟩
      case round =>
        obtain ⟨j, ax, cx, hj, rfl, rfl, hown, hb1⟩ := hrel
        clear Hown HB1
        by_cases hlt : j < k
        · obtain ⟨b, off, rfl, _, hbl, hcs⟩ := Hel.out (by omega)
          have hjl : j < ls.length := by have := Hnl.out; omega
          obtain ⟨a', n', c', hc, hr'⟩ := hcs j hjl
          have hn' := hr'.1
          have hc1 : wr.cell? ⟨b, off + j, none⟩ = some (.slice a' n' c') := (hb1.cell (p := ⟨b, off + j, none⟩) hbl).trans hc
          have hr1 := hr'.go hb1
          have hlk2 := Hlk.out (j + 1)
          have hx := Hnx.out j hjl
          rw [hx, ← hn'] at hlk2
          have hemp := Hemp.out j hjl
          have hbz := hb1.size
          have Hr1 := Lib.hid hr1
          have Hb1 := Lib.hid hb1
          have Hown := Lib.hid hown
          have H0 : Hid (n' = 0 → (ls.take j).flatten = []) := fun h => hemp (List.eq_nil_of_length_eq_zero (by omega))
          have Hcat : Hid ((ls.take j).flatten ++ ls[j] = (ls.take (j + 1)).flatten) := by unfold Hid; rw [List.take_succ_eq_append_getElem hjl, List.flatten_append]; simp
          have Hjn : Hid (lenK ls j = (ls.take j).flatten.length) := rfl
          have Hjn2 : Hid (lenK ls (j + 1) = (ls.take (j + 1)).flatten.length) := rfl
          have Hn' := Lib.hid hn'
          clear hcs hr' hn' hc hr1 hb1 hown hemp hx
          generalize ls[j] = lj at *
          generalize (ls.take j).flatten = fj at *
          have Hown' : Hid (wr.ownsRow w.heap.size 5 1 (.slice ax (lenK ls j) cx) fj.length (bb fj)) := by unfold Hid; rw [← Hjn.out]; exact Hown.out
          go_wp2_with (at_builtin; go_must (refine wpList_append_bytes rfl _ _ (by rfl) w.heap.size (.slice ax (lenK ls j) cx) fj lj (by rfl) Hown'.out a' n' c' (by rfl) Hr1.out H0.out (by have := Hjn.out; omega) hbz ?_))
          intro a2 c2 w2 hown2 hf2 hgrow2
          rw [Hcat.out] at hown2
          have e2 : fj.length + lj.length = lenK ls (j + 1) := by rw [Hjn2.out, ← Hcat.out, List.length_append]
          rw [e2] at hown2 ⊢
          clear e2
          have hb2 : Below w.heap.size w w2 := Hb1.out.grown hgrow2 hbz (fun g hg => (Hown.out.lt g hg).1)
          have Hown2 := Lib.hid hown2
          have Hb2 := Lib.hid hb2
          clear hown2 hb2 hgrow2 hf2
          go_wp2_with fail
          go_roundw
          case rel => exact ⟨j + 1, a2, c2, by omega, by go_num, rfl, Hown2.out, Hb2.out⟩
          case measure => simp [intOf]; omega
        · have hjk : j = k := by omega
          subst hjk
          have h1 : (ls.take j).flatten = F := by rw [Hnl.out, List.take_length]; exact HF.out
          have h2 := Hall.out
          rw [h1, h2] at hown
          rw [h2]
          obtain ⟨a3, c3, hv, hfa, hr3⟩ := rd_bytes hown (A := fun z => w.heap.size ≤ z ∧ z < wr.heap.size) (fun z hz => hown.lt z hz)
          injection hv with hv1 hv2 hv3
          subst hv1 hv3
          have G : Hid (CloneP w F (.returned (.slice ax F.length cx)) wr) := ⟨ax, cx, rfl, hfa, hr3, hb1⟩
          clear hown hr3 hb1 hv2
          generalize CloneP w F = CP at *
          go_wp2_with fail
          exact G.out
end Go.Proofs.YtdbdhpjjndhjiaaDoor
