/- The walk of TextLong. -/
import Derived.Test.YtndclmjpjcilmaaDoorPick
import Derived.Test.YtndclmjpjcilmaaDoorKeep
set_option linter.unusedSimpArgs false
namespace Go.Proofs.YtndclmjpjcilmaaDoor
open Go.RowKit

theorem rep_set {α : Type} (n j : Nat) (c z : α) (h : j < n) : (List.replicate j c ++ List.replicate (n - j) z).set j c = List.replicate (j + 1) c ++ List.replicate (n - (j + 1)) z := by
  rw [List.set_append_right _ _ (by simp)]
  obtain ⟨m, hm⟩ : ∃ m, n - j = m + 1 := ⟨n - j - 1, by omega⟩
  have h2 : n - (j + 1) = m := by omega
  rw [hm, h2, List.replicate_succ (n := m), List.length_replicate, Nat.sub_self, List.set_cons_zero, List.replicate_succ' (n := j)]
  simp
theorem rep_check (c n : Nat) (hc : Uni.vr c) : checkText (Uni.enc (List.replicate n c)) = if 4000 < n then 1 else 0 := by
  have h : ∀ r ∈ List.replicate n c, Uni.vr r := by
    intro r hr
    rw [(List.mem_replicate.1 hr).2]; exact hc
  unfold checkText
  rw [valid_enc _ h, rc_enc _ h, List.length_replicate, if_neg (by decide)]
  by_cases h4 : 4000 < n
  · rw [if_pos h4, if_pos (by omega)]
  · rw [if_neg h4, if_neg (by omega)]
theorem rep_size (c n : Nat) (hc : Uni.vr c) (hn : n ≤ 5000) : (Uni.enc (List.replicate n c)).size ≤ strMax := by
  have h : ∀ r ∈ List.replicate n c, Uni.vr r := by
    intro r hr
    rw [(List.mem_replicate.1 hr).2]; exact hc
  have := enc_size _ h
  rw [List.length_replicate] at this
  unfold strMax; omega

set_option maxRecDepth 100000 in
set_option maxHeartbeats 1500000 in
theorem textLong_walk (w : World) (hg : Good w) (x : Int) (hx : I64 x) (wide : Bool) :
    Calls Tryd.prog 3 #[.int .i64 x, .bool wide] w fun e w' => e = .returned (.bool true) ∧ Below w.heap.size w w' := by
  obtain ⟨i0, hi, hz0, hz1, hz2⟩ := info_parts infoR
  have Hp := Lib.hid (fun W => picked_any x 10 W hx (by omega) (by omega))
  have r := pk_range x 10 (by omega)
  clear hx
  generalize pk x 10 = qq at *
  obtain ⟨q, rfl⟩ := Int.eq_ofNat_of_zero_le r.1
  have hq : q < 10 := by omega
  clear r
  obtain ⟨c, hc, hvr⟩ : ∃ c : Nat, c = (if wide then 19990 else 97) ∧ Uni.vr c := ⟨_, rfl, by cases wide <;> decide⟩
  have Hck := Lib.hid (rep_check c (3995 + q) hvr)
  have Hsz := Lib.hid (rep_size c (3995 + q) hvr (by omega))
  clear hvr
  go_enter Tryd.func3, Tryd.ntmps3
  go_wp2_with fail
  refine (Hp.out _).mono ?_
  rintro e w1 ⟨rfl, rfl⟩
  go_wp2_with (at_make; refine wpList_make_full _ rfl _ _ 23 rfl w.heap.size 21 i0 (.int .i32 0) 1 Tryd.underlying23 hi hz0 hz1 _ _ _ _ (3995 + q) rfl rfl (by omega) (by omega) ?b2 ?b3 ?b4 ?_)
  case b2 => rw [hz2]; omega
  case b3 => unfold maxLen; omega
  case b4 => exact Nat.le_refl _
  intro w1 hown hgrow
  have hb1 : Below w.heap.size w w1 := (Below.refl _ _).grown hgrow (Nat.le_refl _) (fun g hg => by cases hg)
  have hown0 : w1.ownsRow w.heap.size 21 1 (.slice (some ⟨w.heap.size, 0, none⟩) (3995 + q) (3995 + q)) (3995 + q) (List.replicate 0 (.int .i32 c) ++ List.replicate (3995 + q - 0) (.int .i32 0)) := by
    rw [toList_madeCells_one] at hown
    simpa using hown
  clear hown hgrow hi hz0 hz1 hz2 i0 Hp
  generalize hn : 3995 + q = n at *
  have hnq : 3995 + (q : Int) = (n : Int) := by omega
  rw [hnq]
  obtain ⟨g, hgd⟩ : ∃ g, g = w.heap.size := ⟨_, rfl⟩
  have hge : w.heap.size ≤ g := by omega
  rw [← hgd] at hown0
  rw [← hgd]
  have Hgd := Lib.hid hgd
  clear hgd
  go_wp2_with fail
  go_loopw [16] (fun i wr => ∃ k : Nat, k ≤ n ∧ i = .int .i64 k ∧ wr.ownsRow w.heap.size 21 1 (.slice (some ⟨g, 0, none⟩) n n) n (List.replicate k (.int .i32 c) ++ List.replicate (n - k) (.int .i32 0)) ∧ Below w.heap.size w wr) (fun i _ => n - (intOf i).toNat)
  case atStart => exact ⟨0, by omega, rfl, by rw [← Hgd.out]; exact hown0, hb1⟩
  case round =>
    obtain ⟨k, hk, rfl, hown, hb⟩ := hrel
    by_cases hlt : k < n
    · have hcell : wr.cell? ⟨g, k, none⟩ = some (.int .i32 0) := by
        rw [hown.cellAt k (by omega)]
        rw [List.getElem?_append_right (by simp), List.length_replicate, Nat.sub_self, List.getElem?_replicate, if_pos (by omega)]
      have hfz : wr.frozen? ⟨g, k, none⟩ = false := hown.frozenAt k
      have hst := (hown.stored k (.int .i32 97)).1
      have hfz2 : (wr.setCell ⟨g, k, none⟩ (.int .i32 97)).frozen? ⟨g, k, none⟩ = false := hst.frozenAt k
      have hcell2 : ∃ v, (wr.setCell ⟨g, k, none⟩ (.int .i32 97)).cell? ⟨g, k, none⟩ = some v := ⟨_, (hst.cellAt k (by omega)).trans (List.getElem?_eq_getElem (by simp; omega))⟩
      obtain ⟨v2, hcell2⟩ := hcell2
      have hst2 := (hst.stored k (.int .i32 19990)).1
      rw [List.set_set] at hst2
      have hset := rep_set n k (Value.int .i32 c) (.int .i32 0) hlt
      have Hst := Lib.hid hst
      have Hst2 := Lib.hid hst2
      have Hset := Lib.hid hset
      have Hb := Lib.hid hb
      have hz := hb.size
      clear hst hst2 hset hown hb
      cases wide with
      | false =>
        have hc2 : c = 97 := by simpa using hc
        subst hc2
        clear Hst2 hc
        go_wp2_with fail
        go_roundw
        case rel => exact ⟨k + 1, by omega, by go_num, by have h := Hst.out; rw [show (Value.int .i32 97) = Value.int .i32 ((97 : Nat) : Int) from rfl, Hset.out] at h; exact h, Hb.out.setCell (p := ⟨g, k, none⟩) hge _⟩
        case measure => simp [intOf]; omega
      | true =>
        have hc2 : c = 19990 := by simpa using hc
        subst hc2
        clear Hst hc
        go_wp2_with fail
        go_roundw
        case rel => exact ⟨k + 1, by omega, by go_num, by have h := Hst2.out; rw [show (Value.int .i32 19990) = Value.int .i32 ((19990 : Nat) : Int) from rfl, Hset.out] at h; exact h, (Hb.out.setCell (p := ⟨g, k, none⟩) hge _).setCell (p := ⟨g, k, none⟩) hge _⟩
        case measure => simp [intOf]; omega
    · have hkn : k = n := by omega
      subst hkn
      have hrow : wr.ownsRow w.heap.size 21 1 (.slice (some ⟨g, 0, none⟩) k k) k ((List.replicate k c).map fun r : Nat => .int .i32 (r : Int)) := by
        simpa using hown
      have hcv := conv_own hrow
      have Hcx := Lib.hid (fun W hW => checkText_any (Uni.enc (List.replicate k c)) W hW Hsz.out)
      have hck := Hck.out
      have Hg := Lib.hid (hg.below' hb)
      have Hb := Lib.hid hb
      clear hown hrow hb Hck Hsz
      generalize Uni.enc (List.replicate k c) = T at *
      by_cases h4 : 4000 < k
      · rw [if_pos h4] at hck
        rw [hck] at Hcx
        have d : decide ((k : Int) ≤ 4000) = false := by simp; omega
        clear hck
        go_wp2_with fail
        refine (Hcx.out _ Hg.out).mono ?_
        rintro e w2 ⟨rfl, hb2⟩
        go_wp2_with fail
        go_ret
        exact ⟨rfl, Hb.out.trans (hb2.mono Hb.out.size)⟩
      · rw [if_neg h4] at hck
        rw [hck] at Hcx
        have d : decide ((k : Int) ≤ 4000) = true := by simp; omega
        clear hck
        go_wp2_with fail
        refine (Hcx.out _ Hg.out).mono ?_
        rintro e w2 ⟨rfl, hb2⟩
        go_wp2_with fail
        go_ret
        exact ⟨rfl, Hb.out.trans (hb2.mono Hb.out.size)⟩
end Go.Proofs.YtndclmjpjcilmaaDoor
