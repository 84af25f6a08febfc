/- The walks of textTells and cutOut. -/
import Derived.Test.YtajijhnnnekhmaaDoorHere
import Derived.Test.YtajijhnnnekhmaaDoorTransformSame
import Derived.Test.YtajijhnnnekhmaaDoorTwo
set_option linter.unusedSimpArgs false
namespace Go.Proofs.YtajijhnnnekhmaaDoor
open Go.RowKit

theorem tells_any (w : World) (hg : Good w) : Calls Tryd.prog 23 #[] w fun e w' => e = .returned (.bool true) ∧ Below w.heap.size w w' := by
  have hv : ∀ r ∈ [97], Uni.vr r := by intro r hr; simp at hr; subst hr; unfold Uni.vr; omega
  have hc : Can [P.i [97]] := ⟨by simp, hv⟩
  have hI := opIs_of hc (by simp [FS, P.F]) (by simp [TS, P.T])
  have e0 : (([P.i [97]] : List P).reverse.map P.part) = [⟨2, 0, ⟨#[97]⟩⟩] := by kernel_rfl
  rw [e0] at hI
  have hf := hI.f
  have ho := hI.opP
  have h0 : checkText noText = 0 := by kernel_rfl
  obtain ⟨a1, a2, -⟩ := apply_good h0 hI.check (by rw [hf]; kernel_rfl)
  have a3 : applyS noText [⟨2, 0, ⟨#[97]⟩⟩] = ⟨#[97]⟩ := by
    rw [a2, ho]; kernel_rfl
  have HA := Lib.hid (fun a c W hg hr => apply_any noText [⟨2, 0, ⟨#[97]⟩⟩] a 1 c W hg hr (by simp [noText_size]))
  rw [a1, a3] at HA
  have Hrd : Hid (∀ W b, Blk b (.cells #[.int .i64 2, .int .i64 0, .string ⟨#[97]⟩] 45 (0, 0)) W → RdS (· < W.heap.size) W [(⟨2, 0, ⟨#[97]⟩⟩ : Part)] (some ⟨b, 0, none⟩) 1 1) := by
    intro W b hb
    refine ⟨rfl, Nat.le_refl _, by unfold maxLen; omega, (fun h => by cases h), fun _ => ⟨b, 0, rfl, hb.lt, hb.lt, fun i x hi => ?_⟩⟩
    cases i with
    | succ i => simp at hi
    | zero =>
      simp at hi; subst hi
      refine ⟨_, ⟨rfl, ⟨by simp, by simp⟩, ⟨by simp, by simp⟩, by unfold strMax; simp [ByteArray.size]⟩, fun j v hj => ?_⟩
      show W.cell? ⟨b, 0 + 0 * 3 + j, none⟩ = _
      rw [show 0 + 0 * 3 + j = j from by omega, hb.cell j]
      simpa using hj
  clear hI hf ho h0 a1 a2 a3 e0 hc hv
  go_enter Tryd.func23, Tryd.ntmps23
  go_wp2_with fail
  refine abs_run (fun W => (∃ b, b = w.heap.size ∧ Blk b (.cells #[.int .i64 2, .int .i64 0, .string ⟨#[97]⟩] 45 (0, 0)) W) ∧ Below w.heap.size w W) ⟨⟨_, rfl, Blk.new w _⟩, (Below.refl _ _).alloc (Nat.le_refl _) _⟩ ?_
  rintro W1 ⟨⟨b, rfl, hb⟩, u1⟩
  refine (HA.out _ _ W1 (hg.go u1) (Hrd.out _ _ hb)).mono ?_
  rintro e w2 ⟨rfl, u2⟩
  have U2 := Lib.hid (up u1 u2)
  clear u1 u2 hb HA
  go_wp2_with fail
  go_ret
  exact ⟨rfl, U2.out⟩

def cutP (n k : Nat) : List P := [.k k, .d (min (n - k) 1), .k (n - k - min (n - k) 1)]
def cutO (n k : Nat) : Op := opOfP (cutP n k)
theorem raw_laws (l : List P) (hn : NoI l) (hf : FS l ≤ 4000) (ht : TS l ≤ 4000) : check (opOfP l) = 0 ∧ sumF (opOfP l) = FS l ∧ sumT (opOfP l) = TS l ∧ opP (opOfP l) = (build l).reverse ∧ NoI (opP (opOfP l)) := by
  have hc : Can (build l) := foldl_can _ _ trivial (fun p hp t ht => by subst ht; exact absurd (hn _ hp) (by simp [P.Ins]))
  have hI := opIs_of hc (by rw [build_FS]; exact hf) (by rw [build_TS]; exact ht)
  have h1 := hI.check
  have h2 := hI.f
  have h3 := hI.t
  have h4 := hI.opP
  rw [FS_rev, build_FS] at h2
  rw [TS_rev, build_TS] at h3
  unfold opOfP
  exact ⟨h1, h2, h3, h4, by rw [h4]; exact NoI_build hn⟩
theorem cut_laws (n k : Nat) (hk : k ≤ n) (hn : n ≤ 4000) : check (cutO n k) = 0 ∧ sumF (cutO n k) = n ∧ sumT (cutO n k) = (n - min (n - k) 1 : Nat) ∧ NoI (opP (cutO n k)) := by
  have hF : FS (cutP n k) = n := by simp only [cutP, FS, P.F]; omega
  have hT : TS (cutP n k) = n - min (n - k) 1 := by simp only [cutP, TS, P.T]; omega
  obtain ⟨h1, h2, h3, h4, h5⟩ := raw_laws (cutP n k) (by simp [cutP, NoI, P.Ins]) (by omega) (by omega)
  unfold cutO
  exact ⟨h1, by omega, by omega, h5⟩
set_option maxRecDepth 100000 in
set_option maxHeartbeats 2000000 in
theorem cutOut_any (n k : Nat) (w : World) (hk : k ≤ n) (hn : n ≤ 4000) :
    Calls Tryd.prog 28 #[.int .i64 (n : Int), .int .i64 (k : Int)] w fun e w' => ∃ a c, e = .returned (.slice a (cutO n k).length c) ∧
      RdS (· < w'.heap.size) w' (cutO n k) a (cutO n k).length c ∧ Below w.heap.size w w' := by
  have hF : FS (build (cutP n k)) = n := by rw [build_FS]; simp only [cutP, FS, P.F]; omega
  have hT : TS (build (cutP n k)) ≤ n := by rw [build_TS]; simp only [cutP, TS, P.T]; omega
  have hend : addP (addP (addP [] (.k k)) (.d (min (n - k) 1))) (.k (n - k - min (n - k) 1)) = build (cutP n k) := rfl
  obtain ⟨d, hd⟩ : ∃ d, d = min (n - k) 1 := ⟨_, rfl⟩
  obtain ⟨r, hr⟩ : ∃ r, r = n - k - d := ⟨_, rfl⟩
  rw [← hd, ← hr] at hend
  have M1 := Lib.hid (fun W v (h : Ms w.heap.size w.heap.size [] v W) => madd _ _ _ v (.k k) W h (by simp [FS, TS]) (fun l h => by cases h) (by simp only [P.z]; omega))
  have M2 := Lib.hid (fun W v (h : Ms w.heap.size w.heap.size (addP [] (.k k)) v W) => madd _ _ _ v (.d d) W h (by rw [FS_addP, TS_addP]; simp only [FS, TS, P.F, P.T]; omega) (fun l h => by cases h) (by simp only [P.z]; omega))
  have M3 := Lib.hid (fun W v (h : Ms w.heap.size w.heap.size (addP (addP [] (.k k)) (.d d)) v W) => madd _ _ _ v (.k r) W h (by rw [FS_addP, TS_addP, FS_addP, TS_addP]; simp only [FS, TS, P.F, P.T]; omega) (fun l h => by cases h) (by simp only [P.z]; omega))
  simp only [P.part] at M1 M2 M3
  have iy : IntKind.i64.wrap ((n : Int) - (k : Int)) = ((n - k : Nat) : Int) := by rw [IntWalk.i64_in _ (by omega)]; omega
  have im : min ((n - k : Nat) : Int) 1 = (d : Int) := by omega
  have im' : min ((n : Int) - (k : Int)) 1 = (d : Int) := by omega
  have hkd : (k : Int) + d ≤ n := by omega
  have ir : (n : Int) - (k : Int) - (d : Int) = (r : Int) := by omega
  have ir' : ((n - k : Nat) : Int) - (d : Int) = (r : Int) := by omega
  have iz : IntKind.i64.wrap (((n - k : Nat) : Int) - (d : Int)) = (r : Int) := by rw [IntWalk.i64_in _ (by omega)]; omega
  have Hend : Hid (∀ W v, Ms w.heap.size w.heap.size (addP (addP (addP [] (.k k)) (.d d)) (.k r)) v W → ∃ a c, v = .slice a (cutO n k).length c ∧ RdS (fun z => w.heap.size ≤ z ∧ z < W.heap.size) W (cutO n k) a (cutO n k).length c) := by
    intro W v h
    rw [hend] at h
    exact Ms.rd h (by omega)
  have Him := Lib.hid im
  have Him' := Lib.hid im'
  have Hir := Lib.hid ir
  have Hir' := Lib.hid ir'
  generalize cutO n k = H at *
  generalize H.length = lh at *
  clear hF hT hend hr im im' ir ir'
  clear hd
  go_enter Tryd.func28, Tryd.ntmps28
  go_wp2_with fail
  refine abs_run (fun W => (∃ v, Ms w.heap.size w.heap.size [] v W) ∧ Below w.heap.size w W) ⟨⟨_, Ms.new w⟩, (Below.refl _ _).alloc (Nat.le_refl _) _⟩ ?_
  rintro W0 ⟨⟨v0, m0⟩, b0⟩
  refine (M1.out _ _ m0).mono ?_
  rintro e w1 ⟨rfl, m1, b1⟩
  have m1 := Lib.hid m1
  have b1 := Lib.hid (b0.trans b1)
  clear m0 b0 M1
  go_wp2_with fail
  try rw [Him'.out]
  try rw [Him.out]
  obtain ⟨v1, m1⟩ := m1.out
  refine (M2.out _ _ m1).mono ?_
  rintro e w2 ⟨rfl, m2, b2⟩
  have m2 := Lib.hid m2
  have b2 := Lib.hid (b1.out.trans b2)
  clear m1 b1 M2
  have im := Him.out
  go_wp2_with fail
  try rw [Hir.out]
  obtain ⟨v2, m2⟩ := m2.out
  refine (M3.out _ _ m2).mono ?_
  rintro e w3 ⟨rfl, ⟨v3, m3⟩, b3⟩
  have b3 := Lib.hid (b2.out.trans b3)
  have c0 : w3.cell? ⟨w.heap.size, 0, none⟩ = some v3 := (show Blk w.heap.size _ w3 from m3.bag.blk).cell 0
  obtain ⟨a3, c3, rfl, r3⟩ := Hend.out _ _ m3
  have r3 := Lib.hid r3
  clear m3 m2 b2 M3 Hend im
  go_wp2_with fail
  go_ret
  exact ⟨a3, c3, rfl, r3.out.wide fun b hb => hb.2, b3.out⟩
end Go.Proofs.YtajijhnnnekhmaaDoor
