/- Plain: two that insert at one place. No program in sight. -/
import Derived.Test.YtajijhnnnekhmaaDoorHere
import Derived.Test.YtajijhnnnekhmaaDoorTransformSame
set_option linter.unusedSimpArgs false
namespace Go.Proofs.YtajijhnnnekhmaaDoor
open Go.RowKit

theorem kp_app (k : Nat) (t : List Nat) : app t (kp k) = t.take k := by
  unfold kp
  split
  · rename_i h; subst h; simp [app]
  · simp [app]
theorem keeps_kp (m : Nat) : keeps (kp m) = kp m := by unfold kp; split <;> rfl
theorem kp_kp (m f : Nat) (h : m + m ≤ f) : xf f (kp m) (kp m) = (kp m, kp m) := by
  obtain ⟨h1, h2, h3⟩ := kp_F m
  have := (xf_keep (kp m) f (fun p hp => (kp_can m).all p hp) (by omega)).1
  rw [h1, keeps_kp] at this
  exact this
theorem kp_noins (m : Nat) : ∀ u r, kp m ≠ .i u :: r := by
  intro u r h; unfold kp at h; split at h <;> cases h
/-- the parts of here -/
theorem here_build (k m : Nat) (x : List Nat) (hx : x ≠ []) : build [.k k, .i x, .k m] = kp m ++ .i x :: kp k := by
  have h1 := addP_kp 0 k
  rw [Nat.zero_add, kp_zero] at h1
  have h2 : addP (kp k) (.i x) = .i x :: kp k := by
    unfold kp; split <;> simp [addP, hx]
  have h3 : addP (.i x :: kp k) (.k m) = kp m ++ .i x :: kp k := by
    by_cases hm : m = 0
    · subst hm; rfl
    · rw [kp_pos hm]; simp [addP, hm]
  show addP (addP (addP [] (.k k)) (.i x)) (.k m) = _
  rw [h1, h2, h3]
theorem here_laws (n k : Nat) (x : List Nat) (hk : k ≤ n) (hn : n ≤ 2000) (hx : x ≠ []) (hv : ∀ r ∈ x, Uni.vr r) (hl : x.length ≤ 1000) :
    check (hereO n k x) = 0 ∧ sumF (hereO n k x) = n ∧ sumT (hereO n k x) = n + x.length ∧ opP (hereO n k x) = kp k ++ .i x :: kp (n - k) := by
  have hc : Can (build [.k k, .i x, .k (n - k)]) := foldl_can _ _ trivial (fun p hp t ht => by
    subst ht
    simp only [List.mem_cons, List.not_mem_nil, or_false] at hp
    rcases hp with h | h | h
    · cases h
    · cases h; exact hv
    · cases h)
  have hF : FS (build [.k k, .i x, .k (n - k)]) = n := by rw [build_FS]; simp only [FS, P.F]; omega
  have hT : TS (build [.k k, .i x, .k (n - k)]) = n + x.length := by rw [build_TS]; simp only [TS, P.T]; omega
  have hI := opIs_of hc (by omega) (by omega)
  have h1 := hI.check
  have h2 := hI.f
  have h3 := hI.t
  have h4 := hI.opP
  rw [FS_rev, hF] at h2
  rw [TS_rev, hT] at h3
  unfold hereO opOfP
  refine ⟨h1, h2, by rw [h3]; omega, ?_⟩
  rw [h4, here_build _ _ _ hx, List.reverse_append, List.reverse_cons, kp_rev', kp_rev']
  simp
where kp_rev' (n : Nat) : (kp n).reverse = kp n := by unfold kp; split <;> rfl
theorem xf_first (f k m : Nat) (x y : List Nat) (hx : x ≠ []) (hy : y ≠ []) (hf : (k + x.length + m) + (k + y.length + m) ≤ f) :
    (xf f (kp k ++ .i x :: kp m) (kp k ++ .i y :: kp m)).2 = kp k ++ (.k x.length :: .i y :: kp m) := by
  have lx := List.length_pos_iff.2 hx
  have ly := List.length_pos_iff.2 hy
  have key : ∀ g, m + m + 2 ≤ g → (xf g (.i x :: kp m) (.i y :: kp m)).2 = .k x.length :: .i y :: kp m := by
    intro g hg
    obtain ⟨g, rfl⟩ : ∃ h, g = h + 2 := ⟨g - 2, by omega⟩
    rw [show g + 2 = (g + 1) + 1 from rfl, xf_i1, xf_i2 _ _ _ _ (kp_noins m), kp_kp m g (by omega)]
  by_cases hk : k = 0
  · subst hk
    exact key f (by omega)
  · obtain ⟨f, rfl⟩ : ∃ g, f = g + 1 := ⟨f - 1, by omega⟩
    rw [kp_pos hk]
    simp only [List.cons_append, List.nil_append]
    rw [xf_2 _ _ _ _ _ rfl rfl]
    simp only [P.z, Nat.min_self, xe2, pass_eq (p := .k k) (n := k) rfl]
    rw [key f (by omega)]
    rfl
theorem first_app (n k : Nat) (x y t : List Nat) (hk : k ≤ n) (ht : t.length = n) (hx : x ≠ []) :
    app (app t (kp k ++ .i x :: kp (n - k))) (kp k ++ (.k x.length :: .i y :: kp (n - k))) = t.take k ++ x ++ y ++ t.drop k := by
  obtain ⟨k1, k2, k3⟩ := kp_F k
  have e0 : (t.drop k).take (n - k) = t.drop k := List.take_of_length_le (by rw [List.length_drop]; omega)
  have e1 : app t (kp k ++ .i x :: kp (n - k)) = t.take k ++ (x ++ t.drop k) := by
    rw [app_app, kp_app, k1]
    simp only [app, kp_app]
    rw [e0]
  have hl : (t.take k).length = k := by rw [List.length_take]; omega
  rw [e1, app_app, kp_app, k1, List.take_append_of_le_length (by omega), List.take_of_length_le (by omega : (t.take k).length ≤ k)]
  have e2 : (t.take k ++ (x ++ t.drop k)).drop k = x ++ t.drop k := by rw [List.drop_append_of_le_length (by omega), List.drop_of_length_le (by omega)]; rfl
  rw [e2]
  simp only [app, kp_app]
  rw [List.take_left, List.drop_left, e0]
  simp [List.append_assoc]
theorem trY_app {o q : Op} (h1 : check o = 0) (h2 : check q = 0) (h3 : sumF o = sumF q) (h4 : sumT o + sumT q ≤ 4000) (t : List Nat) :
    app t (opP (trY o q)) = app t (xf (ZS (opP o) + ZS (opP q)) (opP o) (opP q)).2 := by
  have hI1 := opIs h1
  have hI2 := opIs h2
  have hFF : FS (opP o) = FS (opP q) := by have := hI1.f; have := hI2.f; omega
  obtain ⟨l1, l2, l3, l4, l5, l6⟩ := xf_laws _ _ _ hI1.ok hI2.ok hFF (Nat.le_refl _)
  have lT := xf_TS (ZS (opP o) + ZS (opP q)) _ _ hI1.ok hI2.ok hFF
  have e1 := hI1.t
  have e2 := hI2.t
  have e3 := hI1.f
  unfold trY
  rw [opOfP_app l2 (by omega) (by omega)]
end Go.Proofs.YtajijhnnnekhmaaDoor
