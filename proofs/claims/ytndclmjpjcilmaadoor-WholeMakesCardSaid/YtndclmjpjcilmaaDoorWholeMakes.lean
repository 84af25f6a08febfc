/- The walk of WholeMakes. -/
import Derived.Test.YtndclmjpjcilmaaDoorWhole
set_option linter.unusedSimpArgs false
namespace Go.Proofs.YtndclmjpjcilmaaDoor
open Go.RowKit

/-- the operation that makes one text of another -/
theorem whole_ok {s t : Str} (h0 : checkText s = 0) (h1 : checkText t = 0) :
    wholeE s t = 0 ∧ check (wholeO s t) = 0 ∧ sumF (wholeO s t) = rc s ∧ applyS s (wholeO s t) = t := by
  have hv0 := valid_of h0
  have hv1 := valid_of h1
  have hE : wholeE s t = 0 := by unfold wholeE; rw [if_neg (by simpa using h0)]; exact h1
  have hO : wholeO s t = (addR (addR [] ⟨2, 0, t⟩) ⟨3, rc s, noText⟩).reverse := by unfold wholeO; rw [if_pos hE]
  have e1 : (⟨2, 0, t⟩ : Part) = (P.i (rns t)).part := by simp only [P.part, enc_rns hv1.1]
  have e2 : (⟨3, rc s, noText⟩ : Part) = (P.d (rns s).length).part := by simp only [P.part, ← rc_rns]
  have hi : ∀ l, P.i (rns t) = .i l → ∀ r ∈ l, Uni.vr r := fun l h => by injection h with h; subst h; exact rns_vr hv1.1
  have hd : ∀ l, P.d (rns s).length = .i l → ∀ r ∈ l, Uni.vr r := fun l h => by cases h
  have ok1 := addP_ok (.i (rns t)) hi [] (by simp)
  have a1 := addR_part (.i (rns t)) hi [] (by simp)
  have a2 := addR_part (.d (rns s).length) hd _ ok1
  rw [List.map_nil] at a1
  have hO2 : wholeO s t = (addP (addP [] (.i (rns t))) (.d (rns s).length)).reverse.map P.part := by
    rw [hO, e1, e2, a1, a2, List.map_reverse]
  have hc := addP_can (.d (rns s).length) hd _ (addP_can (.i (rns t)) hi [] trivial)
  have hF : FS (addP (addP [] (.i (rns t))) (.d (rns s).length)) = (rns s).length := by rw [FS_addP, FS_addP]; simp [FS, P.F]
  have hT : TS (addP (addP [] (.i (rns t))) (.d (rns s).length)) = (rns t).length := by rw [TS_addP, TS_addP]; simp [TS, P.T]
  have r0 := rc_rns s
  have r1 := rc_rns t
  have hI := opIs_of hc (by omega) (by omega)
  rw [← hO2] at hI
  have hck := hI.check
  have hsf : sumF (wholeO s t) = rc s := by rw [hI.f, FS_rev, hF, r0]
  refine ⟨hE, hck, hsf, ?_⟩
  obtain ⟨_, hS, _⟩ := apply_good h0 hck hsf
  rw [hS, hI.opP, app_addP, List.reverse_cons, app_app, app_addP]
  have e3 : app (rns s) [P.i (rns t)] = rns t := by simp [app]
  rw [List.reverse_cons, List.reverse_nil, List.nil_append, e3]
  simp only [app, List.append_nil]
  exact enc_rns hv1.1
theorem whole_bad (t : Str) : wholeE ⟨#[255]⟩ t = 4 := by
  have h : checkText ⟨#[255]⟩ = 4 := by
    have : valid ⟨#[255]⟩ = false := rfl
    unfold checkText; rw [if_pos this]
  unfold wholeE
  rw [h, if_pos (by decide)]

set_option maxRecDepth 100000 in
set_option maxHeartbeats 3000000 in
theorem wholeMakes_walk (w : World) (hg : Good w) (s t : Str) (hs : s.size ≤ maxLen) (ht : t.size ≤ maxLen) :
    Calls Tryd.prog 12 #[.string s, .string t] w fun e w' => e = .returned (.bool true) ∧ Below w.heap.size w w' := by
  have HL := Lib.hid (letters_any s 30 w hs (by omega))
  have HM := Lib.hid (fun W => letters_any t 30 W ht (by omega))
  obtain ⟨s0, s1, s2, s3⟩ := letters_ok s 30 (by omega)
  obtain ⟨t0, t1, t2, t3⟩ := letters_ok t 30 (by omega)
  generalize letters s 30 = S at *
  generalize letters t 30 = T at *
  obtain ⟨w0, w1, w2, w3⟩ := whole_ok s0 t0
  have HW := Lib.hid (fun W hg => whole_any S T W hg (by omega) (by omega))
  have hbad := whole_bad T
  have HX := Lib.hid (fun W hg => whole_any ⟨#[255]⟩ T W hg (by show 1 ≤ _; omega) (by omega))
  rw [w0] at HW
  rw [hbad] at HX
  obtain ⟨p0, -⟩ := apply_good s0 w1 w2
  have HA := Lib.hid (fun a n c W hg hr => apply_any S (wholeO S T) a n c W hg hr (by omega))
  rw [p0, w3] at HA
  clear hs ht s0 s1 s2 s3 t0 t1 t2 t3 w0 w1 w2 w3 p0 hbad
  generalize wholeO S T = o at *
  generalize wholeO ⟨#[255]⟩ T = o2 at *
  go_enter Tryd.func12, Tryd.ntmps12
  go_wp2_with fail
  refine HL.out.mono ?_
  rintro e w1 ⟨rfl, hb1⟩
  have hg1 := hg.below' hb1
  have hB1 := hb1
  clear HL
  go_wp2_with fail
  refine (HM.out _).mono ?_
  rintro e w2 ⟨rfl, hb2⟩
  have hg2 := hg1.below' hb2
  have hB2 := hB1.trans (hb2.mono hB1.size)
  clear HM hb1 hb2 hB1 hg1
  go_wp2_with fail
  refine (HW.out _ hg2).mono ?_
  rintro e w3 ⟨a3, c3, rfl, ho3, hb3⟩
  generalize o.length = m at *
  have hg3 := hg2.below' hb3
  have hB3 := hB2.trans (hb3.mono hB2.size)
  clear HW hb3 hB2 hg2
  go_wp2_with fail
  refine (HA.out _ _ _ _ hg3 ho3).mono ?_
  rintro e w4 ⟨rfl, hb4⟩
  have hg4 := hg3.below' hb4
  have hB4 := hB3.trans (hb4.mono hB3.size)
  clear HA hb4 hB3 hg3 ho3
  go_wp2_with fail
  refine (HX.out _ hg4).mono ?_
  rintro e w5 ⟨a5, c5, rfl, _, hb5⟩
  have hB5 := hB4.trans (hb5.mono hB4.size)
  clear HX hb5 hB4 hg4
  go_wp2_with fail
  go_ret
  exact ⟨rfl, hB5⟩
end Go.Proofs.YtndclmjpjcilmaaDoor
