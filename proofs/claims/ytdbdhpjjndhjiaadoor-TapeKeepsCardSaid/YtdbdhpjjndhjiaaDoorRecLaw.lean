/- Plain: a record is read as it was written. No program in sight. -/
import Derived.Test.YtdbdhpjjndhjiaaDoorRecMake
set_option linter.unusedSimpArgs false
namespace Go.Proofs.YtdbdhpjjndhjiaaDoor
open Go.RowKit

theorem done_nil : Rd.done ⟨[], 0⟩ = ⟨[], 0⟩ := by unfold Rd.done; simp
theorem done_more {l : Bs} (h : l ≠ []) : Rd.done ⟨l, 0⟩ = ⟨[], 4⟩ := by unfold Rd.done Rd.fail; simp [h]
theorem rd_enc {x : Rec} (h : checkRecord x = 0) (l : Bs) : rdRec (recB x ++ l) = (x, Rd.done ⟨l, 0⟩) := by
  obtain ⟨z1, z2, z3, z4⟩ := rec_zero h
  obtain ⟨f1, f2, f3⟩ := fine_of z4
  obtain ⟨ep, o⟩ := x
  simp only at *
  obtain ⟨k, rfl⟩ : ∃ k : Nat, ep = (k : Int) := ⟨ep.toNat, by omega⟩
  have hk : k < 268435456 := by omega
  unfold rdRec
  by_cases h0 : k = 0
  · subst h0
    have hB : recB ⟨((0 : Nat) : Int), o⟩ ++ l = numB 0 ++ (opB o ++ l) := by unfold recB; simp
    rw [hB, (code_num hk).all]
    simp only [if_true]
    rw [(code_op (by omega) f1).all]
    rfl
  · have hB : recB ⟨(k : Int), o⟩ ++ l = numB k ++ l := by unfold recB; simp [h0]
    rw [hB, (code_num hk).all]
    simp only
    rw [if_neg h0, z3 (by omega)]
theorem partB_len {p : P} (h : p.ok) (hF : p.F ≤ 4000) (hT : p.T ≤ 4000) : (partB p.part).length ≤ 3 + 4 * p.T := by
  cases p with
  | k n =>
    have h2 := numB_len2 (n := n) (by simp only [P.F] at hF; omega)
    have h1 : (numB 1).length = 1 := by rw [numB_small (by omega)]; rfl
    have e : partB (P.k n).part = numB 1 ++ numB n := rfl
    rw [e, List.length_append]; omega
  | d n =>
    have h2 := numB_len2 (n := n) (by simp only [P.F] at hF; omega)
    have h1 : (numB 3).length = 1 := by rw [numB_small (by omega)]; rfl
    have e : partB (P.d n).part = numB 3 ++ numB n := rfl
    rw [e, List.length_append]; omega
  | i t =>
    have hz := enc_size t h.2
    have hT' : t.length ≤ 4000 := hT
    have h1 : (numB 2).length = 1 := by rw [numB_small (by omega)]; rfl
    have h2 := numB_len2 (n := (Uni.enc t).size) (by omega)
    have h3 : (Uni.enc t).data.toList.length = (Uni.enc t).size := Array.length_toList
    have e : partB (P.i t).part = numB 2 ++ (numB (Uni.enc t).size ++ (Uni.enc t).data.toList) := rfl
    rw [e, List.length_append, List.length_append]
    simp only [P.T]; omega
theorem parts_len : ∀ l : List P, (∀ p ∈ l, p.ok) → FS l ≤ 4000 → TS l ≤ 4000 → ((l.map P.part).flatMap partB).length ≤ 3 * l.length + 4 * TS l
  | [], _, _, _ => by simp
  | p :: l, h, hF, hT => by
    simp only [FS, TS] at hF hT
    have h1 := partB_len (h p (List.mem_cons_self ..)) (by omega) (by omega)
    have h2 := parts_len l (fun q hq => h q (List.mem_cons_of_mem _ hq)) (by omega) (by omega)
    rw [List.map_cons, List.flatMap_cons, List.length_append, List.length_cons]
    simp only [TS]; omega
theorem op_len {o : Op} (h : check o = 0) : (opB o).length ≤ 40005 := by
  have hI := opIs h
  have h1 := parts_len (opP o) hI.ok hI.fl hI.tl
  have h2 := (check_zero h).1
  have h3 := numB_len2 (n := o.length) (by omega)
  have h4 : (opP o).length = o.length := by unfold opP; simp
  have h5 : (opP o).map P.part = o := hI.eq.symm
  rw [h5, h4] at h1
  have h6 := hI.tl
  unfold opB
  rw [List.length_append]; omega
theorem rec_len {x : Rec} (h : checkRecord x = 0) : (recB x).length ≤ 40010 ∧ 1 ≤ (recB x).length := by
  obtain ⟨z1, z2, z3, z4⟩ := rec_zero h
  have h1 := op_len z4
  have h2 := numB_len3 (n := x.epoch.toNat) (by omega)
  have h3 := numB_len x.epoch.toNat
  unfold recB
  split
  · rw [List.length_append]; omega
  · rw [List.append_nil]; omega
theorem dec_enc {x : Rec} (h : checkRecord x = 0) : decRec (recB x) = (x, 0) := by
  have hr := rd_enc h []
  rw [List.append_nil, done_nil] at hr
  have hf : recFault (recB x) = 0 := by unfold recFault; rw [hr]; simpa using h
  unfold decRec
  rw [if_neg (by have := rec_len h; omega), if_pos hf, hr]
theorem dec_more {x : Rec} (h : checkRecord x = 0) {l : Bs} (hl : l ≠ []) (hs : l.length ≤ 1000) : decRec (recB x ++ l) = (⟨0, []⟩, 4) := by
  have hr := rd_enc h l
  rw [done_more hl] at hr
  have hf : recFault (recB x ++ l) = 4 := by unfold recFault; rw [hr]; rfl
  unfold decRec
  rw [if_neg (by rw [List.length_append]; have := rec_len h; omega), if_neg (by rw [hf]; decide), hf]
theorem done_inv {r : Rd} (h : r.done.fault = 0) : r = ⟨[], 0⟩ := by
  obtain ⟨l, f⟩ := r
  unfold Rd.done at h
  split at h
  · unfold Rd.fail at h
    rename_i hc
    simp only at h hc
    rw [if_pos hc.1] at h
    exact absurd h (by decide)
  · rename_i hc
    simp only at h hc
    subst h
    have : l = [] := by
      by_cases hl : l = []
      · exact hl
      · exact absurd ⟨rfl, hl⟩ hc
    rw [this]
theorem parts_fault (n : Nat) (r : Rd) (h : r.fault ≠ 0) : (Rd.parts n r).2 = r := by
  cases n with
  | zero => rfl
  | succ n => unfold Rd.parts; rw [if_neg h]
theorem dec_inv {b : Bs} (h : (decRec b).2 = 0) : checkRecord (decRec b).1 = 0 ∧ recB (decRec b).1 = b := by
  unfold decRec at h ⊢
  by_cases hl : 50000 < b.length
  · rw [if_pos hl] at h; exact absurd h (by decide)
  · rw [if_neg hl] at h ⊢
    by_cases hf : recFault b = 0
    · rw [if_pos hf]
      simp only
      have hf2 := hf
      unfold recFault at hf2
      by_cases h0 : (rdRec b).2.fault = 0
      · rw [if_pos h0] at hf2
        refine ⟨hf2, ?_⟩
        unfold rdRec at h0 hf2 ⊢
        generalize ht : Rd.take ⟨b, 0⟩ = x at *
        obtain ⟨k, q⟩ := x
        simp only at *
        by_cases hk : k = 0
        · subst hk
          simp only [if_true] at *
          have hd := done_inv h0
          have hqf : q.fault = 0 := by
            by_cases hq : q.fault = 0
            · exact hq
            · have := congrArg Rd.fault hd
              unfold Rd.op at this
              rw [fault_take q hq, parts_fault _ _ hq] at this
              exact absurd this hq
          obtain ⟨t1, t2⟩ := take_inv ht hqf
          obtain ⟨qr, qf⟩ := q
          simp only at hqf t2
          subst hqf
          obtain ⟨o1, o2, o3⟩ := op_inv (b := qr) (o := (Rd.op ⟨qr, 0⟩).1) (r := (Rd.op ⟨qr, 0⟩).2) rfl (by rw [hd])
          rw [hd] at o3
          simp only [List.append_nil] at o3
          unfold recB
          simp only [if_true]
          rw [t2, ← o3]
          rfl
        · rw [if_neg hk] at h0 hf2 ⊢
          simp only at *
          have hd := done_inv h0
          subst hd
          obtain ⟨t1, t2⟩ := take_inv ht rfl
          unfold recB
          simp only [Int.toNat_natCast]
          rw [if_neg (by omega), t2]
      · rw [if_neg h0] at hf2
        exact absurd hf2 h0
    · rw [if_neg hf] at h
      exact absurd h hf
theorem dec_bad {b : Bs} (h : (decRec b).2 ≠ 0) : (decRec b).1 = ⟨0, []⟩ := by
  unfold decRec at h ⊢
  by_cases hl : 50000 < b.length
  · rw [if_pos hl]
  · rw [if_neg hl] at h ⊢
    by_cases hf : recFault b = 0
    · rw [if_pos hf] at h; exact absurd rfl h
    · rw [if_neg hf]
end Go.Proofs.YtdbdhpjjndhjiaaDoor
