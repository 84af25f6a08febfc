/- The first texts of this claim, one behind the other. -/
import Derived.Test.YtdbdhpjjndhjiaaDoorRecMake
import Derived.Test.YtdbdhpjjndhjiaaDoorPacketMake
import Derived.Test.YtdbdhpjjndhjiaaDoorCheckPacket
import Derived.Test.YtdbdhpjjndhjiaaDoorDec
import Derived.Test.YtdbdhpjjndhjiaaDoorSameOp
import Derived.Test.YtdbdhpjjndhjiaaDoorUp
set_option linter.unusedSimpArgs false
namespace Go.Proofs.YtdbdhpjjndhjiaaDoor
open Go.RowKit

theorem done_nil : Rd.done ⟨[], 0⟩ = ⟨[], 0⟩ := by unfold Rd.done; simp
theorem done_more {l : Bs} (h : l ≠ []) : Rd.done ⟨l, 0⟩ = ⟨[], 4⟩ := by unfold Rd.done Rd.fail; simp [h]
theorem rd_enc {x : Rec} (h : checkRecord x = 0) (l : Bs) : rdRec (recB x ++ l) = (x, Rd.done ⟨l, 0⟩) := by
  obtain ⟨z1, z2, z3, z4⟩ := rec_zero h
  obtain ⟨f1, f2, f3⟩ := fine_of z4
  obtain ⟨ep, o⟩ := x
  simp only at *
  obtain ⟨k, rfl⟩ : ∃ k : Nat, ep = (k : Int) := ⟨ep.toNat, by omega⟩
  have hk : k < 268435456 := by omega
  unfold rdRec
  by_cases h0 : k = 0
  · subst h0
    have hB : recB ⟨((0 : Nat) : Int), o⟩ ++ l = numB 0 ++ (opB o ++ l) := by unfold recB; simp
    rw [hB, (code_num hk).all]
    simp only [if_true]
    rw [(code_op (by omega) f1).all]
    rfl
  · have hB : recB ⟨(k : Int), o⟩ ++ l = numB k ++ l := by unfold recB; simp [h0]
    rw [hB, (code_num hk).all]
    simp only
    rw [if_neg h0, z3 (by omega)]
theorem partB_len {p : P} (h : p.ok) (hF : p.F ≤ 4000) (hT : p.T ≤ 4000) : (partB p.part).length ≤ 3 + 4 * p.T := by
  cases p with
  | k n =>
    have h2 := numB_len2 (n := n) (by simp only [P.F] at hF; omega)
    have h1 : (numB 1).length = 1 := by rw [numB_small (by omega)]; rfl
    have e : partB (P.k n).part = numB 1 ++ numB n := rfl
    rw [e, List.length_append]; omega
  | d n =>
    have h2 := numB_len2 (n := n) (by simp only [P.F] at hF; omega)
    have h1 : (numB 3).length = 1 := by rw [numB_small (by omega)]; rfl
    have e : partB (P.d n).part = numB 3 ++ numB n := rfl
    rw [e, List.length_append]; omega
  | i t =>
    have hz := enc_size t h.2
    have hT' : t.length ≤ 4000 := hT
    have h1 : (numB 2).length = 1 := by rw [numB_small (by omega)]; rfl
    have h2 := numB_len2 (n := (Uni.enc t).size) (by omega)
    have h3 : (Uni.enc t).data.toList.length = (Uni.enc t).size := Array.length_toList
    have e : partB (P.i t).part = numB 2 ++ (numB (Uni.enc t).size ++ (Uni.enc t).data.toList) := rfl
    rw [e, List.length_append, List.length_append]
    simp only [P.T]; omega
theorem parts_len : ∀ l : List P, (∀ p ∈ l, p.ok) → FS l ≤ 4000 → TS l ≤ 4000 → ((l.map P.part).flatMap partB).length ≤ 3 * l.length + 4 * TS l
  | [], _, _, _ => by simp
  | p :: l, h, hF, hT => by
    simp only [FS, TS] at hF hT
    have h1 := partB_len (h p (List.mem_cons_self ..)) (by omega) (by omega)
    have h2 := parts_len l (fun q hq => h q (List.mem_cons_of_mem _ hq)) (by omega) (by omega)
    rw [List.map_cons, List.flatMap_cons, List.length_append, List.length_cons]
    simp only [TS]; omega
theorem op_len {o : Op} (h : check o = 0) : (opB o).length ≤ 40005 := by
  have hI := opIs h
  have h1 := parts_len (opP o) hI.ok hI.fl hI.tl
  have h2 := (check_zero h).1
  have h3 := numB_len2 (n := o.length) (by omega)
  have h4 : (opP o).length = o.length := by unfold opP; simp
  have h5 : (opP o).map P.part = o := hI.eq.symm
  rw [h5, h4] at h1
  have h6 := hI.tl
  unfold opB
  rw [List.length_append]; omega
theorem rec_len {x : Rec} (h : checkRecord x = 0) : (recB x).length ≤ 40010 ∧ 1 ≤ (recB x).length := by
  obtain ⟨z1, z2, z3, z4⟩ := rec_zero h
  have h1 := op_len z4
  have h2 := numB_len3 (n := x.epoch.toNat) (by omega)
  have h3 := numB_len x.epoch.toNat
  unfold recB
  split
  · rw [List.length_append]; omega
  · rw [List.append_nil]; omega
theorem dec_enc {x : Rec} (h : checkRecord x = 0) : decRec (recB x) = (x, 0) := by
  have hr := rd_enc h []
  rw [List.append_nil, done_nil] at hr
  have hf : recFault (recB x) = 0 := by unfold recFault; rw [hr]; simpa using h
  unfold decRec
  rw [if_neg (by have := rec_len h; omega), if_pos hf, hr]
theorem dec_more {x : Rec} (h : checkRecord x = 0) {l : Bs} (hl : l ≠ []) (hs : l.length ≤ 1000) : decRec (recB x ++ l) = (⟨0, []⟩, 4) := by
  have hr := rd_enc h l
  rw [done_more hl] at hr
  have hf : recFault (recB x ++ l) = 4 := by unfold recFault; rw [hr]; rfl
  unfold decRec
  rw [if_neg (by rw [List.length_append]; have := rec_len h; omega), if_neg (by rw [hf]; decide), hf]
theorem done_inv {r : Rd} (h : r.done.fault = 0) : r = ⟨[], 0⟩ := by
  obtain ⟨l, f⟩ := r
  unfold Rd.done at h
  split at h
  · unfold Rd.fail at h
    rename_i hc
    simp only at h hc
    rw [if_pos hc.1] at h
    exact absurd h (by decide)
  · rename_i hc
    simp only at h hc
    subst h
    have : l = [] := by
      by_cases hl : l = []
      · exact hl
      · exact absurd ⟨rfl, hl⟩ hc
    rw [this]
theorem parts_fault (n : Nat) (r : Rd) (h : r.fault ≠ 0) : (Rd.parts n r).2 = r := by
  cases n with
  | zero => rfl
  | succ n => unfold Rd.parts; rw [if_neg h]
theorem dec_inv {b : Bs} (h : (decRec b).2 = 0) : checkRecord (decRec b).1 = 0 ∧ recB (decRec b).1 = b := by
  unfold decRec at h ⊢
  by_cases hl : 50000 < b.length
  · rw [if_pos hl] at h; exact absurd h (by decide)
  · rw [if_neg hl] at h ⊢
    by_cases hf : recFault b = 0
    · rw [if_pos hf]
      simp only
      have hf2 := hf
      unfold recFault at hf2
      by_cases h0 : (rdRec b).2.fault = 0
      · rw [if_pos h0] at hf2
        refine ⟨hf2, ?_⟩
        unfold rdRec at h0 hf2 ⊢
        generalize ht : Rd.take ⟨b, 0⟩ = x at *
        obtain ⟨k, q⟩ := x
        simp only at *
        by_cases hk : k = 0
        · subst hk
          simp only [if_true] at *
          have hd := done_inv h0
          have hqf : q.fault = 0 := by
            by_cases hq : q.fault = 0
            · exact hq
            · have := congrArg Rd.fault hd
              unfold Rd.op at this
              rw [fault_take q hq, parts_fault _ _ hq] at this
              exact absurd this hq
          obtain ⟨t1, t2⟩ := take_inv ht hqf
          obtain ⟨qr, qf⟩ := q
          simp only at hqf t2
          subst hqf
          obtain ⟨o1, o2, o3⟩ := op_inv (b := qr) (o := (Rd.op ⟨qr, 0⟩).1) (r := (Rd.op ⟨qr, 0⟩).2) rfl (by rw [hd])
          rw [hd] at o3
          simp only [List.append_nil] at o3
          unfold recB
          simp only [if_true]
          rw [t2, ← o3]
          rfl
        · rw [if_neg hk] at h0 hf2 ⊢
          simp only at *
          have hd := done_inv h0
          subst hd
          obtain ⟨t1, t2⟩ := take_inv ht rfl
          unfold recB
          simp only [Int.toNat_natCast]
          rw [if_neg (by omega), t2]
      · rw [if_neg h0] at hf2
        exact absurd hf2 h0
    · rw [if_neg hf] at h
      exact absurd h hf
theorem dec_bad {b : Bs} (h : (decRec b).2 ≠ 0) : (decRec b).1 = ⟨0, []⟩ := by
  unfold decRec at h ⊢
  by_cases hl : 50000 < b.length
  · rw [if_pos hl]
  · rw [if_neg hl] at h ⊢
    by_cases hf : recFault b = 0
    · rw [if_pos hf] at h; exact absurd rfl h
    · rw [if_neg hf]
end Go.Proofs.YtdbdhpjjndhjiaaDoor

set_option linter.unusedSimpArgs false
namespace Go.Proofs.YtdbdhpjjndhjiaaDoor
open Go.RowKit

/-! ### reading one thing behind another -/
theorem Code.seq {α β : Type} {D : Rd → α × Rd} {x : α} {e e' : Bs} {G : α → Rd → β × Rd} {y : β} (h : Code D x e) (h' : Code (G x) y e') (h5 : ∀ a, (G a ⟨[], 5⟩).2 = ⟨[], 5⟩) : Code (fun r => G (D r).1 (D r).2) y (e ++ e') := by
  refine ⟨fun l => ?_, fun j hj => ?_⟩
  · rw [List.append_assoc, h.all]
    exact h'.all l
  · rw [List.length_append] at hj
    by_cases hl : j < e.length
    · rw [take_app_ge hl, h.torn j hl]; exact h5 _
    · rw [take_app_lt hl, h.all]; exact h'.torn _ (by omega)
theorem Code.map {α β : Type} {D : Rd → α × Rd} {x : α} {e : Bs} (f : α → β) (h : Code D x e) : Code (fun r => (f (D r).1, (D r).2)) (f x) e := by
  refine ⟨fun l => ?_, fun j hj => ?_⟩
  · rw [h.all]
  · exact h.torn j hj
theorem Code.eq {α : Type} {D : Rd → α × Rd} {x : α} {e e' : Bs} (h : Code D x e) (he : e = e') : Code D x e' := he ▸ h
theorem take_5 : (Rd.take ⟨[], 5⟩) = (0, ⟨[], 5⟩) := fault_take _ (by decide)
theorem op_5 : (Rd.op ⟨[], 5⟩).2 = ⟨[], 5⟩ := by unfold Rd.op; rw [take_5]; exact parts_5 _
/-- what reads without a fault had no fault -/
theorem take_keep {r : Rd} (h : r.take.2.fault = 0) : r.fault = 0 := by
  by_cases hf : r.fault = 0
  · exact hf
  · rw [fault_take r hf] at h; exact absurd h hf
theorem text_keep {r : Rd} (h : r.text.2.fault = 0) : r.fault = 0 := by
  by_cases hf : r.fault = 0
  · exact hf
  · unfold Rd.text at h
    rw [fault_take r hf, if_neg (by simp)] at h
    exact absurd h hf
theorem op_keep {r : Rd} (h : r.op.2.fault = 0) : r.fault = 0 := by
  by_cases hf : r.fault = 0
  · exact hf
  · unfold Rd.op at h
    rw [fault_take r hf, parts_fault _ _ hf] at h
    exact absurd h hf
theorem take_in {r : Rd} (hr : r.take.2.fault = 0) : r.take.1 < 268435456 ∧ r.rest = numB r.take.1 ++ r.take.2.rest := by
  have h0 := take_keep hr
  obtain ⟨b, f⟩ := r
  simp only at h0
  subst h0
  exact take_inv rfl hr
theorem text_in {r : Rd} (hr : r.text.2.fault = 0) : r.text.1.size < 268435456 ∧ r.rest = textB r.text.1 ++ r.text.2.rest := by
  have h0 := text_keep hr
  obtain ⟨b, f⟩ := r
  simp only at h0
  subst h0
  exact text_inv rfl hr
theorem op_in {r : Rd} (hr : r.op.2.fault = 0) : r.rest = opB r.op.1 ++ r.op.2.rest := by
  have h0 := op_keep hr
  obtain ⟨b, f⟩ := r
  simp only at h0
  subst h0
  exact (op_inv rfl hr).2.2

/-! ### frames -/
def frB (f : Fr) : Bs := numB f.kind.toNat ++ if f.kind = 1 then numB f.heard.toNat ++ opB f.op else numB f.epoch.toNat ++ if f.kind = 3 then textB f.text else numB f.heard.toNat
/-- a frame behind its kind -/
def Rd.frameK (k : Nat) (r : Rd) : Fr × Rd :=
  if k = 1 then (⟨k, r.take.1, 0, r.take.2.op.1, noText⟩, r.take.2.op.2)
  else if k = 3 then (⟨k, 0, r.take.1, [], r.take.2.text.1⟩, r.take.2.text.2)
  else (⟨k, r.take.2.take.1, r.take.1, [], noText⟩, r.take.2.take.2)
def Rd.frame (r : Rd) : Fr × Rd := Rd.frameK r.take.1 r.take.2
def Fr.check (f : Fr) : Int := checkFrame f.kind f.heard f.epoch f.op f.text
theorem frame_zero {f : Fr} (h : f.check = 0) : 0 ≤ f.heard ∧ f.heard ≤ 1048576 ∧ 0 ≤ f.epoch ∧ f.epoch ≤ 1048576 ∧ check f.op = 0 ∧ checkText f.text = 0 ∧
    (f.kind = 1 ∧ f.epoch = 0 ∧ f.text = noText ∨ f.kind = 2 ∧ 0 < f.epoch ∧ f.op = [] ∧ f.text = noText ∨ f.kind = 3 ∧ 0 < f.epoch ∧ f.heard = 0 ∧ f.op = []) := by
  unfold Fr.check checkFrame at h
  by_cases h1 : f.kind < 1 ∨ 3 < f.kind
  · rw [if_pos h1] at h; exact absurd h (by decide)
  · rw [if_neg h1] at h
    by_cases h2 : num f.heard = false ∨ num f.epoch = false
    · rw [if_pos h2] at h; exact absurd h (by decide)
    · rw [if_neg h2] at h
      have n1 : num f.heard = true := by cases hh : num f.heard with | true => rfl | false => exact absurd (.inl hh) h2
      have n2 : num f.epoch = true := by cases hh : num f.epoch with | true => rfl | false => exact absurd (.inr hh) h2
      unfold num at n1 n2
      simp at n1 n2
      by_cases h3 : check f.op = 0
      · rw [if_neg (by simpa using h3)] at h
        by_cases h4 : checkText f.text = 0
        · rw [if_neg (by simpa using h4)] at h
          by_cases h5 : frameOdd f.kind f.heard f.epoch f.op.length f.text = true
          · rw [if_pos h5] at h; exact absurd h (by decide)
          · refine ⟨n1.1, n1.2, n2.1, n2.2, h3, h4, ?_⟩
            unfold frameOdd at h5
            have hk : f.kind = 1 ∨ f.kind = 2 ∨ f.kind = 3 := by omega
            rcases hk with hk | hk | hk
            · rw [hk] at h5
              simp at h5
              exact .inl ⟨hk, by omega, eq_noText h5.2⟩
            · rw [hk] at h5
              simp at h5
              exact .inr (.inl ⟨hk, by omega, h5.1.2, eq_noText h5.2⟩)
            · rw [hk] at h5
              simp at h5
              exact .inr (.inr ⟨hk, by omega, by omega, h5.1.2⟩)
        · rw [if_pos h4] at h; exact absurd h h4
      · rw [if_pos h3] at h; exact absurd h h3
theorem checkText_size {s : Str} (h : checkText s = 0) : s.size ≤ 16000 := by
  have hv : valid s = true := by
    unfold checkText at h
    cases hv : valid s with
    | true => rfl
    | false => rw [hv] at h; simp at h
  have hl : rc s ≤ 4000 := by
    unfold checkText at h
    rw [hv] at h
    by_cases h1 : 4000 < rc s
    · simp [h1] at h
    · omega
  have he := enc_rns hv
  have hz := enc_size (rns s) (rns_vr hv)
  rw [he] at hz
  rw [rc_rns] at hl
  omega
theorem frameK_5 (k : Nat) : (Rd.frameK k ⟨[], 5⟩).2 = ⟨[], 5⟩ := by
  unfold Rd.frameK
  rw [take_5]
  by_cases h1 : k = 1
  · rw [if_pos h1]; exact op_5
  · rw [if_neg h1]
    by_cases h3 : k = 3
    · rw [if_pos h3]; exact text_5
    · rw [if_neg h3]; show (Rd.take ⟨[], 5⟩).2 = _; rw [take_5]
theorem code_frame {f : Fr} (h : f.check = 0) : Code Rd.frame f (frB f) := by
  obtain ⟨z1, z2, z3, z4, z5, z6, z7⟩ := frame_zero h
  obtain ⟨f1, f2, f3⟩ := fine_of z5
  have hts := checkText_size z6
  obtain ⟨k, h', ep, o, t⟩ := f
  simp only at *
  obtain ⟨hd, rfl⟩ : ∃ m : Nat, h' = (m : Int) := ⟨h'.toNat, by omega⟩
  obtain ⟨e, rfl⟩ : ∃ m : Nat, ep = (m : Int) := ⟨ep.toNat, by omega⟩
  have ch := code_num (n := hd) (by omega)
  have ce := code_num (n := e) (by omega)
  rcases z7 with ⟨rfl, he, rfl⟩ | ⟨rfl, he, rfl, rfl⟩ | ⟨rfl, he, hh, rfl⟩
  · have he0 : e = 0 := by omega
    subst he0
    have c1 : Code (Rd.frameK 1) ⟨1, hd, 0, o, noText⟩ (numB hd ++ opB o) := by
      refine Code.seq (D := Rd.take) (G := fun n q => ((⟨1, n, 0, q.op.1, noText⟩ : Fr), q.op.2)) ch ?_ (fun a => op_5)
      exact (code_op (by omega) f1).map (fun o => (⟨1, hd, 0, o, noText⟩ : Fr))
    exact (Code.seq (G := Rd.frameK) (code_num (n := 1) (by decide)) c1 frameK_5).eq (by simp [frB])
  · have c1 : Code (Rd.frameK 2) ⟨2, hd, e, [], noText⟩ (numB e ++ numB hd) := by
      refine Code.seq (D := Rd.take) (G := fun n q => ((⟨2, q.take.1, n, [], noText⟩ : Fr), q.take.2)) ce ?_ (fun a => by show (Rd.take ⟨[], 5⟩).2 = _; rw [take_5])
      exact ch.map (fun m : Nat => (⟨2, m, e, [], noText⟩ : Fr))
    exact (Code.seq (G := Rd.frameK) (code_num (n := 2) (by decide)) c1 frameK_5).eq (by simp [frB])
  · have hh0 : hd = 0 := by omega
    subst hh0
    have c1 : Code (Rd.frameK 3) ⟨3, 0, e, [], t⟩ (numB e ++ textB t) := by
      refine Code.seq (D := Rd.take) (G := fun n q => ((⟨3, 0, n, [], q.text.1⟩ : Fr), q.text.2)) ce ?_ (fun a => text_5)
      exact (code_text (by omega)).map (fun t => (⟨3, 0, e, [], t⟩ : Fr))
    exact (Code.seq (G := Rd.frameK) (code_num (n := 3) (by decide)) c1 frameK_5).eq (by simp [frB])
theorem frame_keep {r : Rd} (h : r.frame.2.fault = 0) : r.take.2.fault = 0 := by
  unfold Rd.frame Rd.frameK at h
  by_cases h1 : r.take.1 = 1
  · rw [if_pos h1] at h; exact take_keep (op_keep h)
  · rw [if_neg h1] at h
    by_cases h3 : r.take.1 = 3
    · rw [if_pos h3] at h; exact take_keep (text_keep h)
    · rw [if_neg h3] at h; exact take_keep (take_keep h)
theorem frame_in {r : Rd} (h : r.frame.2.fault = 0) : r.rest = frB r.frame.1 ++ r.frame.2.rest := by
  have hk := take_in (frame_keep h)
  unfold Rd.frame Rd.frameK at h ⊢
  generalize r.take = x at *
  obtain ⟨k, q⟩ := x
  simp only at *
  by_cases h1 : k = 1
  · subst h1
    rw [if_pos rfl] at h ⊢
    have a1 := take_in (op_keep h)
    have a2 := op_in h
    rw [hk.2, a1.2, a2]
    simp [frB]
  · rw [if_neg h1] at h ⊢
    by_cases h3 : k = 3
    · subst h3
      rw [if_pos rfl] at h ⊢
      have a1 := take_in (text_keep h)
      have a2 := text_in h
      rw [hk.2, a1.2, a2.2]
      simp [frB]
    · rw [if_neg h3] at h ⊢
      have a1 := take_in (take_keep h)
      have a2 := take_in h
      rw [hk.2, a1.2, a2.2]
      have e1 : ¬ (k : Int) = 1 := by omega
      have e3 : ¬ (k : Int) = 3 := by omega
      simp [frB, e1, e3]

/-! ### packets -/
def Pkt.check (p : Pkt) : Int := checkPacket p.epoch p.number p.bare p.ack p.f.kind p.f.heard p.f.epoch p.f.op p.f.text
def pkB (p : Pkt) : Bs := numB p.epoch.toNat ++ numB p.ack.toNat ++ numB p.number.toNat ++ if p.bare = true then [] else frB p.f
theorem packet_zero {p : Pkt} (h : p.check = 0) : 0 ≤ p.epoch ∧ p.epoch ≤ 1048576 ∧ 0 ≤ p.number ∧ p.number ≤ 1048576 ∧ 0 ≤ p.ack ∧ p.ack ≤ 1048576 ∧
    (p.bare = true ∧ p.number = 0 ∧ p.f = bareFr ∨ p.bare = false ∧ 1 ≤ p.number ∧ 1 ≤ p.epoch ∧ p.f.check = 0) := by
  unfold Pkt.check checkPacket at h
  by_cases h1 : num p.epoch = false ∨ num p.number = false ∨ num p.ack = false
  · rw [if_pos h1] at h; exact absurd h (by decide)
  · rw [if_neg h1] at h
    have n1 : num p.epoch = true := by cases hh : num p.epoch with | true => rfl | false => exact absurd (.inl hh) h1
    have n2 : num p.number = true := by cases hh : num p.number with | true => rfl | false => exact absurd (.inr (.inl hh)) h1
    have n3 : num p.ack = true := by cases hh : num p.ack with | true => rfl | false => exact absurd (.inr (.inr hh)) h1
    unfold num at n1 n2 n3
    simp at n1 n2 n3
    refine ⟨n1.1, n1.2, n2.1, n2.2, n3.1, n3.2, ?_⟩
    by_cases hb : p.bare = true
    · rw [if_pos hb] at h
      by_cases h2 : p.number ≠ 0 ∨ emptyF p.f.kind p.f.heard p.f.epoch p.f.op.length p.f.text = false
      · rw [if_pos h2] at h; exact absurd h (by decide)
      · have e1 : p.number = 0 := by
          by_cases he : p.number = 0
          · exact he
          · exact absurd (.inl he) h2
        have e2 : emptyF p.f.kind p.f.heard p.f.epoch p.f.op.length p.f.text = true := by
          cases hh : emptyF p.f.kind p.f.heard p.f.epoch p.f.op.length p.f.text with | true => rfl | false => exact absurd (.inr hh) h2
        refine .inl ⟨hb, e1, ?_⟩
        obtain ⟨ep, nu, ba, ac, k, h', e, o, t⟩ := p
        unfold emptyF at e2
        simp at e2
        obtain ⟨⟨⟨⟨rfl, rfl⟩, rfl⟩, rfl⟩, ht⟩ := e2
        rw [eq_noText ht]; rfl
    · rw [if_neg hb] at h
      by_cases h2 : p.number < 1 ∨ p.epoch < 1
      · rw [if_pos h2] at h; exact absurd h (by decide)
      · rw [if_neg h2] at h
        exact .inr ⟨by simpa using hb, by omega, by omega, h⟩
/-- a packet from bytes: what is read, and the reader behind it -/
def rdPktK (e a n : Nat) (q : Rd) : Pkt × Rd := if n = 0 then (⟨e, n, true, a, bareFr⟩, q) else (⟨e, n, false, a, q.frame.1⟩, q.frame.2)
def rdPktR (r : Rd) : Pkt × Rd := rdPktK r.take.1 r.take.2.take.1 r.take.2.take.2.take.1 r.take.2.take.2.take.2
def rdPkt (b : Bs) : Pkt × Rd := ((rdPktR ⟨b, 0⟩).1, (rdPktR ⟨b, 0⟩).2.done)
def noPkt : Pkt := ⟨0, 0, false, 0, bareFr⟩
def pktFault (b : Bs) : Int := if (rdPkt b).2.fault = 0 then (rdPkt b).1.check else (rdPkt b).2.fault
def decPkt (b : Bs) : Pkt × Int := if 50000 < b.length then (noPkt, 1) else if pktFault b = 0 then ((rdPkt b).1, 0) else (noPkt, pktFault b)
theorem frame_5 : (Rd.frame ⟨[], 5⟩).2 = ⟨[], 5⟩ := by unfold Rd.frame; rw [take_5]; exact frameK_5 _
theorem pktK_5 (e a n : Nat) : (rdPktK e a n ⟨[], 5⟩).2 = ⟨[], 5⟩ := by
  unfold rdPktK
  by_cases h : n = 0
  · rw [if_pos h]
  · rw [if_neg h]; exact frame_5
theorem code_pkt {p : Pkt} (h : p.check = 0) : Code rdPktR p (pkB p) := by
  obtain ⟨z1, z2, z3, z4, z5, z6, z7⟩ := packet_zero h
  obtain ⟨ep, nu, ba, ac, f⟩ := p
  simp only at *
  obtain ⟨e, rfl⟩ : ∃ m : Nat, ep = (m : Int) := ⟨ep.toNat, by omega⟩
  obtain ⟨n, rfl⟩ : ∃ m : Nat, nu = (m : Int) := ⟨nu.toNat, by omega⟩
  obtain ⟨a, rfl⟩ : ∃ m : Nat, ac = (m : Int) := ⟨ac.toNat, by omega⟩
  have c3 : Code (rdPktK e a n) ⟨e, n, ba, a, f⟩ (if ba = true then [] else frB f) := by
    rcases z7 with ⟨rfl, hn, rfl⟩ | ⟨rfl, hn, he, hf⟩
    · have hn0 : n = 0 := by omega
      subst hn0
      refine ⟨fun l => rfl, fun j hj => ?_⟩
      simp at hj
    · have hn0 : n ≠ 0 := by omega
      have e1 : rdPktK e a n = fun q => ((⟨e, n, false, a, q.frame.1⟩ : Pkt), q.frame.2) := by
        funext q; unfold rdPktK; rw [if_neg hn0]
      rw [e1, if_neg (by simp)]
      exact (code_frame hf).map (fun f => (⟨e, n, false, a, f⟩ : Pkt))
  have c2 : Code (fun r => rdPktK e a r.take.1 r.take.2) ⟨e, n, ba, a, f⟩ (numB n ++ if ba = true then [] else frB f) :=
    Code.seq (D := Rd.take) (G := fun m q => rdPktK e a m q) (code_num (by omega)) c3 (fun m => pktK_5 _ _ _)
  have c1 : Code (fun r => rdPktK e r.take.1 r.take.2.take.1 r.take.2.take.2) ⟨e, n, ba, a, f⟩ (numB a ++ (numB n ++ if ba = true then [] else frB f)) :=
    Code.seq (D := Rd.take) (G := fun m q => rdPktK e m q.take.1 q.take.2) (code_num (by omega)) c2 (fun m => by show (rdPktK _ _ (Rd.take ⟨[], 5⟩).1 (Rd.take ⟨[], 5⟩).2).2 = _; rw [take_5]; exact pktK_5 _ _ _)
  have c0 : Code rdPktR ⟨e, n, ba, a, f⟩ (numB e ++ (numB a ++ (numB n ++ if ba = true then [] else frB f))) :=
    Code.seq (D := Rd.take) (G := fun m q => rdPktK m q.take.1 q.take.2.take.1 q.take.2.take.2) (code_num (by omega)) c1 (fun m => by show (rdPktK _ (Rd.take ⟨[], 5⟩).1 (Rd.take (Rd.take ⟨[], 5⟩).2).1 (Rd.take (Rd.take ⟨[], 5⟩).2).2).2 = _; rw [take_5, take_5]; exact pktK_5 _ _ _)
  exact c0.eq (by simp [pkB])
theorem frB_len {f : Fr} (h : f.check = 0) : (frB f).length ≤ 40012 := by
  obtain ⟨z1, z2, z3, z4, z5, z6, z7⟩ := frame_zero h
  have hts := checkText_size z6
  have ho := op_len z5
  have hk : (numB f.kind.toNat).length ≤ 2 := numB_len2 (by omega)
  have hh := numB_len3 (n := f.heard.toNat) (by omega)
  have he := numB_len3 (n := f.epoch.toNat) (by omega)
  have ht : (textB f.text).length ≤ 16003 := by
    have h1 := numB_len3 (n := f.text.size) (by omega)
    have h2 : f.text.data.toList.length = f.text.size := Array.length_toList
    unfold textB; rw [List.length_append]; omega
  unfold frB
  rw [List.length_append]
  split
  · rw [List.length_append]; omega
  · rw [List.length_append]
    split <;> omega
theorem pkt_len {p : Pkt} (h : p.check = 0) : (pkB p).length ≤ 40030 ∧ 3 ≤ (pkB p).length := by
  obtain ⟨z1, z2, z3, z4, z5, z6, z7⟩ := packet_zero h
  have h1 := numB_len3 (n := p.epoch.toNat) (by omega)
  have h2 := numB_len3 (n := p.ack.toNat) (by omega)
  have h3 := numB_len3 (n := p.number.toNat) (by omega)
  have l1 := numB_len p.epoch.toNat
  have l2 := numB_len p.ack.toNat
  have l3 := numB_len p.number.toNat
  have h4 : (if p.bare = true then ([] : Bs) else frB p.f).length ≤ 40012 := by
    rcases z7 with ⟨hb, _⟩ | ⟨hb, _, _, hf⟩
    · rw [hb]; simp
    · rw [hb]; exact frB_len hf
  unfold pkB
  rw [List.length_append, List.length_append, List.length_append]
  omega
theorem pkt_enc {p : Pkt} (h : p.check = 0) : decPkt (pkB p) = (p, 0) := by
  have hr := (code_pkt h).all []
  rw [List.append_nil] at hr
  have hd : rdPkt (pkB p) = (p, ⟨[], 0⟩) := by unfold rdPkt; rw [hr, done_nil]
  have hf : pktFault (pkB p) = 0 := by unfold pktFault; rw [hd]; simpa using h
  unfold decPkt
  rw [if_neg (by have := pkt_len h; omega), if_pos hf, hd]
theorem pkt_more {p : Pkt} (h : p.check = 0) {l : Bs} (hl : l ≠ []) (hs : l.length ≤ 1000) : decPkt (pkB p ++ l) = (noPkt, 4) := by
  have hr := (code_pkt h).all l
  have hd : rdPkt (pkB p ++ l) = (p, ⟨[], 4⟩) := by unfold rdPkt; rw [hr, done_more hl]
  have hf : pktFault (pkB p ++ l) = 4 := by unfold pktFault; rw [hd]; rfl
  unfold decPkt
  rw [if_neg (by rw [List.length_append]; have := pkt_len h; omega), if_neg (by rw [hf]; decide), hf]
theorem pkt_torn {p : Pkt} (h : p.check = 0) {j : Nat} (hj : j < (pkB p).length) : decPkt ((pkB p).take j) = (noPkt, 5) := by
  have hr := (code_pkt h).torn j hj
  have hd : (rdPkt ((pkB p).take j)).2 = ⟨[], 5⟩ := by unfold rdPkt; simp only; rw [hr]; rfl
  have hf : pktFault ((pkB p).take j) = 5 := by unfold pktFault; rw [hd]; rfl
  unfold decPkt
  rw [if_neg (by rw [List.length_take]; have := pkt_len h; omega), if_neg (by rw [hf]; decide), hf]
theorem rdPktR_in {r : Rd} (h : (rdPktR r).2.fault = 0) : r.rest = pkB (rdPktR r).1 ++ (rdPktR r).2.rest := by
  have hk : r.take.2.take.2.take.2.fault = 0 := by
    unfold rdPktR rdPktK at h
    by_cases h0 : r.take.2.take.2.take.1 = 0
    · rw [if_pos h0] at h; exact h
    · rw [if_neg h0] at h; exact take_keep (frame_keep h)
  have a1 := take_in hk
  have a2 := take_in (take_keep hk)
  have a3 := take_in (take_keep (take_keep hk))
  unfold rdPktR rdPktK at h ⊢
  by_cases h0 : r.take.2.take.2.take.1 = 0
  · rw [if_pos h0] at h ⊢
    rw [a3.2, a2.2, a1.2, h0]
    simp [pkB]
  · rw [if_neg h0] at h ⊢
    have a4 := frame_in h
    rw [a3.2, a2.2, a1.2, a4]
    simp [pkB]
theorem pkt_inv {b : Bs} (h : (decPkt b).2 = 0) : (decPkt b).1.check = 0 ∧ pkB (decPkt b).1 = b := by
  unfold decPkt at h ⊢
  by_cases hl : 50000 < b.length
  · rw [if_pos hl] at h; exact absurd h (by decide)
  · rw [if_neg hl] at h ⊢
    by_cases hf : pktFault b = 0
    · rw [if_pos hf]
      simp only
      have hf2 := hf
      unfold pktFault at hf2
      by_cases h0 : (rdPkt b).2.fault = 0
      · rw [if_pos h0] at hf2
        refine ⟨hf2, ?_⟩
        have hd : (rdPktR ⟨b, 0⟩).2 = ⟨[], 0⟩ := done_inv h0
        have := rdPktR_in (r := ⟨b, 0⟩) (by rw [hd])
        rw [hd] at this
        simp only [List.append_nil] at this
        exact this.symm
      · rw [if_neg h0] at hf2; exact absurd hf2 h0
    · rw [if_neg hf] at h; exact absurd h hf
theorem pkt_bad {b : Bs} (h : (decPkt b).2 ≠ 0) : (decPkt b).1 = noPkt := by
  unfold decPkt at h ⊢
  by_cases hl : 50000 < b.length
  · rw [if_pos hl]
  · rw [if_neg hl] at h ⊢
    by_cases hf : pktFault b = 0
    · rw [if_pos hf] at h; exact absurd rfl h
    · rw [if_neg hf]
end Go.Proofs.YtdbdhpjjndhjiaaDoor

set_option linter.unusedSimpArgs false
namespace Go.Proofs.YtdbdhpjjndhjiaaDoor
open Go.RowKit

theorem noText_ok : checkText noText = 0 := by decide
theorem frame_ok (r : Raw) (l : List Raw) : checkFrame (frameOf r l).kind (frameOf r l).heard (frameOf r l).epoch (frameOf r l).op (frameOf r l).text = 0 ∧
    I64 (frameOf r l).kind ∧ I64 (frameOf r l).heard ∧ I64 (frameOf r l).epoch ∧ (frameOf r l).text.size ≤ strMax ∧ (frameOf r l).op.length ≤ 8001 := by
  have ra := pk_range r.a 5000 (by omega)
  have rb := pk_range r.b 5000 (by omega)
  have rb5 := pk_range r.b 50 (by omega)
  have rc' := pk_range r.c 20 (by omega)
  unfold frameOf
  by_cases h0 : pk (r.kind.tdiv 4) 3 = 0
  · rw [if_pos h0]
    refine ⟨?_, by unfold I64; simp only; omega, by unfold I64; simp only; omega, by unfold I64; simp only; omega, by rw [noText_size]; omega, by simp⟩
    have a1 : num (pk r.b 5000) = true := by simp [num]; omega
    have a2 : num (1 + pk r.a 5000) = true := by simp [num]; omega
    have a3 : decide (0 < 1 + pk r.a 5000) = true := by simp; omega
    simp [checkFrame, a1, a2, check_nil, noText_ok, frameOdd, a3, emptyS_noText]
  · rw [if_neg h0]
    by_cases h1 : pk (r.kind.tdiv 4) 3 = 1
    · rw [if_pos h1]
      have hl := letters_ok r.text 20 (by omega)
      refine ⟨?_, by unfold I64; simp only; omega, by unfold I64; simp only; omega, by unfold I64; simp only; omega, by unfold strMax; simp only; omega, by simp⟩
      have a1 : num 0 = true := by simp [num]
      have a2 : num (1 + pk r.a 5000) = true := by simp [num]; omega
      have a3 : decide (0 < 1 + pk r.a 5000) = true := by simp; omega
      simp [checkFrame, a1, a2, check_nil, hl.1, frameOdd, a3]
    · rw [if_neg h1]
      have ho := mkOp_ok (pk r.c 20) l rc'.1 (by omega)
      have hz := check_zero ho.1
      refine ⟨?_, by unfold I64; simp only; omega, by unfold I64; simp only; omega, by unfold I64; simp only; omega, by rw [noText_size]; omega, hz.1⟩
      have a1 : num (pk r.b 50) = true := by simp [num]; omega
      have a2 : num 0 = true := by simp [num]
      simp [checkFrame, a1, a2, ho.1, noText_ok, frameOdd, emptyS_noText]

theorem packetOf_ok (r : Raw) (l : List Raw) : (packetOf r l).check = 0 := by
  have ra := pk_range r.a 5000 (by omega)
  have rb5 := pk_range r.b 50 (by omega)
  have rc' := pk_range r.c 30 (by omega)
  unfold packetOf
  by_cases h0 : pk r.kind 4 = 0
  · rw [if_pos h0]
    have a1 : num (pk r.a 5000) = true := by simp [num]; omega
    have a2 : num 0 = true := by simp [num]
    have a3 : num (pk r.b 50) = true := by simp [num]; omega
    simp [Pkt.check, checkPacket, a1, a2, a3, emptyF, bareFr, emptyS_noText]
  · rw [if_neg h0]
    have a1 : num (pk r.a 5000 + 1) = true := by simp [num]; omega
    have a2 : num (1 + pk r.c 30) = true := by simp [num]; omega
    have a3 : num (pk r.b 50) = true := by simp [num]; omega
    have a4 : ¬ (1 + pk r.c 30 < 1 ∨ pk r.a 5000 + 1 < 1) := by omega
    unfold Pkt.check checkPacket
    simp only [a1, a2, a3]
    rw [if_neg (by simp), if_neg (by simp), if_neg a4]
    exact (frame_ok r l).1
end Go.Proofs.YtdbdhpjjndhjiaaDoor

set_option linter.unusedSimpArgs false
namespace Go.Proofs.YtdbdhpjjndhjiaaDoor
open Go.RowKit

/-- a writer at work beside a box -/
structure WrX (D b : Nat) (l : Bs) (X : Nat) (cs : Array Value) (t : Nat) (w0 w : World) : Prop where
  wr : ∃ v, Wr D b v l w
  below : Below D w0 w
  rest : Rest b w0 w
  box : Blk X (.cells cs t (0, 0)) w
  ne : X ≠ b
  ty : t ≠ 5
  low : D ≤ w0.heap.size
theorem WrX.step {D b : Nat} {l l' : Bs} {X : Nat} {cs : Array Value} {t : Nat} {w0 w w' : World} {e : Ending} (h : WrX D b l X cs t w0 w) (hp : WrP D b l' w e w') : e = .returned (.tuple #[]) ∧ WrX D b l' X cs t w0 w' := by
  obtain ⟨rfl, h1, h2, h3⟩ := hp
  exact ⟨rfl, h1, h.below.trans h2, h.rest.trans h3, (h3 X cs t (0, 0) h.box h.ty h.ne).trans h.box, h.ne, h.ty, h.low⟩
section
variable {D b : Nat} {l : Bs} {X : Nat} {cs : Array Value} {t : Nat} {w0 w : World}
theorem put_x (h : WrX D b l X cs t w0 w) (n : Nat) (hn : n ≤ 1000000000000) (hl : l.length ≤ 1000000000000) :
    Calls Tryd.prog 36 #[.pointer (some ⟨b, 0, none⟩), .int .i64 (n : Int)] w fun e w' => e = .returned (.tuple #[]) ∧ WrX D b (l ++ numB n) X cs t w0 w' := by
  obtain ⟨v, hv⟩ := h.wr
  exact (put_any D b v l n w hv (by have := h.below.size; have := h.low; omega) hn hl).mono fun e w' hp => h.step hp
theorem wtext_x (h : WrX D b l X cs t w0 w) (s : Str) (hs : s.size ≤ 1000000000) (hl : l.length ≤ 500000000000) :
    Calls Tryd.prog 60 #[.pointer (some ⟨b, 0, none⟩), .string s] w fun e w' => e = .returned (.tuple #[]) ∧ WrX D b (l ++ textB s) X cs t w0 w' := by
  obtain ⟨v, hv⟩ := h.wr
  exact (wtext_any D b v l s w hv (by have := h.below.size; have := h.low; omega) hs hl).mono fun e w' hp => h.step hp
theorem wop_x (h : WrX D b l X cs t w0 w) (o : Op) (a : Option Addr) (n c : Nat) (hr : RdS (· < D) w0 o a n c) (hc : check o = 0) (hl : l.length ≤ 1000000000) :
    Calls Tryd.prog 37 #[.pointer (some ⟨b, 0, none⟩), .slice a n c] w fun e w' => e = .returned (.tuple #[]) ∧ WrX D b (l ++ opB o) X cs t w0 w' := by
  obtain ⟨v, hv⟩ := h.wr
  obtain ⟨f1, f2, f3⟩ := fine_of hc
  exact (wop_any D b v l o a n c w hv (by have := h.below.size; have := h.low; omega) (hr.mono fun z hz => ⟨hz, h.below.block z hz⟩) f1 f2 (by omega) hl).mono fun e w' hp => h.step hp
end
theorem WrX.len2 {n : Nat} (h : n ≤ 1048576) : (numB n).length ≤ 3 := numB_len3 (by omega)
set_option maxRecDepth 100000 in
set_option maxHeartbeats 4000000 in
theorem wframe_any (D b : Nat) (v : Value) (l : Bs) (f : Fr) (a : Option Addr) (n c : Nat) (w : World) (h : Wr D b v l w) (hD : D ≤ w.heap.size) (hr : RdS (· < D) w f.op a n c) (hc : f.check = 0) (hl : l.length ≤ 100000000) :
    Calls Tryd.prog 47 #[.pointer (some ⟨b, 0, none⟩), .agg #[.int .i64 f.kind, .int .i64 f.heard, .int .i64 f.epoch, .slice a n c, .string f.text]] w (WrP D b (l ++ frB f) w) := by
  obtain ⟨z1, z2, z3, z4, z5, z6, z7⟩ := frame_zero hc
  have hts := checkText_size z6
  have hbl := h.blk.lt
  have S0 : Hid (WrX D b l w.heap.size #[.int .i64 f.kind, .int .i64 f.heard, .int .i64 f.epoch, .slice a n c, .string f.text] 53 w (w.alloc (.cells #[.int .i64 f.kind, .int .i64 f.heard, .int .i64 f.epoch, .slice a n c, .string f.text] 53))) := by
    have hal : Below w.heap.size w (w.alloc (.cells #[.int .i64 f.kind, .int .i64 f.heard, .int .i64 f.epoch, .slice a n c, .string f.text] 53)) := (Below.refl _ _).alloc (Nat.le_refl _) _
    exact ⟨⟨v, h.base, h.blk.go hal, ownsRow_below h.own hal⟩, hal.mono hD, fun i cs t f h1 _ _ => hal.block i (Array.getElem?_eq_some_iff.1 h1).1, Blk.new _ _, by omega, by decide, hD⟩
  have Hend : Hid (∀ X cs t W, WrX D b (l ++ frB f) X cs t w W → WrP D b (l ++ frB f) w (.returned (.tuple #[])) W) := fun X cs t W h => ⟨rfl, h.wr, h.below, h.rest⟩
  have Hr := Lib.hid hr
  have Z5 := Lib.hid z5
  obtain ⟨k, h', ep, o, t⟩ := f
  simp only at *
  obtain ⟨hd, rfl⟩ : ∃ m : Nat, h' = (m : Int) := ⟨h'.toNat, by omega⟩
  obtain ⟨e, rfl⟩ : ∃ m : Nat, ep = (m : Int) := ⟨ep.toNat, by omega⟩
  have l1 := WrX.len2 (n := hd) (by omega)
  have l2 := WrX.len2 (n := e) (by omega)
  clear h hr z5 z6 hc hD hbl
  rcases z7 with ⟨rfl, -, rfl⟩ | ⟨rfl, he, rfl, rfl⟩ | ⟨rfl, he, -, rfl⟩
  · have hF : frB ⟨1, hd, e, o, noText⟩ = numB 1 ++ (numB hd ++ opB o) := by simp [frB]
    rw [hF, ← List.append_assoc, ← List.append_assoc] at Hend
    rw [hF, ← List.append_assoc, ← List.append_assoc]
    clear hF
    generalize WrP D b (l ++ numB 1 ++ numB hd ++ opB o) w = WP at *
    have k1 : (numB 1).length = 1 := by rw [numB_small (by omega)]; rfl
    have HP1 := Lib.hid (fun W cs (h : WrX D b l w.heap.size cs 53 w W) => put_x h 1 (by omega) (by omega))
    have HQ2 := Lib.hid (fun W cs (h : WrX D b (l ++ numB 1) w.heap.size cs 53 w W) => put_x h hd (by omega) (by rw [List.length_append]; omega))
    have HQ3 := Lib.hid (fun W cs (h : WrX D b (l ++ numB 1 ++ numB hd) w.heap.size cs 53 w W) => wop_x h o a n c Hr.out Z5.out (by rw [List.length_append, List.length_append]; omega))
    clear Hr Z5
    generalize (noText : Str) = tv at *
    go_enter Tryd.func47, Tryd.ntmps47
    go_wp2_with fail
    refine (HP1.out _ _ S0.out).mono ?_
    rintro x w1 ⟨rfl, S1⟩
    have c0 : w1.cell? ⟨w.heap.size, 0, none⟩ = some (.int .i64 1) := S1.box.cell 0
    have c1 : w1.cell? ⟨w.heap.size, 1, none⟩ = some (.int .i64 (hd : Int)) := S1.box.cell 1
    have S1 := Lib.hid S1
    clear S0 HP1
    go_wp2_with fail
    refine (HQ2.out _ _ S1.out).mono ?_
    rintro x w2 ⟨rfl, S2⟩
    have d0 : w2.cell? ⟨w.heap.size, 0, none⟩ = some (.int .i64 1) := S2.box.cell 0
    have d3 : w2.cell? ⟨w.heap.size, 3, none⟩ = some (.slice a n c) := S2.box.cell 3
    have S2 := Lib.hid S2
    clear S1 HQ2 c0 c1
    go_wp2_with fail
    refine (HQ3.out _ _ S2.out).mono ?_
    rintro x w3 ⟨rfl, S3⟩
    have G := Lib.hid (Hend.out _ _ _ _ S3)
    clear S2 HQ3 d0 d3 S3 Hend
    go_wp2_with fail
    go_end0
    exact G.out
  · have hF : frB ⟨2, hd, e, [], noText⟩ = numB 2 ++ (numB e ++ numB hd) := by simp [frB]
    rw [hF, ← List.append_assoc, ← List.append_assoc] at Hend
    rw [hF, ← List.append_assoc, ← List.append_assoc]
    clear hF
    generalize WrP D b (l ++ numB 2 ++ numB e ++ numB hd) w = WP at *
    have k1 : (numB 2).length = 1 := by rw [numB_small (by omega)]; rfl
    have HP1 := Lib.hid (fun W cs (h : WrX D b l w.heap.size cs 53 w W) => put_x h 2 (by omega) (by omega))
    have HQ2 := Lib.hid (fun W cs (h : WrX D b (l ++ numB 2) w.heap.size cs 53 w W) => put_x h e (by omega) (by rw [List.length_append]; omega))
    have HQ3 := Lib.hid (fun W cs (h : WrX D b (l ++ numB 2 ++ numB e) w.heap.size cs 53 w W) => put_x h hd (by omega) (by rw [List.length_append, List.length_append]; omega))
    clear Hr Z5
    generalize (noText : Str) = tv at *
    go_enter Tryd.func47, Tryd.ntmps47
    go_wp2_with fail
    refine (HP1.out _ _ S0.out).mono ?_
    rintro x w1 ⟨rfl, S1⟩
    have c0 : w1.cell? ⟨w.heap.size, 0, none⟩ = some (.int .i64 2) := S1.box.cell 0
    have c1 : w1.cell? ⟨w.heap.size, 2, none⟩ = some (.int .i64 (e : Int)) := S1.box.cell 2
    have S1 := Lib.hid S1
    clear S0 HP1
    go_wp2_with fail
    refine (HQ2.out _ _ S1.out).mono ?_
    rintro x w2 ⟨rfl, S2⟩
    have d0 : w2.cell? ⟨w.heap.size, 0, none⟩ = some (.int .i64 2) := S2.box.cell 0
    have d3 : w2.cell? ⟨w.heap.size, 1, none⟩ = some (.int .i64 (hd : Int)) := S2.box.cell 1
    have S2 := Lib.hid S2
    clear S1 HQ2 c0 c1
    go_wp2_with fail
    refine (HQ3.out _ _ S2.out).mono ?_
    rintro x w3 ⟨rfl, S3⟩
    have G := Lib.hid (Hend.out _ _ _ _ S3)
    clear S2 HQ3 d0 d3 S3 Hend
    go_wp2_with fail
    go_end0
    exact G.out
  · have hF : frB ⟨3, hd, e, [], t⟩ = numB 3 ++ (numB e ++ textB t) := by simp [frB]
    rw [hF, ← List.append_assoc, ← List.append_assoc] at Hend
    rw [hF, ← List.append_assoc, ← List.append_assoc]
    clear hF
    generalize WrP D b (l ++ numB 3 ++ numB e ++ textB t) w = WP at *
    have k1 : (numB 3).length = 1 := by rw [numB_small (by omega)]; rfl
    have HP1 := Lib.hid (fun W cs (h : WrX D b l w.heap.size cs 53 w W) => put_x h 3 (by omega) (by omega))
    have HQ2 := Lib.hid (fun W cs (h : WrX D b (l ++ numB 3) w.heap.size cs 53 w W) => put_x h e (by omega) (by rw [List.length_append]; omega))
    have HQ3 := Lib.hid (fun W cs (h : WrX D b (l ++ numB 3 ++ numB e) w.heap.size cs 53 w W) => wtext_x h t (by omega) (by rw [List.length_append, List.length_append]; omega))
    clear Hr Z5
    
    go_enter Tryd.func47, Tryd.ntmps47
    go_wp2_with fail
    refine (HP1.out _ _ S0.out).mono ?_
    rintro x w1 ⟨rfl, S1⟩
    have c0 : w1.cell? ⟨w.heap.size, 0, none⟩ = some (.int .i64 3) := S1.box.cell 0
    have c1 : w1.cell? ⟨w.heap.size, 2, none⟩ = some (.int .i64 (e : Int)) := S1.box.cell 2
    have S1 := Lib.hid S1
    clear S0 HP1
    go_wp2_with fail
    refine (HQ2.out _ _ S1.out).mono ?_
    rintro x w2 ⟨rfl, S2⟩
    have d0 : w2.cell? ⟨w.heap.size, 0, none⟩ = some (.int .i64 3) := S2.box.cell 0
    have d3 : w2.cell? ⟨w.heap.size, 4, none⟩ = some (.string t) := S2.box.cell 4
    have S2 := Lib.hid S2
    clear S1 HQ2 c0 c1
    go_wp2_with fail
    refine (HQ3.out _ _ S2.out).mono ?_
    rintro x w3 ⟨rfl, S3⟩
    have G := Lib.hid (Hend.out _ _ _ _ S3)
    clear S2 HQ3 d0 d3 S3 Hend
    go_wp2_with fail
    go_end0
    exact G.out
theorem wframe_x {D b : Nat} {l : Bs} {X : Nat} {cs : Array Value} {t : Nat} {w0 w : World} (h : WrX D b l X cs t w0 w) (f : Fr) (a : Option Addr) (n c : Nat) (hr : RdS (· < D) w0 f.op a n c) (hc : f.check = 0) (hl : l.length ≤ 100000000) :
    Calls Tryd.prog 47 #[.pointer (some ⟨b, 0, none⟩), .agg #[.int .i64 f.kind, .int .i64 f.heard, .int .i64 f.epoch, .slice a n c, .string f.text]] w fun e w' => e = .returned (.tuple #[]) ∧ WrX D b (l ++ frB f) X cs t w0 w' := by
  obtain ⟨v, hv⟩ := h.wr
  exact (wframe_any D b v l f a n c w hv (by have := h.below.size; have := h.low; omega) (hr.mono fun z hz => ⟨hz, h.below.block z hz⟩) hc hl).mono fun e w' hp => h.step hp
theorem pkt_i64 {p : Pkt} (h : p.check = 0) : I64 p.epoch ∧ I64 p.number ∧ I64 p.ack ∧ I64 p.f.kind ∧ I64 p.f.heard ∧ I64 p.f.epoch ∧ p.f.text.size ≤ strMax ∧ p.f.op.length ≤ 8001 ∧ check p.f.op = 0 := by
  obtain ⟨z1, z2, z3, z4, z5, z6, z7⟩ := packet_zero h
  refine ⟨⟨by omega, by omega⟩, ⟨by omega, by omega⟩, ⟨by omega, by omega⟩, ?_⟩
  rcases z7 with ⟨-, -, hf⟩ | ⟨-, -, -, hf⟩
  · rw [hf]
    exact ⟨⟨by simp [bareFr], by simp [bareFr]⟩, ⟨by simp [bareFr], by simp [bareFr]⟩, ⟨by simp [bareFr], by simp [bareFr]⟩, by simp [bareFr, noText_size], by simp [bareFr], check_nil⟩
  · obtain ⟨y1, y2, y3, y4, y5, y6, y7⟩ := frame_zero hf
    have hz := checkText_size y6
    exact ⟨⟨by omega, by omega⟩, ⟨by omega, by omega⟩, ⟨by omega, by omega⟩, by unfold strMax; omega, (check_zero y5).1, y5⟩
abbrev pktA (p : Pkt) (v : Value) : Array Value := #[.int .i64 p.epoch, .int .i64 p.number, .bool p.bare, .int .i64 p.ack, .int .i64 p.f.kind, .int .i64 p.f.heard, .int .i64 p.f.epoch, v, .string p.f.text]
set_option maxRecDepth 100000 in
set_option maxHeartbeats 4000000 in
theorem encPkt_ok (p : Pkt) (a : Option Addr) (n c : Nat) (w : World) (hg : Good w) (hr : RdS (· < w.heap.size) w p.f.op a n c) (hc : p.check = 0) :
    Calls Tryd.prog 25 #[.agg (pktA p (.slice a n c))] w (MadeP (pkB p) w) := by
  obtain ⟨i1, i2, i3, i4, i5, i6, i7, i8, i9⟩ := pkt_i64 hc
  have HC := Lib.hid (fun W (hW : Below w.heap.size w W) => checkPacket_any p.epoch p.number p.bare p.ack p.f.kind p.f.heard p.f.epoch p.f.op p.f.text a n c W (hg.go hW) (hr.go hW) i1 i2 i3 i4 i5 i6 i7)
  rw [show checkPacket p.epoch p.number p.bare p.ack p.f.kind p.f.heard p.f.epoch p.f.op p.f.text = 0 from hc] at HC
  obtain ⟨z1, z2, z3, z4, z5, z6, z7⟩ := packet_zero hc
  obtain ⟨ep, nu, ba, ac, f⟩ := p
  simp only at *
  obtain ⟨e, rfl⟩ : ∃ m : Nat, ep = (m : Int) := ⟨ep.toNat, by omega⟩
  obtain ⟨u, rfl⟩ : ∃ m : Nat, nu = (m : Int) := ⟨nu.toNat, by omega⟩
  obtain ⟨k, rfl⟩ : ∃ m : Nat, ac = (m : Int) := ⟨ac.toNat, by omega⟩
  have l1 := WrX.len2 (n := e) (by omega)
  have l2 := WrX.len2 (n := k) (by omega)
  have l3 := WrX.len2 (n := u) (by omega)
  have HP1 := Lib.hid (fun b X cs w0 W (h : WrX b b [] X cs 55 w0 W) => put_x h e (by omega) (by simp))
  have HP2 := Lib.hid (fun b X cs w0 W (h : WrX b b (numB e) X cs 55 w0 W) => put_x h k (by omega) (by omega))
  have HP3 := Lib.hid (fun b X cs w0 W (h : WrX b b (numB e ++ numB k) X cs 55 w0 W) => put_x h u (by omega) (by rw [List.length_append]; omega))
  have hB : pkB ⟨(e : Int), (u : Int), ba, (k : Int), f⟩ = numB e ++ numB k ++ numB u ++ if ba = true then [] else frB f := by simp [pkB]
  rw [hB]
  clear hB
  have Hr := Lib.hid hr
  clear hr hc hg i1 i2 i3 i4 i5 i6 i7 i8 i9
  rcases z7 with ⟨rfl, -, rfl⟩ | ⟨rfl, -, -, hf⟩
  · rw [if_pos rfl, List.append_nil]
    simp only [bareFr] at *
    go_enter Tryd.func25, Tryd.ntmps25
    go_wp2_with fail
    have u0 : Below w.heap.size w (w.alloc (.cells #[.int .i64 (e : Int), .int .i64 (u : Int), .bool true, .int .i64 (k : Int), .int .i64 0, .int .i64 0, .int .i64 0, .slice a n c, .string noText] 55)) := (Below.refl _ _).alloc (Nat.le_refl _) _
    refine (HC.out _ u0).mono ?_
    rintro x w1 ⟨rfl, u1⟩
    have x1 : Blk w.heap.size (.cells #[.int .i64 (e : Int), .int .i64 (u : Int), .bool true, .int .i64 (k : Int), .int .i64 0, .int .i64 0, .int .i64 0, .slice a n c, .string noText] 55 (0, 0)) w1 := (Blk.new w _).go u1
    have hl1 := x1.lt
    have c0 : w1.cell? ⟨w.heap.size, 0, none⟩ = some (.int .i64 (e : Int)) := x1.cell 0
    have U1 := Lib.hid (up u0 u1)
    have hal : Below w1.heap.size w1 (w1.alloc (.cells #[.slice none 0 0] 79)) := (Below.refl _ _).alloc (Nat.le_refl _) _
    have S0 := Lib.hid (show WrX w1.heap.size w1.heap.size [] w.heap.size _ 55 w1 (w1.alloc (.cells #[.slice none 0 0] 79)) from ⟨⟨_, Wr.new w1⟩, hal, fun i cs t f h1 _ _ => hal.block i (Array.getElem?_eq_some_iff.1 h1).1, x1.go hal, by omega, by decide, Nat.le_refl _⟩)
    clear u0 u1 x1 HC hal
    go_wp2_with fail
    refine (HP1.out _ _ _ _ _ S0.out).mono ?_
    rintro x w2 ⟨rfl, S1⟩
    rw [List.nil_append] at S1
    have c1 : w2.cell? ⟨w.heap.size, 3, none⟩ = some (.int .i64 (k : Int)) := S1.box.cell 3
    have S1 := Lib.hid S1
    clear S0 HP1 c0
    go_wp2_with fail
    refine (HP2.out _ _ _ _ _ S1.out).mono ?_
    rintro x w3 ⟨rfl, S2⟩
    have c2 : w3.cell? ⟨w.heap.size, 1, none⟩ = some (.int .i64 (u : Int)) := S2.box.cell 1
    have S2 := Lib.hid S2
    clear S1 HP2 c1
    go_wp2_with fail
    refine (HP3.out _ _ _ _ _ S2.out).mono ?_
    rintro x w4 ⟨rfl, S3⟩
    have c3 : w4.cell? ⟨w.heap.size, 2, none⟩ = some (.bool true) := S3.box.cell 2
    obtain ⟨v, hv⟩ := S3.wr
    obtain ⟨a3, c3', rfl, G⟩ := hv.made (w0 := w1) S3.below U1.out (by omega)
    have e0 : w4.cell? ⟨w1.heap.size, 0, none⟩ = some (.slice a3 (numB e ++ numB k ++ numB u).length c3') := hv.blk.cell 0
    have G := Lib.hid G
    clear S2 HP3 c2 S3 hv U1
    generalize MadeP (numB e ++ numB k ++ numB u) w = MP at *
    generalize (numB e ++ numB k ++ numB u).length = ll at *
    go_wp2_with fail
    exact G.out
  · rw [if_neg (by simp)]
    have HP4 := Lib.hid (fun b X cs w0 W (h : WrX b b (numB e ++ numB k ++ numB u) X cs 55 w0 W) (hr : RdS (· < b) w0 f.op a n c) => wframe_x h f a n c hr hf (by rw [List.length_append, List.length_append]; omega))
    obtain ⟨fk, fh, fe, fo, ft⟩ := f
    simp only at *
    clear hf
    go_enter Tryd.func25, Tryd.ntmps25
    go_wp2_with fail
    have u0 : Below w.heap.size w (w.alloc (.cells #[.int .i64 (e : Int), .int .i64 (u : Int), .bool false, .int .i64 (k : Int), .int .i64 fk, .int .i64 fh, .int .i64 fe, .slice a n c, .string ft] 55)) := (Below.refl _ _).alloc (Nat.le_refl _) _
    refine (HC.out _ u0).mono ?_
    rintro x w1 ⟨rfl, u1⟩
    have x1 : Blk w.heap.size (.cells #[.int .i64 (e : Int), .int .i64 (u : Int), .bool false, .int .i64 (k : Int), .int .i64 fk, .int .i64 fh, .int .i64 fe, .slice a n c, .string ft] 55 (0, 0)) w1 := (Blk.new w _).go u1
    have hl1 := x1.lt
    have c0 : w1.cell? ⟨w.heap.size, 0, none⟩ = some (.int .i64 (e : Int)) := x1.cell 0
    have U1 := Lib.hid (up u0 u1)
    have hal : Below w1.heap.size w1 (w1.alloc (.cells #[.slice none 0 0] 79)) := (Below.refl _ _).alloc (Nat.le_refl _) _
    have S0 := Lib.hid (show WrX w1.heap.size w1.heap.size [] w.heap.size _ 55 w1 (w1.alloc (.cells #[.slice none 0 0] 79)) from ⟨⟨_, Wr.new w1⟩, hal, fun i cs t f h1 _ _ => hal.block i (Array.getElem?_eq_some_iff.1 h1).1, x1.go hal, by omega, by decide, Nat.le_refl _⟩)
    clear u0 u1 x1 HC hal
    go_wp2_with fail
    refine (HP1.out _ _ _ _ _ S0.out).mono ?_
    rintro x w2 ⟨rfl, S1⟩
    rw [List.nil_append] at S1
    have c1 : w2.cell? ⟨w.heap.size, 3, none⟩ = some (.int .i64 (k : Int)) := S1.box.cell 3
    have S1 := Lib.hid S1
    clear S0 HP1 c0
    go_wp2_with fail
    refine (HP2.out _ _ _ _ _ S1.out).mono ?_
    rintro x w3 ⟨rfl, S2⟩
    have c2 : w3.cell? ⟨w.heap.size, 1, none⟩ = some (.int .i64 (u : Int)) := S2.box.cell 1
    have S2 := Lib.hid S2
    clear S1 HP2 c1
    go_wp2_with fail
    refine (HP3.out _ _ _ _ _ S2.out).mono ?_
    rintro x w4 ⟨rfl, S3⟩
    have c3 : w4.cell? ⟨w.heap.size, 2, none⟩ = some (.bool false) := S3.box.cell 2
    have c4 : w4.cell? ⟨w.heap.size, 4, none⟩ = some (.int .i64 fk) := S3.box.cell 4
    have c5 : w4.cell? ⟨w.heap.size, 5, none⟩ = some (.int .i64 fh) := S3.box.cell 5
    have c6 : w4.cell? ⟨w.heap.size, 6, none⟩ = some (.int .i64 fe) := S3.box.cell 6
    have c7 : w4.cell? ⟨w.heap.size, 7, none⟩ = some (.slice a n c) := S3.box.cell 7
    have c8 : w4.cell? ⟨w.heap.size, 8, none⟩ = some (.string ft) := S3.box.cell 8
    have S3 := Lib.hid S3
    clear S2 HP3 c2
    go_wp2_with fail
    refine (HP4.out _ _ _ _ _ S3.out ((Hr.out.go U1.out).mono fun z hz => ⟨hz, rfl⟩)).mono ?_
    rintro x w5 ⟨rfl, S4⟩
    obtain ⟨v, hv⟩ := S4.wr
    obtain ⟨a3, c3', rfl, G⟩ := hv.made (w0 := w1) S4.below U1.out (by omega)
    have e0 : w5.cell? ⟨w1.heap.size, 0, none⟩ = some (.slice a3 (numB e ++ numB k ++ numB u ++ frB ⟨fk, fh, fe, fo, ft⟩).length c3') := hv.blk.cell 0
    have G := Lib.hid G
    clear S3 HP4 S4 hv U1 c3 c4 c5 c6 c7 c8
    generalize MadeP (numB e ++ numB k ++ numB u ++ frB ⟨fk, fh, fe, fo, ft⟩) w = MP at *
    generalize (numB e ++ numB k ++ numB u ++ frB ⟨fk, fh, fe, fo, ft⟩).length = ll at *
    go_wp2_with fail
    exact G.out
end Go.Proofs.YtdbdhpjjndhjiaaDoor

set_option linter.unusedSimpArgs false
namespace Go.Proofs.YtdbdhpjjndhjiaaDoor
open Go.RowKit

/-- a frame under way: the reader (block b), the result (block R), the frame (block X) -/
structure FSt (w : World) (b R X : Nat) (k h e : Int) (v : Value) (t : Str) (r : Rd) (W : World) : Prop where
  rd : Rdr b r W
  box : Blk X (.cells #[.int .i64 k, .int .i64 h, .int .i64 e, v, .string t] 53 (0, 0)) W
  res : Blk R (.cells #[.int .i64 0, .int .i64 0, .int .i64 0, .slice none 0 0, .string noText] 53 (0, 0)) W
  only : Only b w W
  hb : b < w.heap.size
  hR : w.heap.size ≤ R
  hX : R < X
section
variable {w W W' : World} {b R X : Nat} {k h e : Int} {v : Value} {t : Str} {r r' : Rd}
theorem FSt.call (s : FSt w b R X k h e v t r W) (hr : Rdr b r' W') (ht : Only b W W') : FSt w b R X k h e v t r' W' :=
  have h1 := s.hb
  have h2 := s.hR
  have h3 := s.hX
  ⟨hr, s.box.touch ht (by omega), s.res.touch ht (by omega), s.only.trans ht, s.hb, s.hR, s.hX⟩
theorem FSt.put {i : Nat} {x : Value} (s : FSt w b R X k h e v t r W) : Rdr b r (W.setCell ⟨X, i, none⟩ x) ∧ Blk R (.cells #[.int .i64 0, .int .i64 0, .int .i64 0, .slice none 0 0, .string noText] 53 (0, 0)) (W.setCell ⟨X, i, none⟩ x) ∧ Only b w (W.setCell ⟨X, i, none⟩ x) :=
  have h1 := s.hb
  have h2 := s.hR
  have h3 := s.hX
  ⟨s.rd.below ((Below.refl _ _).setCell (p := ⟨X, i, none⟩) (by show b + 1 ≤ X; omega) _), s.res.other (by show X ≠ R; omega) _, s.only.setCell (p := ⟨X, i, none⟩) (.inr (by show w.heap.size ≤ X; omega)) _⟩
theorem FSt.heard (s : FSt w b R X k h e v t r W) (x : Int) : FSt w b R X k x e v t r (W.setCell ⟨X, 1, none⟩ (.int .i64 x)) :=
  have p := s.put (i := 1) (x := .int .i64 x)
  ⟨p.1, s.box.set 1 _, p.2.1, p.2.2, s.hb, s.hR, s.hX⟩
theorem FSt.epoch (s : FSt w b R X k h e v t r W) (x : Int) : FSt w b R X k h x v t r (W.setCell ⟨X, 2, none⟩ (.int .i64 x)) :=
  have p := s.put (i := 2) (x := .int .i64 x)
  ⟨p.1, s.box.set 2 _, p.2.1, p.2.2, s.hb, s.hR, s.hX⟩
theorem FSt.op (s : FSt w b R X k h e v t r W) (x : Value) : FSt w b R X k h e x t r (W.setCell ⟨X, 3, none⟩ x) :=
  have p := s.put (i := 3) (x := x)
  ⟨p.1, s.box.set 3 _, p.2.1, p.2.2, s.hb, s.hR, s.hX⟩
theorem FSt.text (s : FSt w b R X k h e v t r W) (x : Str) : FSt w b R X k h e v x r (W.setCell ⟨X, 4, none⟩ (.string x)) :=
  have p := s.put (i := 4) (x := .string x)
  ⟨p.1, s.box.set 4 _, p.2.1, p.2.2, s.hb, s.hR, s.hX⟩
theorem FSt.size (s : FSt w b R X k h e v t r W) : X < W.heap.size := s.box.lt
theorem FSt.fin {a : Option Addr} {n c : Nat} {o : Op} (s : FSt w b R X k h e (.slice a n c) t r W) (ho : RdS (fun z => X < z ∧ z < W.heap.size) W o a n c) :
    (Blk R (.cells #[.int .i64 k, .int .i64 h, .int .i64 e, .slice a n c, .string t] 53 (0, 0)) (((((W.setCell ⟨R, 0, none⟩ (.int .i64 k)).setCell ⟨R, 1, none⟩ (.int .i64 h)).setCell ⟨R, 2, none⟩ (.int .i64 e)).setCell ⟨R, 3, none⟩ (.slice a n c)).setCell ⟨R, 4, none⟩ (.string t))) ∧
    RdS (fun z => w.heap.size ≤ z ∧ z < (((((W.setCell ⟨R, 0, none⟩ (.int .i64 k)).setCell ⟨R, 1, none⟩ (.int .i64 h)).setCell ⟨R, 2, none⟩ (.int .i64 e)).setCell ⟨R, 3, none⟩ (.slice a n c)).setCell ⟨R, 4, none⟩ (.string t)).heap.size) (((((W.setCell ⟨R, 0, none⟩ (.int .i64 k)).setCell ⟨R, 1, none⟩ (.int .i64 h)).setCell ⟨R, 2, none⟩ (.int .i64 e)).setCell ⟨R, 3, none⟩ (.slice a n c)).setCell ⟨R, 4, none⟩ (.string t)) o a n c ∧
    Rdr b r (((((W.setCell ⟨R, 0, none⟩ (.int .i64 k)).setCell ⟨R, 1, none⟩ (.int .i64 h)).setCell ⟨R, 2, none⟩ (.int .i64 e)).setCell ⟨R, 3, none⟩ (.slice a n c)).setCell ⟨R, 4, none⟩ (.string t)) ∧
    Only b w (((((W.setCell ⟨R, 0, none⟩ (.int .i64 k)).setCell ⟨R, 1, none⟩ (.int .i64 h)).setCell ⟨R, 2, none⟩ (.int .i64 e)).setCell ⟨R, 3, none⟩ (.slice a n c)).setCell ⟨R, 4, none⟩ (.string t)) := by
  have h1 := s.hb
  have h2 := s.hR
  have h3 := s.hX
  refine ⟨set5 s.res _ _ _ _ _, ho.mono fun z hz => ⟨⟨by omega, by rw [size_set5]; exact hz.2⟩, heap_far5 (by omega) _ _ _ _ _⟩, s.rd.below (below_set5 (Below.refl _ _) (by omega) _ _ _ _ _), ?_⟩
  exact ((((s.only.setCell (p := ⟨R, 0, none⟩) (.inr h2) _).setCell (p := ⟨R, 1, none⟩) (.inr h2) _).setCell (p := ⟨R, 2, none⟩) (.inr h2) _).setCell (p := ⟨R, 3, none⟩) (.inr h2) _).setCell (p := ⟨R, 4, none⟩) (.inr h2) _
end
/-- what a call of frame leaves -/
def RFrP (b : Nat) (r : Rd) (w : World) (x : Ending) (w' : World) : Prop :=
  ∃ (a : Option Addr) (c : Nat), x = .returned (.agg #[.int .i64 r.frame.1.kind, .int .i64 r.frame.1.heard, .int .i64 r.frame.1.epoch, .slice a r.frame.1.op.length c, .string r.frame.1.text]) ∧ RdS (fun k => w.heap.size ≤ k ∧ k < w'.heap.size) w' r.frame.1.op a r.frame.1.op.length c ∧ Rdr b r.frame.2 w' ∧ Only b w w'
theorem op_rest (r : Rd) : True := trivial
set_option maxRecDepth 100000 in
set_option maxHeartbeats 4000000 in
theorem rframe_any (b : Nat) (r : Rd) (w : World) (h : Rdr b r w) (hM : r.rest.length ≤ 1000000000) :
    Calls Tryd.prog 45 #[.pointer (some ⟨b, 0, none⟩)] w (RFrP b r w) := by
  have hbl := h.lt
  have hpath : (r.take.1 = 1 → r.frame = (⟨1, r.take.2.take.1, 0, r.take.2.take.2.op.1, noText⟩, r.take.2.take.2.op.2)) ∧ (r.take.1 = 3 → r.frame = (⟨3, 0, r.take.2.take.1, [], r.take.2.take.2.text.1⟩, r.take.2.take.2.text.2)) ∧
      (r.take.1 ≠ 1 → r.take.1 ≠ 3 → r.frame = (⟨(r.take.1 : Int), r.take.2.take.2.take.1, r.take.2.take.1, [], noText⟩, r.take.2.take.2.take.2)) := by
    unfold Rd.frame Rd.frameK
    refine ⟨fun h => ?_, fun h => ?_, fun h1 h3 => ?_⟩
    · rw [h, if_pos rfl]; rfl
    · rw [h, if_neg (by omega), if_pos rfl]; rfl
    · rw [if_neg h1, if_neg h3]
  have hl1 := take_rest r
  have hl2 := take_rest r.take.2
  have hl3 := take_lt r
  have Hend : Hid (∀ f q, r.frame = (f, q) → ∀ a c W, RdS (fun k => w.heap.size ≤ k ∧ k < W.heap.size) W f.op a f.op.length c → Rdr b q W → Only b w W → RFrP b r w (.returned (.agg #[.int .i64 f.kind, .int .i64 f.heard, .int .i64 f.epoch, .slice a f.op.length c, .string f.text])) W) := by
    intro f q hf a c W h1 h2 h3
    unfold RFrP
    rw [hf]
    exact ⟨a, c, rfl, h1, h2, h3⟩
  have H0 := Lib.hid (h.go ((Below.refl w.heap.size w).alloc (Nat.le_refl _) (.cells #[.int .i64 0, .int .i64 0, .int .i64 0, .slice none 0 0, .string noText] 53)))
  have HT1 := Lib.hid (fun W h => take_any b r W h)
  have HT2 := Lib.hid (fun W h => take_any b r.take.2 W h)
  unfold TakeP at HT1 HT2
  generalize RFrP b r w = RP at *
  generalize r.frame = rf at *
  generalize r.take = x1 at *
  obtain ⟨n1, q1⟩ := x1
  simp only at *
  have HT3 := Lib.hid (fun W h => take_any b q1.take.2 W h)
  have HX3 := Lib.hid (fun W h => rtext_any b q1.take.2 W h)
  have HO3 := Lib.hid (fun W h => rop_any b q1.take.2 W h (by omega))
  have htz := Lib.hid (text_size q1.take.2)
  unfold TakeP at HT3
  unfold RTextP at HX3
  unfold RopP at HO3
  generalize q1.take = x2 at *
  obtain ⟨n2, q2⟩ := x2
  simp only at *
  clear h
  go_enter Tryd.func45, Tryd.ntmps45
  go_wp2_with fail
  refine (HT1.out _ H0.out).mono ?_
  rintro x w1 ⟨rfl, r1, t1⟩
  have hz1 := t1.size
  simp at hz1
  have S1 : Hid (FSt w b w.heap.size w1.heap.size n1 0 0 (.slice none 0 0) noText q1 (w1.alloc (.cells #[.int .i64 (n1 : Int), .int .i64 0, .int .i64 0, .slice none 0 0, .string noText] 53))) :=
    ⟨r1.go ((Below.refl _ _).alloc (Nat.le_refl _) _), Blk.new _ _, ((Blk.new w _).touch t1 (by omega)).alloc _, (((Touch.refl _ _).alloc _).trans t1).alloc _, hbl, Nat.le_refl _, by omega⟩
  clear H0 HT1 r1 t1
  by_cases k1 : n1 = 1
  · subst k1
    have hp := hpath.1 rfl
    have Hfin := Lib.hid (Hend.out _ _ hp)
    clear hpath Hend hp HT3 HX3 htz
    go_wp2_with fail
    refine (HT2.out _ S1.out.rd).mono ?_
    rintro x w2 ⟨rfl, r2, t2⟩
    have S2 := Lib.hid ((S1.out.call r2 t2).heard n2)
    have c1 : w2.frozen? ⟨w1.heap.size, 1, none⟩ = false := (S1.out.call r2 t2).box.frozen 1
    have c0 : w2.cell? ⟨w1.heap.size, 1, none⟩ = some (.int .i64 0) := (S1.out.call r2 t2).box.cell 1
    clear S1 HT2 r2 t2
    go_wp2_with fail
    refine (HO3.out _ S2.out.rd).mono ?_
    rintro x w3 ⟨a3, cp3, rfl, ro, r3, t3, -⟩
    have ho : RdS (fun z => w1.heap.size < z ∧ z < w3.heap.size) w3 q2.op.1 a3 q2.op.1.length cp3 := ro.mono fun z hz => ⟨⟨by have := S2.out.size; omega, hz.2⟩, rfl⟩
    have s3 := (S2.out.call r3 t3)
    have c2 : w3.frozen? ⟨w1.heap.size, 3, none⟩ = false := s3.box.frozen 3
    have c3 : w3.cell? ⟨w1.heap.size, 3, none⟩ = some (.slice none 0 0) := s3.box.cell 3
    have c4 : w3.cell? ⟨w1.heap.size, 0, none⟩ = some (.int .i64 1) := s3.box.cell 0
    have c5 : w3.cell? ⟨w1.heap.size, 1, none⟩ = some (.int .i64 (n2 : Int)) := s3.box.cell 1
    have c6 : w3.cell? ⟨w1.heap.size, 2, none⟩ = some (.int .i64 0) := s3.box.cell 2
    have c7 : w3.cell? ⟨w1.heap.size, 4, none⟩ = some (.string noText) := s3.box.cell 4
    obtain ⟨e1, e2, e3, e4⟩ := (s3.op (.slice a3 q2.op.1.length cp3)).fin (ho.mono fun z hz => ⟨⟨hz.1, by simpa using hz.2⟩, Below.heap_setCell _ _ _ _ (by show z ≠ w1.heap.size; omega)⟩)
    have E1 := Lib.hid e1
    have E2 := Lib.hid (Hfin.out _ _ _ e2 e3 e4)
    have g0 : ∀ i, w3.frozen? ⟨w.heap.size, i, none⟩ = false := fun i => s3.res.frozen i
    have g1 : w3.cell? ⟨w.heap.size, 0, none⟩ = some (.int .i64 0) := s3.res.cell 0
    have g2 : w3.cell? ⟨w.heap.size, 1, none⟩ = some (.int .i64 0) := s3.res.cell 1
    have g3 : w3.cell? ⟨w.heap.size, 2, none⟩ = some (.int .i64 0) := s3.res.cell 2
    have g4 : w3.cell? ⟨w.heap.size, 3, none⟩ = some (.slice none 0 0) := s3.res.cell 3
    have g5 : w3.cell? ⟨w.heap.size, 4, none⟩ = some (.string noText) := s3.res.cell 4
    have hz3 := s3.res.lt
    have hz4 := s3.box.lt
    clear S2 HO3 ro ho r3 t3 s3 e1 e2 e3 e4 Hfin
    generalize q2.op.1.length = lo at *
    generalize hno : noText = nt at *
    go_wp2_with fail
    refine abs_ret (fun W => Blk w.heap.size (.cells #[.int .i64 1, .int .i64 (n2 : Int), .int .i64 0, .slice a3 lo cp3, .string nt] 53 (0, 0)) W ∧ RP (.returned (.agg #[.int .i64 1, .int .i64 (n2 : Int), .int .i64 0, .slice a3 lo cp3, .string nt])) W) ⟨E1.out, E2.out⟩ ?_
    rintro W ⟨y1, y2⟩
    have k0 : W.cell? ⟨w.heap.size, 0, none⟩ = some (.int .i64 1) := y1.cell 0
    have k1 : W.cell? ⟨w.heap.size, 1, none⟩ = some (.int .i64 (n2 : Int)) := y1.cell 1
    have k2 : W.cell? ⟨w.heap.size, 2, none⟩ = some (.int .i64 0) := y1.cell 2
    have k3 : W.cell? ⟨w.heap.size, 3, none⟩ = some (.slice a3 lo cp3) := y1.cell 3
    have k4 : W.cell? ⟨w.heap.size, 4, none⟩ = some (.string nt) := y1.cell 4
    refine bodyPost_ret (v := .agg #[.int .i64 1, .int .i64 (n2 : Int), .int .i64 0, .slice a3 lo cp3, .string nt]) (by simp [results, Tryd.results45, go_sem, k0, k1, k2, k3, k4]) rfl y2
  · by_cases k3 : n1 = 3
    · subst k3
      have hp := hpath.2.1 rfl
      have Hfin := Lib.hid (Hend.out _ _ hp)
      clear hpath Hend hp HT3 HO3 k1
      go_wp2_with fail
      refine (HT2.out _ S1.out.rd).mono ?_
      rintro x w2 ⟨rfl, r2, t2⟩
      have S2 := Lib.hid ((S1.out.call r2 t2).epoch n2)
      have c1 : w2.frozen? ⟨w1.heap.size, 2, none⟩ = false := (S1.out.call r2 t2).box.frozen 2
      have c0 : w2.cell? ⟨w1.heap.size, 2, none⟩ = some (.int .i64 0) := (S1.out.call r2 t2).box.cell 2
      have c8 : w2.cell? ⟨w1.heap.size, 0, none⟩ = some (.int .i64 3) := (S1.out.call r2 t2).box.cell 0
      clear S1 HT2 r2 t2
      go_wp2_with fail
      refine (HX3.out _ S2.out.rd).mono ?_
      rintro x w3 ⟨rfl, r3, t3⟩
      have s3 := (S2.out.call r3 t3)
      have c2 : w3.frozen? ⟨w1.heap.size, 4, none⟩ = false := s3.box.frozen 4
      have c3 : w3.cell? ⟨w1.heap.size, 4, none⟩ = some (.string noText) := s3.box.cell 4
      have c4 : w3.cell? ⟨w1.heap.size, 0, none⟩ = some (.int .i64 3) := s3.box.cell 0
      have c5 : w3.cell? ⟨w1.heap.size, 1, none⟩ = some (.int .i64 0) := s3.box.cell 1
      have c6 : w3.cell? ⟨w1.heap.size, 2, none⟩ = some (.int .i64 (n2 : Int)) := s3.box.cell 2
      have c7 : w3.cell? ⟨w1.heap.size, 3, none⟩ = some (.slice none 0 0) := s3.box.cell 3
      obtain ⟨e1, e2, e3, e4⟩ := (s3.text q2.text.1).fin (RdS.empty (α := Part) _ _ _)
      have E1 := Lib.hid e1
      have E2 := Lib.hid (Hfin.out _ _ _ e2 e3 e4)
      have g0 : ∀ i, w3.frozen? ⟨w.heap.size, i, none⟩ = false := fun i => s3.res.frozen i
      have g1 : w3.cell? ⟨w.heap.size, 0, none⟩ = some (.int .i64 0) := s3.res.cell 0
      have g2 : w3.cell? ⟨w.heap.size, 1, none⟩ = some (.int .i64 0) := s3.res.cell 1
      have g3 : w3.cell? ⟨w.heap.size, 2, none⟩ = some (.int .i64 0) := s3.res.cell 2
      have g4 : w3.cell? ⟨w.heap.size, 3, none⟩ = some (.slice none 0 0) := s3.res.cell 3
      have g5 : w3.cell? ⟨w.heap.size, 4, none⟩ = some (.string noText) := s3.res.cell 4
      have hz3 := s3.res.lt
      have hz4 := s3.box.lt
      clear S2 HX3 r3 t3 s3 e1 e2 e3 e4 Hfin
      generalize q2.text.1 = nt at *
      generalize hno : noText = nx at *
      clear hno
      go_wp2_with fail
      refine abs_ret (fun W => Blk w.heap.size (.cells #[.int .i64 3, .int .i64 0, .int .i64 (n2 : Int), .slice none 0 0, .string nt] 53 (0, 0)) W ∧ RP (.returned (.agg #[.int .i64 3, .int .i64 0, .int .i64 (n2 : Int), .slice none 0 0, .string nt])) W) ⟨E1.out, E2.out⟩ ?_
      rintro W ⟨y1, y2⟩
      have k0 : W.cell? ⟨w.heap.size, 0, none⟩ = some (.int .i64 3) := y1.cell 0
      have k1 : W.cell? ⟨w.heap.size, 1, none⟩ = some (.int .i64 0) := y1.cell 1
      have k2 : W.cell? ⟨w.heap.size, 2, none⟩ = some (.int .i64 (n2 : Int)) := y1.cell 2
      have k3 : W.cell? ⟨w.heap.size, 3, none⟩ = some (.slice none 0 0) := y1.cell 3
      have k4 : W.cell? ⟨w.heap.size, 4, none⟩ = some (.string nt) := y1.cell 4
      refine bodyPost_ret (v := .agg #[.int .i64 3, .int .i64 0, .int .i64 (n2 : Int), .slice none 0 0, .string nt]) (by simp [results, Tryd.results45, go_sem, k0, k1, k2, k3, k4]) rfl y2
    · have hp := hpath.2.2 k1 k3
      have Hfin := Lib.hid (Hend.out _ _ hp)
      have hb1 : ((n1 : Int) == 1) = false := by simp; omega
      have hb3 : ((n1 : Int) == 3) = false := by simp; omega
      clear hpath Hend hp HX3 HO3 k1 k3
      go_wp2_with fail
      refine (HT2.out _ S1.out.rd).mono ?_
      rintro x w2 ⟨rfl, r2, t2⟩
      have S2 := Lib.hid ((S1.out.call r2 t2).epoch n2)
      have c1 : w2.frozen? ⟨w1.heap.size, 2, none⟩ = false := (S1.out.call r2 t2).box.frozen 2
      have c0 : w2.cell? ⟨w1.heap.size, 2, none⟩ = some (.int .i64 0) := (S1.out.call r2 t2).box.cell 2
      have c8 : w2.cell? ⟨w1.heap.size, 0, none⟩ = some (.int .i64 (n1 : Int)) := (S1.out.call r2 t2).box.cell 0
      clear S1 HT2 r2 t2
      go_wp2_with fail
      refine (HT3.out _ S2.out.rd).mono ?_
      rintro x w3 ⟨rfl, r3, t3⟩
      have s3 := (S2.out.call r3 t3)
      have c2 : w3.frozen? ⟨w1.heap.size, 1, none⟩ = false := s3.box.frozen 1
      have c3 : w3.cell? ⟨w1.heap.size, 1, none⟩ = some (.int .i64 0) := s3.box.cell 1
      have c4 : w3.cell? ⟨w1.heap.size, 0, none⟩ = some (.int .i64 (n1 : Int)) := s3.box.cell 0
      have c5 : w3.cell? ⟨w1.heap.size, 4, none⟩ = some (.string noText) := s3.box.cell 4
      have c6 : w3.cell? ⟨w1.heap.size, 2, none⟩ = some (.int .i64 (n2 : Int)) := s3.box.cell 2
      have c7 : w3.cell? ⟨w1.heap.size, 3, none⟩ = some (.slice none 0 0) := s3.box.cell 3
      obtain ⟨e1, e2, e3, e4⟩ := (s3.heard q2.take.1).fin (RdS.empty (α := Part) _ _ _)
      have E1 := Lib.hid e1
      have E2 := Lib.hid (Hfin.out _ _ _ e2 e3 e4)
      have g0 : ∀ i, w3.frozen? ⟨w.heap.size, i, none⟩ = false := fun i => s3.res.frozen i
      have g1 : w3.cell? ⟨w.heap.size, 0, none⟩ = some (.int .i64 0) := s3.res.cell 0
      have g2 : w3.cell? ⟨w.heap.size, 1, none⟩ = some (.int .i64 0) := s3.res.cell 1
      have g3 : w3.cell? ⟨w.heap.size, 2, none⟩ = some (.int .i64 0) := s3.res.cell 2
      have g4 : w3.cell? ⟨w.heap.size, 3, none⟩ = some (.slice none 0 0) := s3.res.cell 3
      have g5 : w3.cell? ⟨w.heap.size, 4, none⟩ = some (.string noText) := s3.res.cell 4
      have hz3 := s3.res.lt
      have hz4 := s3.box.lt
      clear S2 HT3 r3 t3 s3 e1 e2 e3 e4 Hfin
      generalize hno : noText = nt at *
      clear hno
      go_wp2_with fail
      refine abs_ret (fun W => Blk w.heap.size (.cells #[.int .i64 (n1 : Int), .int .i64 ((q2.take.1 : Nat) : Int), .int .i64 (n2 : Int), .slice none 0 0, .string nt] 53 (0, 0)) W ∧ RP (.returned (.agg #[.int .i64 (n1 : Int), .int .i64 ((q2.take.1 : Nat) : Int), .int .i64 (n2 : Int), .slice none 0 0, .string nt])) W) ⟨E1.out, E2.out⟩ ?_
      rintro W ⟨y1, y2⟩
      have k0 : W.cell? ⟨w.heap.size, 0, none⟩ = some (.int .i64 (n1 : Int)) := y1.cell 0
      have k1 : W.cell? ⟨w.heap.size, 1, none⟩ = some (.int .i64 ((q2.take.1 : Nat) : Int)) := y1.cell 1
      have k2 : W.cell? ⟨w.heap.size, 2, none⟩ = some (.int .i64 (n2 : Int)) := y1.cell 2
      have k3 : W.cell? ⟨w.heap.size, 3, none⟩ = some (.slice none 0 0) := y1.cell 3
      have k4 : W.cell? ⟨w.heap.size, 4, none⟩ = some (.string nt) := y1.cell 4
      refine bodyPost_ret (v := .agg #[.int .i64 (n1 : Int), .int .i64 ((q2.take.1 : Nat) : Int), .int .i64 (n2 : Int), .slice none 0 0, .string nt]) (by simp [results, Tryd.results45, go_sem, k0, k1, k2, k3, k4]) rfl y2
end Go.Proofs.YtdbdhpjjndhjiaaDoor

set_option linter.unusedSimpArgs false
namespace Go.Proofs.YtdbdhpjjndhjiaaDoor
open Go.RowKit

set_option maxRecDepth 100000 in
set_option maxHeartbeats 1000000 in
theorem decPacket_long (b : Bs) (a : Option Addr) (n c : Nat) (w : World) (hr : RdS (· < w.heap.size) w b a n c) (hl : 50000 < b.length) :
    Calls Tryd.prog 23 #[.slice a n c] w fun e w' => e = .returned (.tuple #[.agg #[.int .i64 0, .int .i64 0, .bool false, .int .i64 0, .int .i64 0, .int .i64 0, .int .i64 0, .slice none 0 0, .string ⟨#[]⟩], .int .i64 1]) ∧ Below w.heap.size w w' := by
  have hn := hr.1
  have hnm : n ≤ maxLen := Nat.le_trans hr.2.1 hr.2.2.1
  unfold maxLen at hnm
  have hnI : decide ((50000 : Int) < (n : Int)) = true := by simp; omega
  clear hr hl hn
  go_enter Tryd.func23, Tryd.ntmps23
  go_wp2_with fail
  refine bodyPost_ret (v := .tuple #[.agg #[.int .i64 0, .int .i64 0, .bool false, .int .i64 0, .int .i64 0, .int .i64 0, .int .i64 0, .slice none 0 0, .string ⟨#[]⟩], .int .i64 1]) (by simp [results, Tryd.results23, go_sem]) rfl ?_
  exact ⟨rfl, by (repeat (first | exact Below.refl _ _ | assumption | (refine Below.drew ?_) | (refine below_drewN ?_ _) | (refine Below.alloc ?_ (by first | (simp; done) | (simp; omega) | omega) _) | (refine Below.setCell ?_ (by first | (simp; done) | (simp; omega) | omega) _) | (refine Below.trans ?_ (Below.mono (by assumption) (by first | (simp; done) | (simp; omega) | omega)))))⟩
end Go.Proofs.YtdbdhpjjndhjiaaDoor

set_option linter.unusedSimpArgs false
namespace Go.Proofs.YtdbdhpjjndhjiaaDoor
open Go.RowKit

abbrev pkt0 : Array Value := #[.int .i64 0, .int .i64 0, .bool false, .int .i64 0, .int .i64 0, .int .i64 0, .int .i64 0, .slice none 0 0, .string noText]
abbrev pktC (p : Pkt) (v : Value) : Array Value := #[.int .i64 p.epoch, .int .i64 p.number, .bool p.bare, .int .i64 p.ack, .int .i64 p.f.kind, .int .i64 p.f.heard, .int .i64 p.f.epoch, v, .string p.f.text]
/-- a packet under way: the reader (block b), the packet (block X), the result (block w.heap.size) -/
structure PSt (w : World) (b X : Nat) (cs : Array Value) (r : Rd) (W : World) : Prop where
  rd : Rdr b r W
  box : Blk X (.cells cs 55 (0, 0)) W
  res : Blk w.heap.size (.cells #[.int .i64 0, .int .i64 0, .bool false, .int .i64 0, .int .i64 0, .int .i64 0, .int .i64 0, .slice none 0 0, .string noText] 55 (0, 0)) W
  below : Below w.heap.size w W
  blt : w.heap.size < b
  xlt : b < X
theorem PSt.call {w W W' : World} {b X : Nat} {cs : Array Value} {r r' : Rd} (s : PSt w b X cs r W) (hr : Rdr b r' W') (ht : Only b W W') : PSt w b X cs r' W' :=
  have h1 := s.blt
  have h2 := s.xlt
  have h3 := s.rd.lt
  ⟨hr, s.box.touch ht (by omega), s.res.touch ht (by omega), s.below.trans ((only_below ht (by omega)).mono (by omega)), s.blt, s.xlt⟩
theorem PSt.put {w W : World} {b X : Nat} {cs : Array Value} {r : Rd} (s : PSt w b X cs r W) (i : Nat) (x : Value) : PSt w b X (cs.setIfInBounds i x) r (W.setCell ⟨X, i, none⟩ x) :=
  have h1 := s.blt
  have h2 := s.xlt
  ⟨s.rd.below ((Below.refl _ _).setCell (p := ⟨X, i, none⟩) (by show b + 1 ≤ X; omega) _), s.box.set i x, s.res.other (by show X ≠ w.heap.size; omega) _, s.below.setCell (p := ⟨X, i, none⟩) (by show w.heap.size ≤ X; omega) _, s.blt, s.xlt⟩
/-- what stands behind the last read -/
structure Dpk (w : World) (b X : Nat) (p : Pkt) (a : Option Addr) (c : Nat) (r : Rd) (W : World) : Prop where
  st : PSt w b X (pktC p (.slice a p.f.op.length c)) r W
  op : RdS (fun k => w.heap.size ≤ k ∧ k < W.heap.size ∧ k ≠ b ∧ k ≠ w.heap.size ∧ k ≠ X) W p.f.op a p.f.op.length c
theorem Dpk.go {w W W' : World} {b X : Nat} {p : Pkt} {a : Option Addr} {c : Nat} {r : Rd} (h : Dpk w b X p a c r W) (hb : Below W.heap.size W W') : Dpk w b X p a c r W' :=
  ⟨⟨h.st.rd.go hb, h.st.box.go hb, h.st.res.go hb, up h.st.below hb, h.st.blt, h.st.xlt⟩, h.op.mono fun k hk => ⟨⟨hk.1, Nat.lt_of_lt_of_le hk.2.1 hb.size, hk.2.2⟩, hb.block k hk.2.1⟩⟩
/-- what a call of a reader of packets leaves -/
def DPkP (x : Pkt × Int) (w : World) (e : Ending) (w' : World) : Prop :=
  ∃ (a : Option Addr) (c : Nat), e = .returned (.tuple #[.agg (pktC x.1 (.slice a x.1.f.op.length c)), .int .i64 x.2]) ∧ RdS (fun k => w.heap.size ≤ k ∧ k < w'.heap.size) w' x.1.f.op a x.1.f.op.length c ∧ Below w.heap.size w w'
theorem frame_fit (r : Rd) (hM : r.rest.length ≤ 1000000000) : I64 r.frame.1.kind ∧ I64 r.frame.1.heard ∧ I64 r.frame.1.epoch ∧ r.frame.1.text.size ≤ strMax := by
  have h1 := take_lt r
  have h2 := take_lt r.take.2
  have h3 := take_lt r.take.2.take.2
  have h4 := text_size r.take.2.take.2
  have h5 := take_rest r
  have h6 := take_rest r.take.2
  unfold Rd.frame Rd.frameK I64 strMax
  by_cases k1 : r.take.1 = 1
  · rw [if_pos k1]; simp only [noText_size]; exact ⟨by omega, by omega, by omega, by omega⟩
  · rw [if_neg k1]
    by_cases k3 : r.take.1 = 3
    · rw [if_pos k3]; exact ⟨by simp only; omega, by simp only; omega, by simp only; omega, by simp only; omega⟩
    · rw [if_neg k3]; simp only [noText_size]; exact ⟨by omega, by omega, by omega, by omega⟩
theorem blk_set9' {w : World} {g T : Nat} (h : Blk g (.cells #[.int .i64 0, .int .i64 0, .bool false, .int .i64 0, .int .i64 0, .int .i64 0, .int .i64 0, .slice none 0 0, .string noText] T (0, 0)) w) (v0 v1 v2 v3 v4 v5 v6 v7 v8 : Value) : Blk g (.cells #[v0, v1, v2, v3, v4, v5, v6, v7, v8] T (0, 0)) (((((((((w.setCell ⟨g, 0, none⟩ v0).setCell ⟨g, 1, none⟩ v1).setCell ⟨g, 2, none⟩ v2).setCell ⟨g, 3, none⟩ v3).setCell ⟨g, 4, none⟩ v4).setCell ⟨g, 5, none⟩ v5).setCell ⟨g, 6, none⟩ v6).setCell ⟨g, 7, none⟩ v7).setCell ⟨g, 8, none⟩ v8) := blk_set9 h v0 v1 v2 v3 v4 v5 v6 v7 v8
theorem below_set9 {B : Nat} {w0 w : World} {g : Nat} (h : Below B w0 w) (hg : B ≤ g) (v0 v1 v2 v3 v4 v5 v6 v7 v8 : Value) : Below B w0 (((((((((w.setCell ⟨g, 0, none⟩ v0).setCell ⟨g, 1, none⟩ v1).setCell ⟨g, 2, none⟩ v2).setCell ⟨g, 3, none⟩ v3).setCell ⟨g, 4, none⟩ v4).setCell ⟨g, 5, none⟩ v5).setCell ⟨g, 6, none⟩ v6).setCell ⟨g, 7, none⟩ v7).setCell ⟨g, 8, none⟩ v8) :=
  ((((((((h.setCell (p := ⟨g, 0, none⟩) hg _).setCell (p := ⟨g, 1, none⟩) hg _).setCell (p := ⟨g, 2, none⟩) hg _).setCell (p := ⟨g, 3, none⟩) hg _).setCell (p := ⟨g, 4, none⟩) hg _).setCell (p := ⟨g, 5, none⟩) hg _).setCell (p := ⟨g, 6, none⟩) hg _).setCell (p := ⟨g, 7, none⟩) hg _).setCell (p := ⟨g, 8, none⟩) hg _
set_option maxRecDepth 100000 in
set_option maxHeartbeats 20000000 in
theorem decPkt_any (b : Bs) (a : Option Addr) (n c : Nat) (w : World) (hg : Good w) (hr : RdS (· < w.heap.size) w b a n c) :
    Calls Tryd.prog 23 #[.slice a n c] w (DPkP (decPkt b) w) := by
  by_cases hl : 50000 < b.length
  · refine (decPacket_long b a n c w hr hl).mono ?_
    rintro e w' ⟨rfl, hb⟩
    have hd : decPkt b = (noPkt, 1) := by unfold decPkt; rw [if_pos hl]
    rw [hd]
    exact ⟨none, 0, rfl, RdS.empty _ _ _, hb⟩
  · have hn := hr.1
    have hn5 : n ≤ 50000 := by omega
    have hnI : decide ((50000 : Int) < (n : Int)) = false := by simp; omega
    have HCl := Lib.hid (fun W (hW : Below w.heap.size w W) => cloneB_any b a n c W (hr.go hW) (by omega))
    have hd : decPkt b = if pktFault b = 0 then ((rdPkt b).1, 0) else (noPkt, pktFault b) := by unfold decPkt; rw [if_neg hl]
    have hbl : b.length ≤ 50000 := by omega
    have Hok0 : Hid (pktFault b = 0 → ∀ x, (rdPkt b).1 = x → ∀ a c W, RdS (fun k => w.heap.size ≤ k ∧ k < W.heap.size) W x.f.op a x.f.op.length c → Below w.heap.size w W → DPkP (decPkt b) w (.returned (.tuple #[.agg (pktC x (.slice a x.f.op.length c)), .int .i64 0])) W) := by
      intro h x hx a c W h1 h2
      rw [hd, if_pos h, hx]
      exact ⟨a, c, rfl, h1, h2⟩
    have Hbad0 : Hid (∀ F, pktFault b = F → F ≠ 0 → ∀ W, Below w.heap.size w W → DPkP (decPkt b) w (.returned (.tuple #[.agg #[.int .i64 0, .int .i64 0, .bool false, .int .i64 0, .int .i64 0, .int .i64 0, .int .i64 0, .slice none 0 0, .string noText], .int .i64 F])) W) := by
      intro F hF h0 W h2
      rw [hd, if_neg (by rw [hF]; exact h0), hF]
      exact ⟨none, 0, rfl, RdS.empty _ _ _, h2⟩
    have Hrf0 : Hid (∀ p r, rdPktR ⟨b, 0⟩ = (p, r) → (rdPkt b).1 = p ∧ pktFault b = if r.done.fault = 0 then p.check else r.done.fault) := by
      intro p r h
      unfold pktFault rdPkt
      rw [h]
      exact ⟨rfl, rfl⟩
    have hR : rdPktR ⟨b, 0⟩ = rdPktK (Rd.take ⟨b, 0⟩).1 (Rd.take ⟨b, 0⟩).2.take.1 (Rd.take ⟨b, 0⟩).2.take.2.take.1 (Rd.take ⟨b, 0⟩).2.take.2.take.2 := rfl
    have HT1 := Lib.hid (fun X W h => take_any X ⟨b, 0⟩ W h)
    have HT2 := Lib.hid (fun X W h => take_any X (Rd.take ⟨b, 0⟩).2 W h)
    have HT3 := Lib.hid (fun X W h => take_any X (Rd.take ⟨b, 0⟩).2.take.2 W h)
    have b1 := take_lt ⟨b, 0⟩
    have b2 := take_lt (Rd.take ⟨b, 0⟩).2
    have b3 := take_lt (Rd.take ⟨b, 0⟩).2.take.2
    have c1 := take_rest ⟨b, 0⟩
    have c2 := take_rest (Rd.take ⟨b, 0⟩).2
    have c3 := take_rest (Rd.take ⟨b, 0⟩).2.take.2
    unfold TakeP at HT1 HT2 HT3
    generalize DPkP (decPkt b) w = RP at *
    generalize (Rd.take ⟨b, 0⟩) = x1 at *
    obtain ⟨n1, q1⟩ := x1
    simp only at *
    generalize q1.take = x2 at *
    obtain ⟨n2, q2⟩ := x2
    simp only at *
    generalize q2.take = x3 at *
    obtain ⟨n3, q3⟩ := x3
    simp only at *
    have HR := Lib.hid hR
    have hq3 : q3.rest.length ≤ 1000000000 := by omega
    clear hr hd hn hl hR
    go_enter Tryd.func23, Tryd.ntmps23
    go_wp2_with fail
    refine (HCl.out _ ((Below.refl _ _).alloc (Nat.le_refl _) _)).mono ?_
    rintro e w1 ⟨a1, d1, rfl, hf1, hr1, u1⟩
    have hwb := u1.size
    simp at hwb
    have XR : Hid (Blk w.heap.size (.cells #[.int .i64 0, .int .i64 0, .bool false, .int .i64 0, .int .i64 0, .int .i64 0, .int .i64 0, .slice none 0 0, .string noText] 55 (0, 0)) w1 ∧ Below w.heap.size w w1) := ⟨(Blk.new w _).go u1, ((Below.refl _ _).alloc (Nat.le_refl _) _).trans (u1.mono (by simp))⟩
    have R0 := Lib.hid (Rdr.new hf1 (hr1.wide fun k hk => hk.2))
    clear u1 hf1 hr1 HCl
    go_wp2_with fail
    refine (HT1.out w1.heap.size _ R0.out).mono ?_
    rintro e w2 ⟨rfl, r2, t2⟩
    have hz2 := t2.size
    simp at hz2
    have S2 : Hid (PSt w w1.heap.size w2.heap.size #[.int .i64 (n1 : Int), .int .i64 0, .bool false, .int .i64 0, .int .i64 0, .int .i64 0, .int .i64 0, .slice none 0 0, .string noText] q1 (w2.alloc (.cells #[.int .i64 (n1 : Int), .int .i64 0, .bool false, .int .i64 0, .int .i64 0, .int .i64 0, .int .i64 0, .slice none 0 0, .string noText] 55))) :=
      ⟨r2.go ((Below.refl _ _).alloc (Nat.le_refl _) _), Blk.new _ _, ((XR.out.1.alloc _).touch t2 (by omega)).alloc _, ((XR.out.2.alloc (by omega) _).trans ((only_below t2 (by simp)).mono (by omega))).alloc (by omega) _, by omega, by omega⟩
    clear r2 t2 HT1 R0 XR
    go_wp2_with fail
    refine (HT2.out w1.heap.size _ S2.out.rd).mono ?_
    rintro e w3 ⟨rfl, r3, t3⟩
    have s3 := S2.out.call r3 t3
    have S3 := Lib.hid (s3.put 3 (.int .i64 (n2 : Int)))
    have g0 : w3.cell? ⟨w2.heap.size, 3, none⟩ = some (.int .i64 0) := s3.box.cell 3
    have g1 := s3.box.frozen 3
    clear r3 t3 HT2 s3
    go_wp2_with fail
    refine (HT3.out w1.heap.size _ S3.out.rd).mono ?_
    rintro e w4 ⟨rfl, r4, t4⟩
    have s4 := S3.out.call r4 t4
    have S4 := Lib.hid s4
    have g2 : w4.cell? ⟨w2.heap.size, 1, none⟩ = some (.int .i64 0) := s4.box.cell 1
    have g3 := s4.box.frozen
    have g4 : w4.cell? ⟨w2.heap.size, 2, none⟩ = some (.bool false) := s4.box.cell 2
    have hz4 := s4.box.lt
    clear r4 t4 HT3 s4 g0 g1 S3 S2
    by_cases hn3 : n3 = 0
    · have hb0 : ((n3 : Int) == 0) = true := by simp; omega
      have hp : rdPktR ⟨b, 0⟩ = (⟨n1, n3, true, n2, bareFr⟩, q3) := by rw [HR.out]; unfold rdPktK; rw [if_pos hn3]
      obtain ⟨o1, rq⟩ := Hrf0.out _ _ hp
      have hrf := Lib.hid rq
      have s5 := (S4.out.put 1 (.int .i64 (n3 : Int))).put 2 (.bool true)
      have HE := Lib.hid (end_any w1.heap.size q3 _ s5.rd)
      have S5 := Lib.hid s5
      clear S4 hn3 s5 hp rq HR
      go_wp2_with fail
      refine HE.out.mono ?_
      rintro e w6 ⟨rfl, r6, t6⟩
      have s6 := S5.out.call r6 t6
      obtain ⟨p, hpp⟩ : ∃ p : Pkt, p = ⟨n1, n3, true, n2, bareFr⟩ := ⟨_, rfl⟩
      obtain ⟨ax, hax⟩ : ∃ ax : Option Addr, ax = none := ⟨_, rfl⟩
      obtain ⟨cx, hcx⟩ : ∃ cx : Nat, cx = 0 := ⟨_, rfl⟩
      have hD : Dpk w w1.heap.size w2.heap.size p ax cx q3.done w6 := by
        subst hpp hax hcx
        exact ⟨s6, RdS.empty _ _ _⟩
      have hI : I64 p.epoch ∧ I64 p.number ∧ I64 p.ack ∧ I64 p.f.kind ∧ I64 p.f.heard ∧ I64 p.f.epoch ∧ p.f.text.size ≤ strMax := by
        subst hpp
        unfold I64 strMax
        simp only [bareFr, noText_size]
        exact ⟨by omega, by omega, by omega, by omega, by omega, by omega, by omega⟩
      have Hok : Hid (pktFault b = 0 → ∀ a c W, RdS (fun k => w.heap.size ≤ k ∧ k < W.heap.size) W p.f.op a p.f.op.length c → Below w.heap.size w W → RP (.returned (.tuple #[.agg (pktC p (.slice a p.f.op.length c)), .int .i64 0])) W) := fun h a c W h1 h2 => Hok0.out h p (o1.trans hpp.symm) _ _ _ h1 h2
      have Hbad : Hid (∀ F, pktFault b = F → F ≠ 0 → ∀ W, Below w.heap.size w W → RP (.returned (.tuple #[.agg #[.int .i64 0, .int .i64 0, .bool false, .int .i64 0, .int .i64 0, .int .i64 0, .int .i64 0, .slice none 0 0, .string noText], .int .i64 F])) W) := Hbad0.out
      rw [← hpp] at hrf
      clear s6 S5 r6 t6 HE Hok0 Hbad0 Hrf0 o1 hax hcx hpp g2 g3 g4 hz4
      generalize q3.done = r3 at *
      generalize w2.heap.size = X at *
      obtain ⟨ar, cr, -, y1, -⟩ := hD.st.rd.ex
      have e1 : w6.cell? ⟨w1.heap.size, 1, none⟩ = some (.int .i64 r3.fault) := y1.cell 1
      by_cases hf : r3.fault = 0
      · have hf0 : (r3.fault == 0) = true := by simpa using hf
        rw [hf] at e1 y1
        have HC := Lib.hid (checkPacket_any p.epoch p.number p.bare p.ack p.f.kind p.f.heard p.f.epoch p.f.op p.f.text ax p.f.op.length cx w6 (hg.go hD.st.below) (hD.op.wide fun k hk => hk.2.1) hI.1 hI.2.1 hI.2.2.1 hI.2.2.2.1 hI.2.2.2.2.1 hI.2.2.2.2.2.1 hI.2.2.2.2.2.2)
        obtain ⟨q0, q1, q2, q3, q4, q5, q6, q7, q8⟩ := blk_cells9 hD.st.box
        have HD := Lib.hid hD
        have hblt := hD.st.blt
        have hxlt := hD.st.xlt
        have HF := Lib.hid (hrf.out.trans (if_pos hf))
        rw [show p.check = checkPacket p.epoch p.number p.bare p.ack p.f.kind p.f.heard p.f.epoch p.f.op p.f.text from rfl] at HF
        generalize hch : checkPacket p.epoch p.number p.bare p.ack p.f.kind p.f.heard p.f.epoch p.f.op p.f.text = F at *
        clear hD hch hf hI
        by_cases hF : F = 0
        · have hFn : (F != 0) = false := by simpa using hF
          subst hF
          have Hok2 := Lib.hid (Hok.out (HF.out))
          clear Hbad Hok HF hrf
          go_wp2_with fail
          refine HC.out.mono ?_
          rintro e w7 ⟨rfl, u7⟩
          have hD7 := HD.out.go u7
          have y7 := y1.go u7
          obtain ⟨g0, g1, g2, g3, g4, g5, g6, g7, g8⟩ := blk_cells9 hD7.st.box
          have e7 : w7.cell? ⟨w1.heap.size, 1, none⟩ = some (.int .i64 0) := y7.cell 1
          have f7 := y7.frozen 1
          obtain ⟨k0, k1, k2, k3, k4, k5, k6, k7, k8⟩ := blk_cells9 hD7.st.res
          have kf : ∀ i, w7.frozen? ⟨w.heap.size, i, none⟩ = false := hD7.st.res.frozen
          have hz7 := hD7.st.res.lt
          have Hop : Hid (Blk w.heap.size (.cells (pktC p (.slice ax p.f.op.length cx)) 55 (0, 0)) ((((((((((w7.setCell ⟨w1.heap.size, 1, none⟩ (.int .i64 0)).setCell ⟨w.heap.size, 0, none⟩ (.int .i64 p.epoch)).setCell ⟨w.heap.size, 1, none⟩ (.int .i64 p.number)).setCell ⟨w.heap.size, 2, none⟩ (.bool p.bare)).setCell ⟨w.heap.size, 3, none⟩ (.int .i64 p.ack)).setCell ⟨w.heap.size, 4, none⟩ (.int .i64 p.f.kind)).setCell ⟨w.heap.size, 5, none⟩ (.int .i64 p.f.heard)).setCell ⟨w.heap.size, 6, none⟩ (.int .i64 p.f.epoch)).setCell ⟨w.heap.size, 7, none⟩ (.slice ax p.f.op.length cx)).setCell ⟨w.heap.size, 8, none⟩ (.string p.f.text)) ∧ RdS (fun k => w.heap.size ≤ k ∧ k < ((((((((((w7.setCell ⟨w1.heap.size, 1, none⟩ (.int .i64 0)).setCell ⟨w.heap.size, 0, none⟩ (.int .i64 p.epoch)).setCell ⟨w.heap.size, 1, none⟩ (.int .i64 p.number)).setCell ⟨w.heap.size, 2, none⟩ (.bool p.bare)).setCell ⟨w.heap.size, 3, none⟩ (.int .i64 p.ack)).setCell ⟨w.heap.size, 4, none⟩ (.int .i64 p.f.kind)).setCell ⟨w.heap.size, 5, none⟩ (.int .i64 p.f.heard)).setCell ⟨w.heap.size, 6, none⟩ (.int .i64 p.f.epoch)).setCell ⟨w.heap.size, 7, none⟩ (.slice ax p.f.op.length cx)).setCell ⟨w.heap.size, 8, none⟩ (.string p.f.text)).heap.size) ((((((((((w7.setCell ⟨w1.heap.size, 1, none⟩ (.int .i64 0)).setCell ⟨w.heap.size, 0, none⟩ (.int .i64 p.epoch)).setCell ⟨w.heap.size, 1, none⟩ (.int .i64 p.number)).setCell ⟨w.heap.size, 2, none⟩ (.bool p.bare)).setCell ⟨w.heap.size, 3, none⟩ (.int .i64 p.ack)).setCell ⟨w.heap.size, 4, none⟩ (.int .i64 p.f.kind)).setCell ⟨w.heap.size, 5, none⟩ (.int .i64 p.f.heard)).setCell ⟨w.heap.size, 6, none⟩ (.int .i64 p.f.epoch)).setCell ⟨w.heap.size, 7, none⟩ (.slice ax p.f.op.length cx)).setCell ⟨w.heap.size, 8, none⟩ (.string p.f.text)) p.f.op ax p.f.op.length cx ∧ Below w.heap.size w ((((((((((w7.setCell ⟨w1.heap.size, 1, none⟩ (.int .i64 0)).setCell ⟨w.heap.size, 0, none⟩ (.int .i64 p.epoch)).setCell ⟨w.heap.size, 1, none⟩ (.int .i64 p.number)).setCell ⟨w.heap.size, 2, none⟩ (.bool p.bare)).setCell ⟨w.heap.size, 3, none⟩ (.int .i64 p.ack)).setCell ⟨w.heap.size, 4, none⟩ (.int .i64 p.f.kind)).setCell ⟨w.heap.size, 5, none⟩ (.int .i64 p.f.heard)).setCell ⟨w.heap.size, 6, none⟩ (.int .i64 p.f.epoch)).setCell ⟨w.heap.size, 7, none⟩ (.slice ax p.f.op.length cx)).setCell ⟨w.heap.size, 8, none⟩ (.string p.f.text))) := by
            refine ⟨blk_set9' (hD7.st.res.other (by show w1.heap.size ≠ w.heap.size; omega) _) _ _ _ _ _ _ _ _ _, hD7.op.mono fun k hk => ⟨⟨hk.1, by simp; exact hk.2.1⟩, ?_⟩, below_set9 (hD7.st.below.setCell (p := ⟨w1.heap.size, 1, none⟩) (by show w.heap.size ≤ w1.heap.size; omega) _) (Nat.le_refl _) _ _ _ _ _ _ _ _ _⟩
            rw [far9 hk.2.2.2.1, Below.heap_setCell _ _ _ _ (by show k ≠ w1.heap.size; exact hk.2.2.1)]
          clear HC HD hD7 u7 y7 y1 e1 q0 q1 q2 q3 q4 q5 q6 q7 q8
          obtain ⟨pe, pn, pb, pa, fk, fh, fe, fo, ft⟩ := p
          simp only at *
          generalize hlo : fo.length = lo at *
          clear hlo
          go_wp2_with fail
          refine abs_ret (fun W => Blk w.heap.size (.cells #[.int .i64 pe, .int .i64 pn, .bool pb, .int .i64 pa, .int .i64 fk, .int .i64 fh, .int .i64 fe, .slice ax lo cx, .string ft] 55 (0, 0)) W ∧ RP (.returned (.tuple #[.agg #[.int .i64 pe, .int .i64 pn, .bool pb, .int .i64 pa, .int .i64 fk, .int .i64 fh, .int .i64 fe, .slice ax lo cx, .string ft], .int .i64 0])) W) ⟨Hop.out.1, Hok2.out _ _ _ Hop.out.2.1 Hop.out.2.2⟩ ?_
          rintro W ⟨y1, y2⟩
          obtain ⟨v0, v1, v2, v3, v4, v5, v6, v7, v8⟩ := blk_cells9 y1
          refine bodyPost_ret (v := .tuple #[.agg #[.int .i64 pe, .int .i64 pn, .bool pb, .int .i64 pa, .int .i64 fk, .int .i64 fh, .int .i64 fe, .slice ax lo cx, .string ft], .int .i64 0]) (by simp [results, Tryd.results23, go_sem, v0, v1, v2, v3, v4, v5, v6, v7, v8]) rfl y2
        · have hFn : (F != 0) = true := by simpa using hF
          have Hbad := Lib.hid (Hbad.out F HF.out hF)
          clear Hok HF hF hrf
          go_wp2_with fail
          refine HC.out.mono ?_
          rintro e w7 ⟨rfl, u7⟩
          have hD7 := HD.out.go u7
          have y7 := y1.go u7
          have e7 : w7.cell? ⟨w1.heap.size, 1, none⟩ = some (.int .i64 0) := y7.cell 1
          have f7 := y7.frozen 1
          generalize r3.rest.length = lr at *
          have HS : Hid (Blk w.heap.size (.cells #[.int .i64 0, .int .i64 0, .bool false, .int .i64 0, .int .i64 0, .int .i64 0, .int .i64 0, .slice none 0 0, .string noText] 55 (0, 0)) (w7.setCell ⟨w1.heap.size, 1, none⟩ (.int .i64 F)) ∧ Blk w1.heap.size (.cells #[.slice ar lr cr, .int .i64 F] 87 (0, 0)) (w7.setCell ⟨w1.heap.size, 1, none⟩ (.int .i64 F)) ∧ Below w.heap.size w (w7.setCell ⟨w1.heap.size, 1, none⟩ (.int .i64 F))) :=
            ⟨hD7.st.res.other (by show w1.heap.size ≠ w.heap.size; omega) _, y7.set 1 _, hD7.st.below.setCell (p := ⟨w1.heap.size, 1, none⟩) (by show w.heap.size ≤ w1.heap.size; omega) _⟩
          clear HC HD hD7 u7 y7 y1 e1 q0 q1 q2 q3 q4 q5 q6 q7 q8
          go_wp2_with fail
          obtain ⟨Vp, HV⟩ : ∃ Vp : Nat → Value → World → Prop, Hid (Vp = fun i v W => match i with
              | 0 => v = .agg #[.int .i64 0, .int .i64 0, .bool false, .int .i64 0, .int .i64 0, .int .i64 0, .int .i64 0, .slice none 0 0, .string noText]
              | 1 => v = .pointer (some ⟨w1.heap.size, 0, none⟩)
              | 2 => v = .pointer (some ⟨w1.heap.size, 0, none⟩)
              | 3 => v = .pointer (some ⟨w1.heap.size, 1, none⟩)
              | 4 => v = .int .i64 F
              | 5 => v = undef
              | _ => v = .int .i64 F) := ⟨_, rfl⟩
          obtain ⟨Ip, HIp⟩ : ∃ Ip : (Nat → Bool) → (Nat → Value) → World → Prop, Hid (Ip = fun L x W => (Blk w.heap.size (.cells #[.int .i64 0, .int .i64 0, .bool false, .int .i64 0, .int .i64 0, .int .i64 0, .int .i64 0, .slice none 0 0, .string noText] 55 (0, 0)) W ∧ Blk w1.heap.size (.cells #[.slice ar lr cr, .int .i64 F] 87 (0, 0)) W ∧ Below w.heap.size w W)) := ⟨_, rfl⟩
          refine region_lit3 (by kernel_rfl) (by kernel_rfl) (by kernel_rfl) [[], [], [1], [1, 2], [1, 2, 3], [0], [1, 2, 3, 4]] (by kernel_rfl) [some 50, some 51, some 52, some 53, some 54, none, some 3] (by kernel_rfl) [[0, 5], [1, 2, 3, 4, 6], [2, 3, 4, 6], [3, 4, 6], [4, 6], [5], [6]] (by kernel_rfl) [[], [], [], [], [], [], []] [[], [], [1], [2], [3], [0], [4]] (by kernel_rfl)
            Ip
            Vp
            (fun j W W' => match j with
              | 5 => True
              | _ => Below W.heap.size W W')
            [fun x => ⟨#[undef, undef, undef, undef, undef, undef, undef, undef, undef, undef, undef, undef, undef, undef, undef, undef, undef, undef, undef, undef, undef, undef, undef, undef, undef, undef, undef, undef, undef, undef, undef, undef, undef, undef, undef, undef, undef, undef, undef, undef, undef, undef, undef, undef, undef, undef, undef, undef, undef, undef, undef], []⟩,
   fun x => ⟨#[undef, undef, undef, undef, .pointer (some ⟨w1.heap.size, 0, none⟩), undef, undef, undef, undef, undef, undef, undef, undef, undef, undef, undef, undef, undef, undef, undef, undef, undef, undef, undef, undef, undef, undef, undef, undef, undef, undef, undef, undef, undef, undef, undef, undef, undef, undef, undef, undef, undef, undef, undef, undef, undef, undef, undef, undef, undef, undef, undef], []⟩,
   fun x => ⟨#[undef, undef, undef, undef, undef, undef, undef, undef, undef, undef, undef, undef, undef, undef, undef, undef, undef, undef, undef, undef, undef, undef, undef, undef, undef, undef, undef, undef, undef, undef, undef, undef, undef, undef, undef, undef, undef, undef, undef, undef, undef, undef, undef, undef, undef, undef, undef, undef, undef, undef, undef, x 1, undef], []⟩,
   fun x => ⟨#[undef, undef, undef, undef, undef, undef, undef, undef, undef, undef, undef, undef, undef, undef, undef, undef, undef, undef, undef, undef, undef, undef, undef, undef, undef, undef, undef, undef, undef, undef, undef, undef, undef, undef, undef, undef, undef, undef, undef, undef, undef, undef, undef, undef, undef, undef, undef, undef, undef, undef, undef, undef, x 2, undef], []⟩,
   fun x => ⟨#[undef, undef, undef, undef, undef, undef, undef, undef, undef, undef, undef, undef, undef, undef, undef, undef, undef, undef, undef, undef, undef, undef, undef, undef, undef, undef, undef, undef, undef, undef, undef, undef, undef, undef, undef, undef, undef, undef, undef, undef, undef, undef, undef, undef, undef, undef, undef, undef, undef, undef, undef, undef, undef, x 3, undef], []⟩,
   fun x => ⟨#[undef, undef, .pointer (some ⟨w.heap.size, 0, none⟩), undef, undef, undef, undef, undef, undef, undef, undef, undef, undef, undef, undef, undef, undef, undef, undef, undef, undef, undef, undef, undef, undef, undef, undef, undef, undef, undef, undef, undef, undef, undef, undef, undef, undef, undef, undef, undef, undef, undef, undef, undef, undef, undef, undef, undef, undef, undef, x 0], []⟩,
   fun x => ⟨#[undef, undef, undef, undef, undef, undef, undef, undef, undef, undef, undef, undef, undef, undef, undef, undef, undef, undef, undef, undef, undef, undef, undef, undef, undef, undef, undef, undef, undef, undef, undef, undef, undef, undef, undef, undef, undef, undef, undef, undef, undef, undef, undef, undef, undef, undef, undef, undef, undef, undef, undef, undef, undef, undef, x 4], []⟩]
            ?hF ?mono ?h0 ?step [0, 1, 2, 3, 4, 5, 6] (by kernel_rfl) ?fin
          case hF =>
            exact ⟨fun x => ⟨by kernel_rfl, by kernel_rfl⟩, fun x => ⟨by kernel_rfl, by kernel_rfl⟩, fun x => ⟨by kernel_rfl, by kernel_rfl⟩, fun x => ⟨by kernel_rfl, by kernel_rfl⟩, fun x => ⟨by kernel_rfl, by kernel_rfl⟩, fun x => ⟨by kernel_rfl, by kernel_rfl⟩, fun x => ⟨by kernel_rfl, by kernel_rfl⟩, trivial⟩
          case mono =>
            intro i j hi hj hne hna hnk v W W' hE hv
            rw [HV.out] at hv ⊢
            simp only [List.length_cons, List.length_nil] at hi hj
            match i, hi with
            | 0, _ | 1, _ | 2, _ | 3, _ | 4, _ | 5, _ | 6, _ => exact hv
            | m + 7, h => exact absurd h (by omega)
          case h0 => intro x; exact toI HIp ⟨HS.out.1, HS.out.2.1, HS.out.2.2.drew⟩
          case step =>
            refine ⟨?_, ?_, ?_, ?_, ?_, ?_, ?_, trivial⟩
            all_goals
              intro x W L hI hL hV
              replace hI : (Blk w.heap.size (.cells #[.int .i64 0, .int .i64 0, .bool false, .int .i64 0, .int .i64 0, .int .i64 0, .int .i64 0, .slice none 0 0, .string noText] 55 (0, 0)) W ∧ Blk w1.heap.size (.cells #[.slice ar lr cr, .int .i64 F] 87 (0, 0)) W ∧ Below w.heap.size w W) := ofI HIp hI
              rw [HV.out] at hV
              simp only [AllV, and_true] at hV
            · clear hV
              (try dsimp only)
              have HI := Lib.hid hI
              clear hI
              go_wp2_with fail
              refine step3_done rfl ?_ ?_ ?_
              · exact (toI HIp HI.out)
              · exact (Below.refl _ _)
              · exact (toV HV rfl)
            · clear hV
              (try dsimp only)
              have HI := Lib.hid hI
              clear hI
              go_wp2_with fail
              refine step3_done rfl ?_ ?_ ?_
              · exact (toI HIp HI.out)
              · exact (Below.refl _ _)
              · exact (toV HV rfl)
            · have u1 := hV
              clear hV
              simp only [u1]
              clear u1
              have HI := Lib.hid hI
              clear hI
              go_wp2_with fail
              refine step3_done rfl ?_ ?_ ?_
              · exact (toI HIp HI.out)
              · exact (Below.refl _ _)
              · exact (toV HV rfl)
            · have u2 := hV
              clear hV
              simp only [u2]
              clear u2
              have HI := Lib.hid hI
              clear hI
              go_wp2_with fail
              refine step3_done rfl ?_ ?_ ?_
              · exact (toI HIp HI.out)
              · exact (Below.refl _ _)
              · exact (toV HV rfl)
            · have u3 := hV
              clear hV
              simp only [u3]
              clear u3
              have e1 : W.cell? ⟨w1.heap.size, 1, none⟩ = some (.int .i64 F) := hI.2.1.cell 1
              have HI := Lib.hid hI
              clear hI
              go_wp2_with fail
              refine step3_done rfl ?_ ?_ ?_
              · exact (toI HIp HI.out)
              · exact (Below.refl _ _)
              · exact (toV HV rfl)
            · have u0 := hV
              clear hV
              simp only [u0]
              clear u0
              obtain ⟨e0, e1, e2, e3, e4, e5, e6, e7, e8⟩ := blk_cells9 hI.1
              have ef : ∀ i, W.frozen? ⟨w.heap.size, i, none⟩ = false := hI.1.frozen
              have HI2 := Lib.hid (And.intro (blk_set9' hI.1 (.int .i64 0) (.int .i64 0) (.bool false) (.int .i64 0) (.int .i64 0) (.int .i64 0) (.int .i64 0) (.slice none 0 0) (.string noText)) (And.intro ((far9 (w := W) (g := w.heap.size) (b := w1.heap.size) (by omega) (.int .i64 0) (.int .i64 0) (.bool false) (.int .i64 0) (.int .i64 0) (.int .i64 0) (.int .i64 0) (.slice none 0 0) (.string noText)).trans hI.2.1) (below_set9 hI.2.2 (Nat.le_refl _) (.int .i64 0) (.int .i64 0) (.bool false) (.int .i64 0) (.int .i64 0) (.int .i64 0) (.int .i64 0) (.slice none 0 0) (.string noText))))
              clear hI
              go_wp2_with fail
              exact step3_done (v := undef) rfl (toI HIp HI2.out) trivial (toV HV rfl)
            · have u4 := hV
              clear hV
              simp only [u4]
              clear u4
              have HI := Lib.hid hI
              clear hI
              go_wp2_with fail
              refine step3_done rfl ?_ ?_ ?_
              · exact (toI HIp HI.out)
              · exact (Below.refl _ _)
              · exact (toV HV rfl)
          case fin =>
            intro x W L hL hI hV
            replace hI : (Blk w.heap.size (.cells #[.int .i64 0, .int .i64 0, .bool false, .int .i64 0, .int .i64 0, .int .i64 0, .int .i64 0, .slice none 0 0, .string noText] 55 (0, 0)) W ∧ Blk w1.heap.size (.cells #[.slice ar lr cr, .int .i64 F] 87 (0, 0)) W ∧ Below w.heap.size w W) := ofI HIp hI
            rw [HV.out] at hV
            simp only [AllV, and_true] at hV
            obtain ⟨u0, u1, u2, u3, u4, u5, u6⟩ := hV
            simp only [getsD, List.getD_cons_succ, List.getD_cons_zero, List.length_cons, List.length_nil, List.range, List.range.loop, u0, u1, u2, u3, u4, u5, u6, Act.put, List.setIfInBounds_toArray, List.set_cons_succ, List.set_cons_zero]
            clear u0 u1 u2 u3 u4 u5 u6
            obtain ⟨e0, e1, e2, e3, e4, e5, e6, e7, e8⟩ := blk_cells9 hI.1
            have HB := Lib.hid hI.2.2
            clear hI
            go_wp2_with fail
            refine bodyPost_ret (v := .tuple #[.agg #[.int .i64 0, .int .i64 0, .bool false, .int .i64 0, .int .i64 0, .int .i64 0, .int .i64 0, .slice none 0 0, .string noText], .int .i64 F]) (by simp [results, Tryd.results23, go_sem, e0, e1, e2, e3, e4, e5, e6, e7, e8]) rfl ?_
            exact Hbad.out W HB.out
      · have hf0 : (r3.fault == 0) = false := by simpa using hf
        have hf1 : (r3.fault != 0) = true := by simpa using hf
        have Hbad := Lib.hid (Hbad.out r3.fault (hrf.out.trans (if_neg hf)) hf)
        have hblt := hD.st.blt
        generalize r3.rest.length = lr at *
        clear hrf
        generalize r3.fault = F at *
        have HS : Hid (Blk w.heap.size (.cells #[.int .i64 0, .int .i64 0, .bool false, .int .i64 0, .int .i64 0, .int .i64 0, .int .i64 0, .slice none 0 0, .string noText] 55 (0, 0)) w6 ∧ Blk w1.heap.size (.cells #[.slice ar lr cr, .int .i64 F] 87 (0, 0)) w6 ∧ Below w.heap.size w w6) := ⟨hD.st.res, y1, hD.st.below⟩
        clear hD y1 Hok hf hI
        go_wp2_with fail
        obtain ⟨Vp, HV⟩ : ∃ Vp : Nat → Value → World → Prop, Hid (Vp = fun i v W => match i with
            | 0 => v = .agg #[.int .i64 0, .int .i64 0, .bool false, .int .i64 0, .int .i64 0, .int .i64 0, .int .i64 0, .slice none 0 0, .string noText]
            | 1 => v = .pointer (some ⟨w1.heap.size, 0, none⟩)
            | 2 => v = .pointer (some ⟨w1.heap.size, 0, none⟩)
            | 3 => v = .pointer (some ⟨w1.heap.size, 1, none⟩)
            | 4 => v = .int .i64 F
            | 5 => v = undef
            | _ => v = .int .i64 F) := ⟨_, rfl⟩
        obtain ⟨Ip, HIp⟩ : ∃ Ip : (Nat → Bool) → (Nat → Value) → World → Prop, Hid (Ip = fun L x W => (Blk w.heap.size (.cells #[.int .i64 0, .int .i64 0, .bool false, .int .i64 0, .int .i64 0, .int .i64 0, .int .i64 0, .slice none 0 0, .string noText] 55 (0, 0)) W ∧ Blk w1.heap.size (.cells #[.slice ar lr cr, .int .i64 F] 87 (0, 0)) W ∧ Below w.heap.size w W)) := ⟨_, rfl⟩
        refine region_lit3 (by kernel_rfl) (by kernel_rfl) (by kernel_rfl) [[], [], [1], [1, 2], [1, 2, 3], [0], [1, 2, 3, 4]] (by kernel_rfl) [some 50, some 51, some 52, some 53, some 54, none, some 3] (by kernel_rfl) [[0, 5], [1, 2, 3, 4, 6], [2, 3, 4, 6], [3, 4, 6], [4, 6], [5], [6]] (by kernel_rfl) [[], [], [], [], [], [], []] [[], [], [1], [2], [3], [0], [4]] (by kernel_rfl)
          Ip
          Vp
          (fun j W W' => match j with
            | 5 => True
            | _ => Below W.heap.size W W')
          [fun x => ⟨#[undef, undef, undef, undef, undef, undef, undef, undef, undef, undef, undef, undef, undef, undef, undef, undef, undef, undef, undef, undef, undef, undef, undef, undef, undef, undef, undef, undef, undef, undef, undef, undef, undef, undef, undef, undef, undef, undef, undef, undef, undef, undef, undef, undef, undef, undef, undef, undef, undef, undef, undef], []⟩,
   fun x => ⟨#[undef, undef, undef, undef, .pointer (some ⟨w1.heap.size, 0, none⟩), undef, undef, undef, undef, undef, undef, undef, undef, undef, undef, undef, undef, undef, undef, undef, undef, undef, undef, undef, undef, undef, undef, undef, undef, undef, undef, undef, undef, undef, undef, undef, undef, undef, undef, undef, undef, undef, undef, undef, undef, undef, undef, undef, undef, undef, undef, undef], []⟩,
   fun x => ⟨#[undef, undef, undef, undef, undef, undef, undef, undef, undef, undef, undef, undef, undef, undef, undef, undef, undef, undef, undef, undef, undef, undef, undef, undef, undef, undef, undef, undef, undef, undef, undef, undef, undef, undef, undef, undef, undef, undef, undef, undef, undef, undef, undef, undef, undef, undef, undef, undef, undef, undef, undef, x 1, undef], []⟩,
   fun x => ⟨#[undef, undef, undef, undef, undef, undef, undef, undef, undef, undef, undef, undef, undef, undef, undef, undef, undef, undef, undef, undef, undef, undef, undef, undef, undef, undef, undef, undef, undef, undef, undef, undef, undef, undef, undef, undef, undef, undef, undef, undef, undef, undef, undef, undef, undef, undef, undef, undef, undef, undef, undef, undef, x 2, undef], []⟩,
   fun x => ⟨#[undef, undef, undef, undef, undef, undef, undef, undef, undef, undef, undef, undef, undef, undef, undef, undef, undef, undef, undef, undef, undef, undef, undef, undef, undef, undef, undef, undef, undef, undef, undef, undef, undef, undef, undef, undef, undef, undef, undef, undef, undef, undef, undef, undef, undef, undef, undef, undef, undef, undef, undef, undef, undef, x 3, undef], []⟩,
   fun x => ⟨#[undef, undef, .pointer (some ⟨w.heap.size, 0, none⟩), undef, undef, undef, undef, undef, undef, undef, undef, undef, undef, undef, undef, undef, undef, undef, undef, undef, undef, undef, undef, undef, undef, undef, undef, undef, undef, undef, undef, undef, undef, undef, undef, undef, undef, undef, undef, undef, undef, undef, undef, undef, undef, undef, undef, undef, undef, undef, x 0], []⟩,
   fun x => ⟨#[undef, undef, undef, undef, undef, undef, undef, undef, undef, undef, undef, undef, undef, undef, undef, undef, undef, undef, undef, undef, undef, undef, undef, undef, undef, undef, undef, undef, undef, undef, undef, undef, undef, undef, undef, undef, undef, undef, undef, undef, undef, undef, undef, undef, undef, undef, undef, undef, undef, undef, undef, undef, undef, undef, x 4], []⟩]
          ?hF ?mono ?h0 ?step [0, 1, 2, 3, 4, 5, 6] (by kernel_rfl) ?fin
        case hF =>
          exact ⟨fun x => ⟨by kernel_rfl, by kernel_rfl⟩, fun x => ⟨by kernel_rfl, by kernel_rfl⟩, fun x => ⟨by kernel_rfl, by kernel_rfl⟩, fun x => ⟨by kernel_rfl, by kernel_rfl⟩, fun x => ⟨by kernel_rfl, by kernel_rfl⟩, fun x => ⟨by kernel_rfl, by kernel_rfl⟩, fun x => ⟨by kernel_rfl, by kernel_rfl⟩, trivial⟩
        case mono =>
          intro i j hi hj hne hna hnk v W W' hE hv
          rw [HV.out] at hv ⊢
          simp only [List.length_cons, List.length_nil] at hi hj
          match i, hi with
          | 0, _ | 1, _ | 2, _ | 3, _ | 4, _ | 5, _ | 6, _ => exact hv
          | m + 7, h => exact absurd h (by omega)
        case h0 => intro x; exact toI HIp ⟨HS.out.1, HS.out.2.1, HS.out.2.2.drew⟩
        case step =>
          refine ⟨?_, ?_, ?_, ?_, ?_, ?_, ?_, trivial⟩
          all_goals
            intro x W L hI hL hV
            replace hI : (Blk w.heap.size (.cells #[.int .i64 0, .int .i64 0, .bool false, .int .i64 0, .int .i64 0, .int .i64 0, .int .i64 0, .slice none 0 0, .string noText] 55 (0, 0)) W ∧ Blk w1.heap.size (.cells #[.slice ar lr cr, .int .i64 F] 87 (0, 0)) W ∧ Below w.heap.size w W) := ofI HIp hI
            rw [HV.out] at hV
            simp only [AllV, and_true] at hV
          · clear hV
            (try dsimp only)
            have HI := Lib.hid hI
            clear hI
            go_wp2_with fail
            refine step3_done rfl ?_ ?_ ?_
            · exact (toI HIp HI.out)
            · exact (Below.refl _ _)
            · exact (toV HV rfl)
          · clear hV
            (try dsimp only)
            have HI := Lib.hid hI
            clear hI
            go_wp2_with fail
            refine step3_done rfl ?_ ?_ ?_
            · exact (toI HIp HI.out)
            · exact (Below.refl _ _)
            · exact (toV HV rfl)
          · have u1 := hV
            clear hV
            simp only [u1]
            clear u1
            have HI := Lib.hid hI
            clear hI
            go_wp2_with fail
            refine step3_done rfl ?_ ?_ ?_
            · exact (toI HIp HI.out)
            · exact (Below.refl _ _)
            · exact (toV HV rfl)
          · have u2 := hV
            clear hV
            simp only [u2]
            clear u2
            have HI := Lib.hid hI
            clear hI
            go_wp2_with fail
            refine step3_done rfl ?_ ?_ ?_
            · exact (toI HIp HI.out)
            · exact (Below.refl _ _)
            · exact (toV HV rfl)
          · have u3 := hV
            clear hV
            simp only [u3]
            clear u3
            have e1 : W.cell? ⟨w1.heap.size, 1, none⟩ = some (.int .i64 F) := hI.2.1.cell 1
            have HI := Lib.hid hI
            clear hI
            go_wp2_with fail
            refine step3_done rfl ?_ ?_ ?_
            · exact (toI HIp HI.out)
            · exact (Below.refl _ _)
            · exact (toV HV rfl)
          · have u0 := hV
            clear hV
            simp only [u0]
            clear u0
            obtain ⟨e0, e1, e2, e3, e4, e5, e6, e7, e8⟩ := blk_cells9 hI.1
            have ef : ∀ i, W.frozen? ⟨w.heap.size, i, none⟩ = false := hI.1.frozen
            have HI2 := Lib.hid (And.intro (blk_set9' hI.1 (.int .i64 0) (.int .i64 0) (.bool false) (.int .i64 0) (.int .i64 0) (.int .i64 0) (.int .i64 0) (.slice none 0 0) (.string noText)) (And.intro ((far9 (w := W) (g := w.heap.size) (b := w1.heap.size) (by omega) (.int .i64 0) (.int .i64 0) (.bool false) (.int .i64 0) (.int .i64 0) (.int .i64 0) (.int .i64 0) (.slice none 0 0) (.string noText)).trans hI.2.1) (below_set9 hI.2.2 (Nat.le_refl _) (.int .i64 0) (.int .i64 0) (.bool false) (.int .i64 0) (.int .i64 0) (.int .i64 0) (.int .i64 0) (.slice none 0 0) (.string noText))))
            clear hI
            go_wp2_with fail
            exact step3_done (v := undef) rfl (toI HIp HI2.out) trivial (toV HV rfl)
          · have u4 := hV
            clear hV
            simp only [u4]
            clear u4
            have HI := Lib.hid hI
            clear hI
            go_wp2_with fail
            refine step3_done rfl ?_ ?_ ?_
            · exact (toI HIp HI.out)
            · exact (Below.refl _ _)
            · exact (toV HV rfl)
        case fin =>
          intro x W L hL hI hV
          replace hI : (Blk w.heap.size (.cells #[.int .i64 0, .int .i64 0, .bool false, .int .i64 0, .int .i64 0, .int .i64 0, .int .i64 0, .slice none 0 0, .string noText] 55 (0, 0)) W ∧ Blk w1.heap.size (.cells #[.slice ar lr cr, .int .i64 F] 87 (0, 0)) W ∧ Below w.heap.size w W) := ofI HIp hI
          rw [HV.out] at hV
          simp only [AllV, and_true] at hV
          obtain ⟨u0, u1, u2, u3, u4, u5, u6⟩ := hV
          simp only [getsD, List.getD_cons_succ, List.getD_cons_zero, List.length_cons, List.length_nil, List.range, List.range.loop, u0, u1, u2, u3, u4, u5, u6, Act.put, List.setIfInBounds_toArray, List.set_cons_succ, List.set_cons_zero]
          clear u0 u1 u2 u3 u4 u5 u6
          obtain ⟨e0, e1, e2, e3, e4, e5, e6, e7, e8⟩ := blk_cells9 hI.1
          have HB := Lib.hid hI.2.2
          clear hI
          go_wp2_with fail
          refine bodyPost_ret (v := .tuple #[.agg #[.int .i64 0, .int .i64 0, .bool false, .int .i64 0, .int .i64 0, .int .i64 0, .int .i64 0, .slice none 0 0, .string noText], .int .i64 F]) (by simp [results, Tryd.results23, go_sem, e0, e1, e2, e3, e4, e5, e6, e7, e8]) rfl ?_
          exact Hbad.out W HB.out
    · have hb0 : ((n3 : Int) == 0) = false := by simp; omega
      have hp : rdPktR ⟨b, 0⟩ = (⟨n1, n3, false, n2, q3.frame.1⟩, q3.frame.2) := by rw [HR.out]; unfold rdPktK; rw [if_neg hn3]
      obtain ⟨o1, rq⟩ := Hrf0.out _ _ hp
      have hrf := Lib.hid rq
      have s5 := (S4.out.put 1 (.int .i64 (n3 : Int))).put 2 (.bool false)
      have HFr := Lib.hid (rframe_any w1.heap.size q3 _ s5.rd hq3)
      have S5 := Lib.hid s5
      have hfit := frame_fit q3 hq3
      have HE0 := Lib.hid (fun W (h : Rdr w1.heap.size q3.frame.2 W) => end_any w1.heap.size q3.frame.2 W h)
      unfold RFrP at HFr
      generalize q3.frame = fr at *
      obtain ⟨fx, q4⟩ := fr
      simp only at *
      clear S4 hn3 s5 hp rq HR
      go_wp2_with fail
      refine HFr.out.mono ?_
      rintro e w5 ⟨ax, cx, rfl, ro, r5, t5⟩
      have s6 := S5.out.call r5 t5
      obtain ⟨-, -, -, -, i4, i5, i6, i7, i8⟩ := blk_cells9 s6.box
      have i9 := s6.box.frozen
      have s7 := ((((s6.put 4 (.int .i64 fx.kind)).put 5 (.int .i64 fx.heard)).put 6 (.int .i64 fx.epoch)).put 7 (.slice ax fx.op.length cx)).put 8 (.string fx.text)
      have HE := Lib.hid (HE0.out _ s7.rd)
      have S7 := Lib.hid s7
      have hbx := s6.xlt
      have ho5 : RdS (fun k => w2.heap.size < k ∧ k < w5.heap.size) w5 fx.op ax fx.op.length cx := ro.mono fun k hk => ⟨⟨by have h1 := hk.1; have h2 := S5.out.box.lt; omega, hk.2⟩, rfl⟩
      have Ho5 := Lib.hid ho5
      clear S5 HFr ro r5 t5 s6 s7 HE0 ho5 g2 g3 g4
      go_wp2_with fail
      refine HE.out.mono ?_
      rintro e w6 ⟨rfl, r6, t6⟩
      have s8 := S7.out.call r6 t6
      obtain ⟨p, hpp⟩ : ∃ p : Pkt, p = ⟨n1, n3, false, n2, fx⟩ := ⟨_, rfl⟩
      have hwb2 := s8.blt
      have hzz := t6.size
      simp at hzz
      have hD : Dpk w w1.heap.size w2.heap.size p ax cx q4.done w6 := by
        subst hpp
        refine ⟨s8, Ho5.out.mono fun k hk => ⟨⟨by omega, by omega, by omega, by omega, by omega⟩, ?_⟩⟩
        rw [t6.block k (by simp; omega) (by omega), Below.heap_setCell _ _ _ _ (by show k ≠ w2.heap.size; omega), Below.heap_setCell _ _ _ _ (by show k ≠ w2.heap.size; omega), Below.heap_setCell _ _ _ _ (by show k ≠ w2.heap.size; omega), Below.heap_setCell _ _ _ _ (by show k ≠ w2.heap.size; omega), Below.heap_setCell _ _ _ _ (by show k ≠ w2.heap.size; omega)]
      have hI : I64 p.epoch ∧ I64 p.number ∧ I64 p.ack ∧ I64 p.f.kind ∧ I64 p.f.heard ∧ I64 p.f.epoch ∧ p.f.text.size ≤ strMax := by
        subst hpp
        exact ⟨⟨by simp only; omega, by simp only; omega⟩, ⟨by simp only; omega, by simp only; omega⟩, ⟨by simp only; omega, by simp only; omega⟩, hfit⟩
      have Hok : Hid (pktFault b = 0 → ∀ a c W, RdS (fun k => w.heap.size ≤ k ∧ k < W.heap.size) W p.f.op a p.f.op.length c → Below w.heap.size w W → RP (.returned (.tuple #[.agg (pktC p (.slice a p.f.op.length c)), .int .i64 0])) W) := fun h a c W h1 h2 => Hok0.out h p (o1.trans hpp.symm) _ _ _ h1 h2
      have Hbad : Hid (∀ F, pktFault b = F → F ≠ 0 → ∀ W, Below w.heap.size w W → RP (.returned (.tuple #[.agg #[.int .i64 0, .int .i64 0, .bool false, .int .i64 0, .int .i64 0, .int .i64 0, .int .i64 0, .slice none 0 0, .string noText], .int .i64 F])) W) := Hbad0.out
      rw [← hpp] at hrf
      clear s8 S7 Ho5 r6 t6 HE Hok0 Hbad0 Hrf0 o1 hpp i4 i5 i6 i7 i8 i9 hzz hfit
      generalize q4.done = r3 at *
      generalize w2.heap.size = X at *
      obtain ⟨ar, cr, -, y1, -⟩ := hD.st.rd.ex
      have e1 : w6.cell? ⟨w1.heap.size, 1, none⟩ = some (.int .i64 r3.fault) := y1.cell 1
      by_cases hf : r3.fault = 0
      · have hf0 : (r3.fault == 0) = true := by simpa using hf
        rw [hf] at e1 y1
        have HC := Lib.hid (checkPacket_any p.epoch p.number p.bare p.ack p.f.kind p.f.heard p.f.epoch p.f.op p.f.text ax p.f.op.length cx w6 (hg.go hD.st.below) (hD.op.wide fun k hk => hk.2.1) hI.1 hI.2.1 hI.2.2.1 hI.2.2.2.1 hI.2.2.2.2.1 hI.2.2.2.2.2.1 hI.2.2.2.2.2.2)
        obtain ⟨q0, q1, q2, q3, q4, q5, q6, q7, q8⟩ := blk_cells9 hD.st.box
        have HD := Lib.hid hD
        have hblt := hD.st.blt
        have hxlt := hD.st.xlt
        have HF := Lib.hid (hrf.out.trans (if_pos hf))
        rw [show p.check = checkPacket p.epoch p.number p.bare p.ack p.f.kind p.f.heard p.f.epoch p.f.op p.f.text from rfl] at HF
        generalize hch : checkPacket p.epoch p.number p.bare p.ack p.f.kind p.f.heard p.f.epoch p.f.op p.f.text = F at *
        clear hD hch hf hI
        by_cases hF : F = 0
        · have hFn : (F != 0) = false := by simpa using hF
          subst hF
          have Hok2 := Lib.hid (Hok.out (HF.out))
          clear Hbad Hok HF hrf
          go_wp2_with fail
          refine HC.out.mono ?_
          rintro e w7 ⟨rfl, u7⟩
          have hD7 := HD.out.go u7
          have y7 := y1.go u7
          obtain ⟨g0, g1, g2, g3, g4, g5, g6, g7, g8⟩ := blk_cells9 hD7.st.box
          have e7 : w7.cell? ⟨w1.heap.size, 1, none⟩ = some (.int .i64 0) := y7.cell 1
          have f7 := y7.frozen 1
          obtain ⟨k0, k1, k2, k3, k4, k5, k6, k7, k8⟩ := blk_cells9 hD7.st.res
          have kf : ∀ i, w7.frozen? ⟨w.heap.size, i, none⟩ = false := hD7.st.res.frozen
          have hz7 := hD7.st.res.lt
          have Hop : Hid (Blk w.heap.size (.cells (pktC p (.slice ax p.f.op.length cx)) 55 (0, 0)) ((((((((((w7.setCell ⟨w1.heap.size, 1, none⟩ (.int .i64 0)).setCell ⟨w.heap.size, 0, none⟩ (.int .i64 p.epoch)).setCell ⟨w.heap.size, 1, none⟩ (.int .i64 p.number)).setCell ⟨w.heap.size, 2, none⟩ (.bool p.bare)).setCell ⟨w.heap.size, 3, none⟩ (.int .i64 p.ack)).setCell ⟨w.heap.size, 4, none⟩ (.int .i64 p.f.kind)).setCell ⟨w.heap.size, 5, none⟩ (.int .i64 p.f.heard)).setCell ⟨w.heap.size, 6, none⟩ (.int .i64 p.f.epoch)).setCell ⟨w.heap.size, 7, none⟩ (.slice ax p.f.op.length cx)).setCell ⟨w.heap.size, 8, none⟩ (.string p.f.text)) ∧ RdS (fun k => w.heap.size ≤ k ∧ k < ((((((((((w7.setCell ⟨w1.heap.size, 1, none⟩ (.int .i64 0)).setCell ⟨w.heap.size, 0, none⟩ (.int .i64 p.epoch)).setCell ⟨w.heap.size, 1, none⟩ (.int .i64 p.number)).setCell ⟨w.heap.size, 2, none⟩ (.bool p.bare)).setCell ⟨w.heap.size, 3, none⟩ (.int .i64 p.ack)).setCell ⟨w.heap.size, 4, none⟩ (.int .i64 p.f.kind)).setCell ⟨w.heap.size, 5, none⟩ (.int .i64 p.f.heard)).setCell ⟨w.heap.size, 6, none⟩ (.int .i64 p.f.epoch)).setCell ⟨w.heap.size, 7, none⟩ (.slice ax p.f.op.length cx)).setCell ⟨w.heap.size, 8, none⟩ (.string p.f.text)).heap.size) ((((((((((w7.setCell ⟨w1.heap.size, 1, none⟩ (.int .i64 0)).setCell ⟨w.heap.size, 0, none⟩ (.int .i64 p.epoch)).setCell ⟨w.heap.size, 1, none⟩ (.int .i64 p.number)).setCell ⟨w.heap.size, 2, none⟩ (.bool p.bare)).setCell ⟨w.heap.size, 3, none⟩ (.int .i64 p.ack)).setCell ⟨w.heap.size, 4, none⟩ (.int .i64 p.f.kind)).setCell ⟨w.heap.size, 5, none⟩ (.int .i64 p.f.heard)).setCell ⟨w.heap.size, 6, none⟩ (.int .i64 p.f.epoch)).setCell ⟨w.heap.size, 7, none⟩ (.slice ax p.f.op.length cx)).setCell ⟨w.heap.size, 8, none⟩ (.string p.f.text)) p.f.op ax p.f.op.length cx ∧ Below w.heap.size w ((((((((((w7.setCell ⟨w1.heap.size, 1, none⟩ (.int .i64 0)).setCell ⟨w.heap.size, 0, none⟩ (.int .i64 p.epoch)).setCell ⟨w.heap.size, 1, none⟩ (.int .i64 p.number)).setCell ⟨w.heap.size, 2, none⟩ (.bool p.bare)).setCell ⟨w.heap.size, 3, none⟩ (.int .i64 p.ack)).setCell ⟨w.heap.size, 4, none⟩ (.int .i64 p.f.kind)).setCell ⟨w.heap.size, 5, none⟩ (.int .i64 p.f.heard)).setCell ⟨w.heap.size, 6, none⟩ (.int .i64 p.f.epoch)).setCell ⟨w.heap.size, 7, none⟩ (.slice ax p.f.op.length cx)).setCell ⟨w.heap.size, 8, none⟩ (.string p.f.text))) := by
            refine ⟨blk_set9' (hD7.st.res.other (by show w1.heap.size ≠ w.heap.size; omega) _) _ _ _ _ _ _ _ _ _, hD7.op.mono fun k hk => ⟨⟨hk.1, by simp; exact hk.2.1⟩, ?_⟩, below_set9 (hD7.st.below.setCell (p := ⟨w1.heap.size, 1, none⟩) (by show w.heap.size ≤ w1.heap.size; omega) _) (Nat.le_refl _) _ _ _ _ _ _ _ _ _⟩
            rw [far9 hk.2.2.2.1, Below.heap_setCell _ _ _ _ (by show k ≠ w1.heap.size; exact hk.2.2.1)]
          clear HC HD hD7 u7 y7 y1 e1 q0 q1 q2 q3 q4 q5 q6 q7 q8
          obtain ⟨pe, pn, pb, pa, fk, fh, fe, fo, ft⟩ := p
          simp only at *
          generalize hlo : fo.length = lo at *
          clear hlo
          go_wp2_with fail
          refine abs_ret (fun W => Blk w.heap.size (.cells #[.int .i64 pe, .int .i64 pn, .bool pb, .int .i64 pa, .int .i64 fk, .int .i64 fh, .int .i64 fe, .slice ax lo cx, .string ft] 55 (0, 0)) W ∧ RP (.returned (.tuple #[.agg #[.int .i64 pe, .int .i64 pn, .bool pb, .int .i64 pa, .int .i64 fk, .int .i64 fh, .int .i64 fe, .slice ax lo cx, .string ft], .int .i64 0])) W) ⟨Hop.out.1, Hok2.out _ _ _ Hop.out.2.1 Hop.out.2.2⟩ ?_
          rintro W ⟨y1, y2⟩
          obtain ⟨v0, v1, v2, v3, v4, v5, v6, v7, v8⟩ := blk_cells9 y1
          refine bodyPost_ret (v := .tuple #[.agg #[.int .i64 pe, .int .i64 pn, .bool pb, .int .i64 pa, .int .i64 fk, .int .i64 fh, .int .i64 fe, .slice ax lo cx, .string ft], .int .i64 0]) (by simp [results, Tryd.results23, go_sem, v0, v1, v2, v3, v4, v5, v6, v7, v8]) rfl y2
        · have hFn : (F != 0) = true := by simpa using hF
          have Hbad := Lib.hid (Hbad.out F HF.out hF)
          clear Hok HF hF hrf
          go_wp2_with fail
          refine HC.out.mono ?_
          rintro e w7 ⟨rfl, u7⟩
          have hD7 := HD.out.go u7
          have y7 := y1.go u7
          have e7 : w7.cell? ⟨w1.heap.size, 1, none⟩ = some (.int .i64 0) := y7.cell 1
          have f7 := y7.frozen 1
          generalize r3.rest.length = lr at *
          have HS : Hid (Blk w.heap.size (.cells #[.int .i64 0, .int .i64 0, .bool false, .int .i64 0, .int .i64 0, .int .i64 0, .int .i64 0, .slice none 0 0, .string noText] 55 (0, 0)) (w7.setCell ⟨w1.heap.size, 1, none⟩ (.int .i64 F)) ∧ Blk w1.heap.size (.cells #[.slice ar lr cr, .int .i64 F] 87 (0, 0)) (w7.setCell ⟨w1.heap.size, 1, none⟩ (.int .i64 F)) ∧ Below w.heap.size w (w7.setCell ⟨w1.heap.size, 1, none⟩ (.int .i64 F))) :=
            ⟨hD7.st.res.other (by show w1.heap.size ≠ w.heap.size; omega) _, y7.set 1 _, hD7.st.below.setCell (p := ⟨w1.heap.size, 1, none⟩) (by show w.heap.size ≤ w1.heap.size; omega) _⟩
          clear HC HD hD7 u7 y7 y1 e1 q0 q1 q2 q3 q4 q5 q6 q7 q8
          go_wp2_with fail
          obtain ⟨Vp, HV⟩ : ∃ Vp : Nat → Value → World → Prop, Hid (Vp = fun i v W => match i with
              | 0 => v = .agg #[.int .i64 0, .int .i64 0, .bool false, .int .i64 0, .int .i64 0, .int .i64 0, .int .i64 0, .slice none 0 0, .string noText]
              | 1 => v = .pointer (some ⟨w1.heap.size, 0, none⟩)
              | 2 => v = .pointer (some ⟨w1.heap.size, 0, none⟩)
              | 3 => v = .pointer (some ⟨w1.heap.size, 1, none⟩)
              | 4 => v = .int .i64 F
              | 5 => v = undef
              | _ => v = .int .i64 F) := ⟨_, rfl⟩
          obtain ⟨Ip, HIp⟩ : ∃ Ip : (Nat → Bool) → (Nat → Value) → World → Prop, Hid (Ip = fun L x W => (Blk w.heap.size (.cells #[.int .i64 0, .int .i64 0, .bool false, .int .i64 0, .int .i64 0, .int .i64 0, .int .i64 0, .slice none 0 0, .string noText] 55 (0, 0)) W ∧ Blk w1.heap.size (.cells #[.slice ar lr cr, .int .i64 F] 87 (0, 0)) W ∧ Below w.heap.size w W)) := ⟨_, rfl⟩
          refine region_lit3 (by kernel_rfl) (by kernel_rfl) (by kernel_rfl) [[], [], [1], [1, 2], [1, 2, 3], [0], [1, 2, 3, 4]] (by kernel_rfl) [some 50, some 51, some 52, some 53, some 54, none, some 3] (by kernel_rfl) [[0, 5], [1, 2, 3, 4, 6], [2, 3, 4, 6], [3, 4, 6], [4, 6], [5], [6]] (by kernel_rfl) [[], [], [], [], [], [], []] [[], [], [1], [2], [3], [0], [4]] (by kernel_rfl)
            Ip
            Vp
            (fun j W W' => match j with
              | 5 => True
              | _ => Below W.heap.size W W')
            [fun x => ⟨#[undef, undef, undef, undef, undef, undef, undef, undef, undef, undef, undef, undef, undef, undef, undef, undef, undef, undef, undef, undef, undef, undef, undef, undef, undef, undef, undef, undef, undef, undef, undef, undef, undef, undef, undef, undef, undef, undef, undef, undef, undef, undef, undef, undef, undef, undef, undef, undef, undef, undef, undef], []⟩,
   fun x => ⟨#[undef, undef, undef, undef, .pointer (some ⟨w1.heap.size, 0, none⟩), undef, undef, undef, undef, undef, undef, undef, undef, undef, undef, undef, undef, undef, undef, undef, undef, undef, undef, undef, undef, undef, undef, undef, undef, undef, undef, undef, undef, undef, undef, undef, undef, undef, undef, undef, undef, undef, undef, undef, undef, undef, undef, undef, undef, undef, undef, undef], []⟩,
   fun x => ⟨#[undef, undef, undef, undef, undef, undef, undef, undef, undef, undef, undef, undef, undef, undef, undef, undef, undef, undef, undef, undef, undef, undef, undef, undef, undef, undef, undef, undef, undef, undef, undef, undef, undef, undef, undef, undef, undef, undef, undef, undef, undef, undef, undef, undef, undef, undef, undef, undef, undef, undef, undef, x 1, undef], []⟩,
   fun x => ⟨#[undef, undef, undef, undef, undef, undef, undef, undef, undef, undef, undef, undef, undef, undef, undef, undef, undef, undef, undef, undef, undef, undef, undef, undef, undef, undef, undef, undef, undef, undef, undef, undef, undef, undef, undef, undef, undef, undef, undef, undef, undef, undef, undef, undef, undef, undef, undef, undef, undef, undef, undef, undef, x 2, undef], []⟩,
   fun x => ⟨#[undef, undef, undef, undef, undef, undef, undef, undef, undef, undef, undef, undef, undef, undef, undef, undef, undef, undef, undef, undef, undef, undef, undef, undef, undef, undef, undef, undef, undef, undef, undef, undef, undef, undef, undef, undef, undef, undef, undef, undef, undef, undef, undef, undef, undef, undef, undef, undef, undef, undef, undef, undef, undef, x 3, undef], []⟩,
   fun x => ⟨#[undef, undef, .pointer (some ⟨w.heap.size, 0, none⟩), undef, undef, undef, undef, undef, undef, undef, undef, undef, undef, undef, undef, undef, undef, undef, undef, undef, undef, undef, undef, undef, undef, undef, undef, undef, undef, undef, undef, undef, undef, undef, undef, undef, undef, undef, undef, undef, undef, undef, undef, undef, undef, undef, undef, undef, undef, undef, x 0], []⟩,
   fun x => ⟨#[undef, undef, undef, undef, undef, undef, undef, undef, undef, undef, undef, undef, undef, undef, undef, undef, undef, undef, undef, undef, undef, undef, undef, undef, undef, undef, undef, undef, undef, undef, undef, undef, undef, undef, undef, undef, undef, undef, undef, undef, undef, undef, undef, undef, undef, undef, undef, undef, undef, undef, undef, undef, undef, undef, x 4], []⟩]
            ?hF ?mono ?h0 ?step [0, 1, 2, 3, 4, 5, 6] (by kernel_rfl) ?fin
          case hF =>
            exact ⟨fun x => ⟨by kernel_rfl, by kernel_rfl⟩, fun x => ⟨by kernel_rfl, by kernel_rfl⟩, fun x => ⟨by kernel_rfl, by kernel_rfl⟩, fun x => ⟨by kernel_rfl, by kernel_rfl⟩, fun x => ⟨by kernel_rfl, by kernel_rfl⟩, fun x => ⟨by kernel_rfl, by kernel_rfl⟩, fun x => ⟨by kernel_rfl, by kernel_rfl⟩, trivial⟩
          case mono =>
            intro i j hi hj hne hna hnk v W W' hE hv
            rw [HV.out] at hv ⊢
            simp only [List.length_cons, List.length_nil] at hi hj
            match i, hi with
            | 0, _ | 1, _ | 2, _ | 3, _ | 4, _ | 5, _ | 6, _ => exact hv
            | m + 7, h => exact absurd h (by omega)
          case h0 => intro x; exact toI HIp ⟨HS.out.1, HS.out.2.1, HS.out.2.2.drew⟩
          case step =>
            refine ⟨?_, ?_, ?_, ?_, ?_, ?_, ?_, trivial⟩
            all_goals
              intro x W L hI hL hV
              replace hI : (Blk w.heap.size (.cells #[.int .i64 0, .int .i64 0, .bool false, .int .i64 0, .int .i64 0, .int .i64 0, .int .i64 0, .slice none 0 0, .string noText] 55 (0, 0)) W ∧ Blk w1.heap.size (.cells #[.slice ar lr cr, .int .i64 F] 87 (0, 0)) W ∧ Below w.heap.size w W) := ofI HIp hI
              rw [HV.out] at hV
              simp only [AllV, and_true] at hV
            · clear hV
              (try dsimp only)
              have HI := Lib.hid hI
              clear hI
              go_wp2_with fail
              refine step3_done rfl ?_ ?_ ?_
              · exact (toI HIp HI.out)
              · exact (Below.refl _ _)
              · exact (toV HV rfl)
            · clear hV
              (try dsimp only)
              have HI := Lib.hid hI
              clear hI
              go_wp2_with fail
              refine step3_done rfl ?_ ?_ ?_
              · exact (toI HIp HI.out)
              · exact (Below.refl _ _)
              · exact (toV HV rfl)
            · have u1 := hV
              clear hV
              simp only [u1]
              clear u1
              have HI := Lib.hid hI
              clear hI
              go_wp2_with fail
              refine step3_done rfl ?_ ?_ ?_
              · exact (toI HIp HI.out)
              · exact (Below.refl _ _)
              · exact (toV HV rfl)
            · have u2 := hV
              clear hV
              simp only [u2]
              clear u2
              have HI := Lib.hid hI
              clear hI
              go_wp2_with fail
              refine step3_done rfl ?_ ?_ ?_
              · exact (toI HIp HI.out)
              · exact (Below.refl _ _)
              · exact (toV HV rfl)
            · have u3 := hV
              clear hV
              simp only [u3]
              clear u3
              have e1 : W.cell? ⟨w1.heap.size, 1, none⟩ = some (.int .i64 F) := hI.2.1.cell 1
              have HI := Lib.hid hI
              clear hI
              go_wp2_with fail
              refine step3_done rfl ?_ ?_ ?_
              · exact (toI HIp HI.out)
              · exact (Below.refl _ _)
              · exact (toV HV rfl)
            · have u0 := hV
              clear hV
              simp only [u0]
              clear u0
              obtain ⟨e0, e1, e2, e3, e4, e5, e6, e7, e8⟩ := blk_cells9 hI.1
              have ef : ∀ i, W.frozen? ⟨w.heap.size, i, none⟩ = false := hI.1.frozen
              have HI2 := Lib.hid (And.intro (blk_set9' hI.1 (.int .i64 0) (.int .i64 0) (.bool false) (.int .i64 0) (.int .i64 0) (.int .i64 0) (.int .i64 0) (.slice none 0 0) (.string noText)) (And.intro ((far9 (w := W) (g := w.heap.size) (b := w1.heap.size) (by omega) (.int .i64 0) (.int .i64 0) (.bool false) (.int .i64 0) (.int .i64 0) (.int .i64 0) (.int .i64 0) (.slice none 0 0) (.string noText)).trans hI.2.1) (below_set9 hI.2.2 (Nat.le_refl _) (.int .i64 0) (.int .i64 0) (.bool false) (.int .i64 0) (.int .i64 0) (.int .i64 0) (.int .i64 0) (.slice none 0 0) (.string noText))))
              clear hI
              go_wp2_with fail
              exact step3_done (v := undef) rfl (toI HIp HI2.out) trivial (toV HV rfl)
            · have u4 := hV
              clear hV
              simp only [u4]
              clear u4
              have HI := Lib.hid hI
              clear hI
              go_wp2_with fail
              refine step3_done rfl ?_ ?_ ?_
              · exact (toI HIp HI.out)
              · exact (Below.refl _ _)
              · exact (toV HV rfl)
          case fin =>
            intro x W L hL hI hV
            replace hI : (Blk w.heap.size (.cells #[.int .i64 0, .int .i64 0, .bool false, .int .i64 0, .int .i64 0, .int .i64 0, .int .i64 0, .slice none 0 0, .string noText] 55 (0, 0)) W ∧ Blk w1.heap.size (.cells #[.slice ar lr cr, .int .i64 F] 87 (0, 0)) W ∧ Below w.heap.size w W) := ofI HIp hI
            rw [HV.out] at hV
            simp only [AllV, and_true] at hV
            obtain ⟨u0, u1, u2, u3, u4, u5, u6⟩ := hV
            simp only [getsD, List.getD_cons_succ, List.getD_cons_zero, List.length_cons, List.length_nil, List.range, List.range.loop, u0, u1, u2, u3, u4, u5, u6, Act.put, List.setIfInBounds_toArray, List.set_cons_succ, List.set_cons_zero]
            clear u0 u1 u2 u3 u4 u5 u6
            obtain ⟨e0, e1, e2, e3, e4, e5, e6, e7, e8⟩ := blk_cells9 hI.1
            have HB := Lib.hid hI.2.2
            clear hI
            go_wp2_with fail
            refine bodyPost_ret (v := .tuple #[.agg #[.int .i64 0, .int .i64 0, .bool false, .int .i64 0, .int .i64 0, .int .i64 0, .int .i64 0, .slice none 0 0, .string noText], .int .i64 F]) (by simp [results, Tryd.results23, go_sem, e0, e1, e2, e3, e4, e5, e6, e7, e8]) rfl ?_
            exact Hbad.out W HB.out
      · have hf0 : (r3.fault == 0) = false := by simpa using hf
        have hf1 : (r3.fault != 0) = true := by simpa using hf
        have Hbad := Lib.hid (Hbad.out r3.fault (hrf.out.trans (if_neg hf)) hf)
        have hblt := hD.st.blt
        generalize r3.rest.length = lr at *
        clear hrf
        generalize r3.fault = F at *
        have HS : Hid (Blk w.heap.size (.cells #[.int .i64 0, .int .i64 0, .bool false, .int .i64 0, .int .i64 0, .int .i64 0, .int .i64 0, .slice none 0 0, .string noText] 55 (0, 0)) w6 ∧ Blk w1.heap.size (.cells #[.slice ar lr cr, .int .i64 F] 87 (0, 0)) w6 ∧ Below w.heap.size w w6) := ⟨hD.st.res, y1, hD.st.below⟩
        clear hD y1 Hok hf hI
        go_wp2_with fail
        obtain ⟨Vp, HV⟩ : ∃ Vp : Nat → Value → World → Prop, Hid (Vp = fun i v W => match i with
            | 0 => v = .agg #[.int .i64 0, .int .i64 0, .bool false, .int .i64 0, .int .i64 0, .int .i64 0, .int .i64 0, .slice none 0 0, .string noText]
            | 1 => v = .pointer (some ⟨w1.heap.size, 0, none⟩)
            | 2 => v = .pointer (some ⟨w1.heap.size, 0, none⟩)
            | 3 => v = .pointer (some ⟨w1.heap.size, 1, none⟩)
            | 4 => v = .int .i64 F
            | 5 => v = undef
            | _ => v = .int .i64 F) := ⟨_, rfl⟩
        obtain ⟨Ip, HIp⟩ : ∃ Ip : (Nat → Bool) → (Nat → Value) → World → Prop, Hid (Ip = fun L x W => (Blk w.heap.size (.cells #[.int .i64 0, .int .i64 0, .bool false, .int .i64 0, .int .i64 0, .int .i64 0, .int .i64 0, .slice none 0 0, .string noText] 55 (0, 0)) W ∧ Blk w1.heap.size (.cells #[.slice ar lr cr, .int .i64 F] 87 (0, 0)) W ∧ Below w.heap.size w W)) := ⟨_, rfl⟩
        refine region_lit3 (by kernel_rfl) (by kernel_rfl) (by kernel_rfl) [[], [], [1], [1, 2], [1, 2, 3], [0], [1, 2, 3, 4]] (by kernel_rfl) [some 50, some 51, some 52, some 53, some 54, none, some 3] (by kernel_rfl) [[0, 5], [1, 2, 3, 4, 6], [2, 3, 4, 6], [3, 4, 6], [4, 6], [5], [6]] (by kernel_rfl) [[], [], [], [], [], [], []] [[], [], [1], [2], [3], [0], [4]] (by kernel_rfl)
          Ip
          Vp
          (fun j W W' => match j with
            | 5 => True
            | _ => Below W.heap.size W W')
          [fun x => ⟨#[undef, undef, undef, undef, undef, undef, undef, undef, undef, undef, undef, undef, undef, undef, undef, undef, undef, undef, undef, undef, undef, undef, undef, undef, undef, undef, undef, undef, undef, undef, undef, undef, undef, undef, undef, undef, undef, undef, undef, undef, undef, undef, undef, undef, undef, undef, undef, undef, undef, undef, undef], []⟩,
   fun x => ⟨#[undef, undef, undef, undef, .pointer (some ⟨w1.heap.size, 0, none⟩), undef, undef, undef, undef, undef, undef, undef, undef, undef, undef, undef, undef, undef, undef, undef, undef, undef, undef, undef, undef, undef, undef, undef, undef, undef, undef, undef, undef, undef, undef, undef, undef, undef, undef, undef, undef, undef, undef, undef, undef, undef, undef, undef, undef, undef, undef, undef], []⟩,
   fun x => ⟨#[undef, undef, undef, undef, undef, undef, undef, undef, undef, undef, undef, undef, undef, undef, undef, undef, undef, undef, undef, undef, undef, undef, undef, undef, undef, undef, undef, undef, undef, undef, undef, undef, undef, undef, undef, undef, undef, undef, undef, undef, undef, undef, undef, undef, undef, undef, undef, undef, undef, undef, undef, x 1, undef], []⟩,
   fun x => ⟨#[undef, undef, undef, undef, undef, undef, undef, undef, undef, undef, undef, undef, undef, undef, undef, undef, undef, undef, undef, undef, undef, undef, undef, undef, undef, undef, undef, undef, undef, undef, undef, undef, undef, undef, undef, undef, undef, undef, undef, undef, undef, undef, undef, undef, undef, undef, undef, undef, undef, undef, undef, undef, x 2, undef], []⟩,
   fun x => ⟨#[undef, undef, undef, undef, undef, undef, undef, undef, undef, undef, undef, undef, undef, undef, undef, undef, undef, undef, undef, undef, undef, undef, undef, undef, undef, undef, undef, undef, undef, undef, undef, undef, undef, undef, undef, undef, undef, undef, undef, undef, undef, undef, undef, undef, undef, undef, undef, undef, undef, undef, undef, undef, undef, x 3, undef], []⟩,
   fun x => ⟨#[undef, undef, .pointer (some ⟨w.heap.size, 0, none⟩), undef, undef, undef, undef, undef, undef, undef, undef, undef, undef, undef, undef, undef, undef, undef, undef, undef, undef, undef, undef, undef, undef, undef, undef, undef, undef, undef, undef, undef, undef, undef, undef, undef, undef, undef, undef, undef, undef, undef, undef, undef, undef, undef, undef, undef, undef, undef, x 0], []⟩,
   fun x => ⟨#[undef, undef, undef, undef, undef, undef, undef, undef, undef, undef, undef, undef, undef, undef, undef, undef, undef, undef, undef, undef, undef, undef, undef, undef, undef, undef, undef, undef, undef, undef, undef, undef, undef, undef, undef, undef, undef, undef, undef, undef, undef, undef, undef, undef, undef, undef, undef, undef, undef, undef, undef, undef, undef, undef, x 4], []⟩]
          ?hF ?mono ?h0 ?step [0, 1, 2, 3, 4, 5, 6] (by kernel_rfl) ?fin
        case hF =>
          exact ⟨fun x => ⟨by kernel_rfl, by kernel_rfl⟩, fun x => ⟨by kernel_rfl, by kernel_rfl⟩, fun x => ⟨by kernel_rfl, by kernel_rfl⟩, fun x => ⟨by kernel_rfl, by kernel_rfl⟩, fun x => ⟨by kernel_rfl, by kernel_rfl⟩, fun x => ⟨by kernel_rfl, by kernel_rfl⟩, fun x => ⟨by kernel_rfl, by kernel_rfl⟩, trivial⟩
        case mono =>
          intro i j hi hj hne hna hnk v W W' hE hv
          rw [HV.out] at hv ⊢
          simp only [List.length_cons, List.length_nil] at hi hj
          match i, hi with
          | 0, _ | 1, _ | 2, _ | 3, _ | 4, _ | 5, _ | 6, _ => exact hv
          | m + 7, h => exact absurd h (by omega)
        case h0 => intro x; exact toI HIp ⟨HS.out.1, HS.out.2.1, HS.out.2.2.drew⟩
        case step =>
          refine ⟨?_, ?_, ?_, ?_, ?_, ?_, ?_, trivial⟩
          all_goals
            intro x W L hI hL hV
            replace hI : (Blk w.heap.size (.cells #[.int .i64 0, .int .i64 0, .bool false, .int .i64 0, .int .i64 0, .int .i64 0, .int .i64 0, .slice none 0 0, .string noText] 55 (0, 0)) W ∧ Blk w1.heap.size (.cells #[.slice ar lr cr, .int .i64 F] 87 (0, 0)) W ∧ Below w.heap.size w W) := ofI HIp hI
            rw [HV.out] at hV
            simp only [AllV, and_true] at hV
          · clear hV
            (try dsimp only)
            have HI := Lib.hid hI
            clear hI
            go_wp2_with fail
            refine step3_done rfl ?_ ?_ ?_
            · exact (toI HIp HI.out)
            · exact (Below.refl _ _)
            · exact (toV HV rfl)
          · clear hV
            (try dsimp only)
            have HI := Lib.hid hI
            clear hI
            go_wp2_with fail
            refine step3_done rfl ?_ ?_ ?_
            · exact (toI HIp HI.out)
            · exact (Below.refl _ _)
            · exact (toV HV rfl)
          · have u1 := hV
            clear hV
            simp only [u1]
            clear u1
            have HI := Lib.hid hI
            clear hI
            go_wp2_with fail
            refine step3_done rfl ?_ ?_ ?_
            · exact (toI HIp HI.out)
            · exact (Below.refl _ _)
            · exact (toV HV rfl)
          · have u2 := hV
            clear hV
            simp only [u2]
            clear u2
            have HI := Lib.hid hI
            clear hI
            go_wp2_with fail
            refine step3_done rfl ?_ ?_ ?_
            · exact (toI HIp HI.out)
            · exact (Below.refl _ _)
            · exact (toV HV rfl)
          · have u3 := hV
            clear hV
            simp only [u3]
            clear u3
            have e1 : W.cell? ⟨w1.heap.size, 1, none⟩ = some (.int .i64 F) := hI.2.1.cell 1
            have HI := Lib.hid hI
            clear hI
            go_wp2_with fail
            refine step3_done rfl ?_ ?_ ?_
            · exact (toI HIp HI.out)
            · exact (Below.refl _ _)
            · exact (toV HV rfl)
          · have u0 := hV
            clear hV
            simp only [u0]
            clear u0
            obtain ⟨e0, e1, e2, e3, e4, e5, e6, e7, e8⟩ := blk_cells9 hI.1
            have ef : ∀ i, W.frozen? ⟨w.heap.size, i, none⟩ = false := hI.1.frozen
            have HI2 := Lib.hid (And.intro (blk_set9' hI.1 (.int .i64 0) (.int .i64 0) (.bool false) (.int .i64 0) (.int .i64 0) (.int .i64 0) (.int .i64 0) (.slice none 0 0) (.string noText)) (And.intro ((far9 (w := W) (g := w.heap.size) (b := w1.heap.size) (by omega) (.int .i64 0) (.int .i64 0) (.bool false) (.int .i64 0) (.int .i64 0) (.int .i64 0) (.int .i64 0) (.slice none 0 0) (.string noText)).trans hI.2.1) (below_set9 hI.2.2 (Nat.le_refl _) (.int .i64 0) (.int .i64 0) (.bool false) (.int .i64 0) (.int .i64 0) (.int .i64 0) (.int .i64 0) (.slice none 0 0) (.string noText))))
            clear hI
            go_wp2_with fail
            exact step3_done (v := undef) rfl (toI HIp HI2.out) trivial (toV HV rfl)
          · have u4 := hV
            clear hV
            simp only [u4]
            clear u4
            have HI := Lib.hid hI
            clear hI
            go_wp2_with fail
            refine step3_done rfl ?_ ?_ ?_
            · exact (toI HIp HI.out)
            · exact (Below.refl _ _)
            · exact (toV HV rfl)
        case fin =>
          intro x W L hL hI hV
          replace hI : (Blk w.heap.size (.cells #[.int .i64 0, .int .i64 0, .bool false, .int .i64 0, .int .i64 0, .int .i64 0, .int .i64 0, .slice none 0 0, .string noText] 55 (0, 0)) W ∧ Blk w1.heap.size (.cells #[.slice ar lr cr, .int .i64 F] 87 (0, 0)) W ∧ Below w.heap.size w W) := ofI HIp hI
          rw [HV.out] at hV
          simp only [AllV, and_true] at hV
          obtain ⟨u0, u1, u2, u3, u4, u5, u6⟩ := hV
          simp only [getsD, List.getD_cons_succ, List.getD_cons_zero, List.length_cons, List.length_nil, List.range, List.range.loop, u0, u1, u2, u3, u4, u5, u6, Act.put, List.setIfInBounds_toArray, List.set_cons_succ, List.set_cons_zero]
          clear u0 u1 u2 u3 u4 u5 u6
          obtain ⟨e0, e1, e2, e3, e4, e5, e6, e7, e8⟩ := blk_cells9 hI.1
          have HB := Lib.hid hI.2.2
          clear hI
          go_wp2_with fail
          refine bodyPost_ret (v := .tuple #[.agg #[.int .i64 0, .int .i64 0, .bool false, .int .i64 0, .int .i64 0, .int .i64 0, .int .i64 0, .slice none 0 0, .string noText], .int .i64 F]) (by simp [results, Tryd.results23, go_sem, e0, e1, e2, e3, e4, e5, e6, e7, e8]) rfl ?_
          exact Hbad.out W HB.out
end Go.Proofs.YtdbdhpjjndhjiaaDoor

set_option linter.unusedSimpArgs false
namespace Go.Proofs.YtdbdhpjjndhjiaaDoor
open Go.RowKit

set_option maxRecDepth 100000 in
set_option maxHeartbeats 2000000 in
theorem sameFrame_ok (f : Fr) (a b : Option Addr) (n c m d : Nat) (w : World) (h1 : RdS (· < w.heap.size) w f.op a n c) (h2 : RdS (· < w.heap.size) w f.op b m d) :
    Calls Tryd.prog 48 #[.agg #[.int .i64 f.kind, .int .i64 f.heard, .int .i64 f.epoch, .slice a n c, .string f.text], .agg #[.int .i64 f.kind, .int .i64 f.heard, .int .i64 f.epoch, .slice b m d, .string f.text]] w fun e w' => e = .returned (.bool true) ∧ Below w.heap.size w w' := by
  have HS := Lib.hid (fun W (hW : Below w.heap.size w W) => sameOp_ok f.op a b n c m d W (h1.go hW) (h2.go hW))
  obtain ⟨k, h, e, o, t⟩ := f
  simp only at *
  have e1 : (k == k) = true := by simp
  have e2 : (h == h) = true := by simp
  have e3 : (e == e) = true := by simp
  clear h1 h2
  go_enter Tryd.func48, Tryd.ntmps48
  go_wp2_with fail
  refine abs_run (fun W => Below w.heap.size w W) (by (repeat (first | exact Below.refl _ _ | assumption | (refine Below.drew ?_) | (refine below_drewN ?_ _) | (refine Below.alloc ?_ (by first | (simp; done) | (simp; omega) | omega) _) | (refine Below.setCell ?_ (by first | (simp; done) | (simp; omega) | omega) _) | (refine Below.trans ?_ (Below.mono (by assumption) (by first | (simp; done) | (simp; omega) | omega)))))) ?_
  intro W hW
  refine (HS.out W hW).mono ?_
  rintro x w2 ⟨rfl, u2⟩
  have U2 := Lib.hid (up hW u2)
  clear hW u2 HS
  go_wp2_with fail
  go_ret
  exact ⟨rfl, U2.out⟩
set_option maxRecDepth 100000 in
set_option maxHeartbeats 2000000 in
theorem samePacket_ok (p : Pkt) (a b : Option Addr) (n c m d : Nat) (w : World) (h1 : RdS (· < w.heap.size) w p.f.op a n c) (h2 : RdS (· < w.heap.size) w p.f.op b m d) :
    Calls Tryd.prog 26 #[.agg #[.int .i64 p.epoch, .int .i64 p.number, .bool p.bare, .int .i64 p.ack, .int .i64 p.f.kind, .int .i64 p.f.heard, .int .i64 p.f.epoch, .slice a n c, .string p.f.text], .agg #[.int .i64 p.epoch, .int .i64 p.number, .bool p.bare, .int .i64 p.ack, .int .i64 p.f.kind, .int .i64 p.f.heard, .int .i64 p.f.epoch, .slice b m d, .string p.f.text]] w fun e w' => e = .returned (.bool true) ∧ Below w.heap.size w w' := by
  have HS := Lib.hid (fun W (hW : Below w.heap.size w W) => sameFrame_ok p.f a b n c m d W (h1.go hW) (h2.go hW))
  obtain ⟨ep, nu, ba, ac, k, h, e, o, t⟩ := p
  simp only at *
  have e1 : (ep == ep) = true := by simp
  have e2 : (nu == nu) = true := by simp
  have e3 : (ba == ba) = true := by simp
  have e4 : (ac == ac) = true := by simp
  clear h1 h2
  go_enter Tryd.func26, Tryd.ntmps26
  go_wp2_with fail
  refine abs_run (fun W => Below w.heap.size w W) (by (repeat (first | exact Below.refl _ _ | assumption | (refine Below.drew ?_) | (refine below_drewN ?_ _) | (refine Below.alloc ?_ (by first | (simp; done) | (simp; omega) | omega) _) | (refine Below.setCell ?_ (by first | (simp; done) | (simp; omega) | omega) _) | (refine Below.trans ?_ (Below.mono (by assumption) (by first | (simp; done) | (simp; omega) | omega)))))) ?_
  intro W hW
  refine (HS.out W hW).mono ?_
  rintro x w2 ⟨rfl, u2⟩
  have U2 := Lib.hid (up hW u2)
  clear hW u2 HS
  go_wp2_with fail
  go_ret
  exact ⟨rfl, U2.out⟩
end Go.Proofs.YtdbdhpjjndhjiaaDoor

set_option linter.unusedSimpArgs false
namespace Go.Proofs.YtdbdhpjjndhjiaaDoor
open Go.RowKit

theorem own_form {w : World} {base e size n : Nat} {v : Value} {xs : List Value} (h : w.ownsRow base e size v n xs) : ∃ a c, v = .slice a n c ∧ Flat a := by
  rcases h.2 with ⟨hv, h0⟩ | ⟨g, cap, cur, hv, _⟩
  · exact ⟨none, 0, by rw [hv, h0], .inl rfl⟩
  · exact ⟨_, _, hv, .inr ⟨_, _, rfl⟩⟩
theorem RdS.news_b {w : World} {l : Bs} {a : Option Addr} {n c : Nat} (hr : RdS (· < w.heap.size) w l a n c) (h0 : 0 < n) : ∃ b off, a = some ⟨b, off, none⟩ ∧ ∀ j u, (bb l)[j]? = some u → w.cell? ((⟨b, off, none⟩ : Addr).add j) = some u := by
  obtain ⟨b, off, e, _, _, hcs⟩ := hr.byte h0
  exact ⟨b, off, e, news_bytes hcs⟩
theorem wpList_append_bytes {w : World} {ops : Array Oper} {rest : List Oper} {o : Oper} {a : Act} {Q : Exit → Act → World → Prop} (hgd : o.guard = none) (s x : Operand)
    (ho : o.op = .call { callee := .builtin .append, args := #[s, x], argTypes := #[25, 25] }) (base : Nat) (v : Value) (l l2 : Bs) (hs : a.eval s = v) (hown : w.ownsRow base 5 1 v l.length (bb l))
    (ax : Option Addr) (m cx : Nat) (hx : a.eval x = .slice ax m cx) (hr : RdS (· < w.heap.size) w l2 ax m cx) (h0 : m = 0 → l = []) (hz : l.length + m ≤ 140737488355328) (hbase : base ≤ w.heap.size)
    (h : ∀ a' c' w', w'.ownsRow base 5 1 (.slice a' (l ++ l2).length c') (l ++ l2).length (bb (l ++ l2)) → Flat a' → w.grownBy w' v.ownBlock → wpList Tryd.prog ops Q rest (a.put o.dst (.slice a' (l ++ l2).length c')) w') : wpList Tryd.prog ops Q (o :: rest) a w := by
  obtain ⟨i0, hi, hz0, hz1, hz2⟩ := info_parts infoU8
  have hm := hr.1
  by_cases hm0 : m = 0
  · have hl := h0 hm0
    subst hl
    have hl2 : l2 = [] := List.eq_nil_of_length_eq_zero (by omega)
    subst hl2 hm0
    obtain ⟨a0, c0, hv, hf⟩ := own_form hown
    refine wpList_append_empty hgd s x 25 ho 5 i0 Tryd.underlying25 hi a0 c0 (by rw [hs, hv]; rfl) ax cx hx ?_
    exact h a0 c0 w (by rw [hv] at hown; exact hown) hf (World.grownBy.refl _ _)
  · obtain ⟨b, off, rfl, hnews⟩ := hr.news_b (by omega)
    refine wpList_append_own w hgd s x 25 ho base 5 i0 (.int .u8 0) 1 1 Tryd.underlying25 hi hz0 hz1 hz2 rfl (by decide) v l.length (bb l) hs hown ⟨b, off, none⟩ m cx (bb l2) hx (by rw [bb_len]; omega) hnews (bb_one l2) (by unfold maxLen; omega) (by omega) hbase ?_
    intro v' w' hown' hgrow _
    have hlen : (l ++ l2).length = l.length + m := by rw [List.length_append]; omega
    rw [← bb_app, ← hlen] at hown'
    obtain ⟨a', c', rfl, hf⟩ := own_form hown'
    exact h a' c' w' hown' hf hgrow
theorem encRecord_go (r : Rec) (a : Option Addr) (n c : Nat) (w : World) (hg : Good w) (hr : RdS (· < w.heap.size) w r.op a n c) (he : I64 r.epoch) (hc : checkRecord r = 0) :
    Calls Tryd.prog 16 #[.agg #[.int .i64 r.epoch, .slice a n c]] w fun e w' => ∃ (a' : Option Addr) (c' : Nat), e = .returned (.tuple #[.slice a' (recB r).length c', .int .i64 0]) ∧ RdS (· < w'.heap.size) w' (recB r) a' (recB r).length c' ∧ Below w.heap.size w w' :=
  (encRecord_ok r a n c w hg hr he hc).mono fun e w' ⟨a', c', h1, _, h3, h4⟩ => ⟨a', c', h1, h3.wide fun k hk => hk.2, h4⟩
theorem decRecord_go (b : Bs) (a : Option Addr) (n c : Nat) (w : World) (hg : Good w) (hr : RdS (· < w.heap.size) w b a n c) :
    Calls Tryd.prog 21 #[.slice a n c] w fun e w' => ∃ (a' : Option Addr) (c' : Nat), e = .returned (.tuple #[.agg #[.int .i64 (decRec b).1.epoch, .slice a' (decRec b).1.op.length c'], .int .i64 (decRec b).2]) ∧ RdS (· < w'.heap.size) w' (decRec b).1.op a' (decRec b).1.op.length c' ∧ Below w.heap.size w w' ∧ I64 (decRec b).1.epoch :=
  (decRecord_any b a n c w hg hr).mono fun e w' ⟨a', c', h1, h2, h3, h4⟩ => ⟨a', c', h1, h2.wide fun k hk => hk.2, h3, h4⟩
theorem record_go (r : Raw) (l : List Raw) (a : Option Addr) (n c : Nat) (w : World) (hr : RdS (· < w.heap.size) w l a n c) (hk : r.ok) :
    Calls Tryd.prog 20 #[rawV r, .slice a n c] w fun e w' => ∃ (a' : Option Addr) (c' : Nat), e = .returned (.agg #[.int .i64 (recOf r l).epoch, .slice a' (recOf r l).op.length c']) ∧ RdS (· < w'.heap.size) w' (recOf r l).op a' (recOf r l).op.length c' ∧ Below w.heap.size w w' :=
  (record_any r l a n c w hr hk).mono fun e w' ⟨a', c', h1, h2, h3⟩ => ⟨a', c', h1, h2.wide fun k hk => hk.2, h3⟩
end Go.Proofs.YtdbdhpjjndhjiaaDoor

set_option linter.unusedSimpArgs false
namespace Go.Proofs.YtdbdhpjjndhjiaaDoor
open Go.RowKit

theorem rd_one (w : World) (x : UInt8) (v : Int) (hv : v = (x.toNat : Int)) : RdS (· < (w.alloc (.cells #[.int .u8 v] 5)).heap.size) (w.alloc (.cells #[.int .u8 v] 5)) [x] (some ⟨w.heap.size, 0, none⟩) 1 1 := by
  subst hv
  have hb : Blk w.heap.size (.cells #[.int .u8 (x.toNat : Int)] 5 (0, 0)) (w.alloc (.cells #[.int .u8 (x.toNat : Int)] 5)) := Blk.new _ _
  refine ⟨rfl, Nat.le_refl _, by unfold maxLen; omega, (fun h => by cases h), fun _ => ⟨w.heap.size, 0, rfl, hb.lt, hb.lt, fun i y hi => ?_⟩⟩
  cases i with
  | succ i => simp at hi
  | zero =>
    simp at hi; subst hi
    refine ⟨_, rfl, fun j u hj => ?_⟩
    cases j with
    | succ j => simp at hj
    | zero => simp at hj; subst hj; exact hb.cell 0
theorem box_two {w5 w6 W2 : World} {cs : Array Value} {t base n : Nat} (ht : t ≠ 5) {v : Value} {xs : List Value} {o1 : Obj} (hgrow : (w5.alloc (.cells cs t)).grownBy w6 (Value.slice none 0 0).ownBlock) (hown : w6.ownsRow base 5 1 v n xs) (hgrow2 : (w6.alloc o1).grownBy W2 v.ownBlock) :
    Blk w5.heap.size (.cells cs t (0, 0)) W2 := by
  have h1 : Blk w5.heap.size (.cells cs t (0, 0)) (w6.alloc o1) := ((Blk.new w5 _).grown hgrow (by simp [Value.ownBlock])).alloc _
  exact h1.grown hgrow2 (row_other (hown.alloc o1) h1 ht)
theorem strOf_inj {a b : Bs} (h : a = b) : strOf a = strOf b := by rw [h]
set_option maxRecDepth 100000 in
set_option maxHeartbeats 6000000 in
theorem recordBack_walk (w : World) (hg : Good w) (r : Raw) (hk : r.ok) (a1 : Option Addr) (n1 c1 : Nat) (l1 : List Raw) (r1 : RdS (· < w.heap.size) w l1 a1 n1 c1) (a2 : Option Addr) (n2 c2 : Nat) (l2 : Bs) (r2 : RdS (· < w.heap.size) w l2 a2 n2 c2) (hb0 : n2 ≤ 140737488351232) :
    Calls Tryd.prog 5 #[rawV r, .slice a1 n1 c1, .slice a2 n2 c2] w fun e w' => e = .returned (.bool true) ∧ Below w.heap.size w w' := by
  have HX := Lib.hid (fun W h => record_go r l1 a1 n1 c1 W h hk)
  obtain ⟨x0, x1⟩ := recOf_ok r l1
  generalize recOf r l1 = x at *
  have HE := Lib.hid (fun a n c W hg hr => encRecord_go x a n c W hg hr x1 x0)
  have HD1 := Lib.hid (fun a n c W hg hr => decRecord_go (recB x) a n c W hg hr)
  have HD2 := Lib.hid (fun a n c W hg hr => decRecord_go (recB x ++ [120]) a n c W hg hr)
  have HD3 := Lib.hid (fun a n c W hg hr => decRecord_go l2 a n c W hg hr)
  rw [dec_enc x0] at HD1
  rw [dec_more x0 (by simp) (by simp)] at HD2
  have HS := Lib.hid (fun a b n c m d W h1 h2 => sameRecord_ok x a b n c m d W h1 h2)
  have hbl := rec_len x0
  have g0 := Lib.hid hg
  have B0 := Lib.hid (Below.refl w.heap.size w)
  have ra0 := Lib.hid r1
  have rb0 := Lib.hid r2
  have Hn2 := Lib.hid r2.1
  obtain ⟨rk, xa, xb, xc, xt⟩ := r
  unfold rawV at HX ⊢
  simp only at HX ⊢
  generalize hcs : recB x = cs at *
  have hcl : cs.length ≤ 40010 ∧ 1 ≤ cs.length := hbl
  have hl121 : (cs ++ [120]).length = cs.length + 1 := by simp
  clear hbl r1 r2 hg hcs hk
  generalize x.op.length = lx at *
  go_enter Tryd.func5, Tryd.ntmps5
  go_wp2_with fail
  refine abs_run (fun W => Below w.heap.size w W) (by (repeat (first | exact Below.refl _ _ | assumption | (refine Below.drew ?_) | (refine below_drewN ?_ _) | (refine Below.alloc ?_ (by first | (simp; done) | (simp; omega) | omega) _) | (refine Below.setCell ?_ (by first | (simp; done) | (simp; omega) | omega) _) | (refine Below.trans ?_ (Below.mono (by assumption) (by first | (simp; done) | (simp; omega) | omega)))))) ?_
  rintro w1 hb
  have B1 := Lib.hid (up B0.out hb)
  have g1 := Lib.hid (g0.out.below' hb)
  have ra1 := Lib.hid (ra0.out.go hb)
  have rb1 := Lib.hid (rb0.out.go hb)
  clear B0 g0 ra0 rb0 hb
  refine (HX.out _ ra1.out).mono ?_
  rintro e w2 ⟨ax, cx, rfl, rx, hb⟩
  have B2 := Lib.hid (up B1.out hb)
  have g2 := Lib.hid (g1.out.below' hb)
  have ra2 := Lib.hid (ra1.out.go hb)
  have rb2 := Lib.hid (rb1.out.go hb)
  have rx2 := Lib.hid rx
  clear B1 g1 ra1 rb1 hb rx
  clear ra2
  go_wp2_with fail
  refine abs_run (fun W => Below w2.heap.size w2 W ∧ Blk w2.heap.size (.cells #[.int .i64 x.epoch, .slice ax lx cx] 33 (0, 0)) W) ⟨(by (repeat (first | exact Below.refl _ _ | assumption | (refine Below.drew ?_) | (refine below_drewN ?_ _) | (refine Below.alloc ?_ (by first | (simp; done) | (simp; omega) | omega) _) | (refine Below.setCell ?_ (by first | (simp; done) | (simp; omega) | omega) _) | (refine Below.trans ?_ (Below.mono (by assumption) (by first | (simp; done) | (simp; omega) | omega)))))), Blk.new w2 _⟩ ?_
  rintro w3 ⟨hb, bx⟩
  have B3 := Lib.hid (up B2.out hb)
  have g3 := Lib.hid (g2.out.below' hb)
  have rb3 := Lib.hid (rb2.out.go hb)
  have rx3 := Lib.hid (rx2.out.go hb)
  have bx3 := Lib.hid bx
  clear B2 g2 rb2 rx2 hb bx
  refine (HE.out _ _ _ _ g3.out rx3.out).mono ?_
  rintro e w4 ⟨ac, cc, rfl, rc, hb⟩
  have B4 := Lib.hid (up B3.out hb)
  have g4 := Lib.hid (g3.out.below' hb)
  have rb4 := Lib.hid (rb3.out.go hb)
  have rx4 := Lib.hid (rx3.out.go hb)
  have bx4 := Lib.hid (bx3.out.go hb)
  have rc4 := Lib.hid rc
  clear B3 g3 rb3 rx3 bx3 hb rc
  go_wp2_with fail
  refine (HD1.out _ _ _ _ g4.out rc4.out).mono ?_
  rintro e w5 ⟨ay, cy, rfl, ry, hb, -⟩
  have B5 := Lib.hid (up B4.out hb)
  have g5 := Lib.hid (g4.out.below' hb)
  have rb5 := Lib.hid (rb4.out.go hb)
  have rx5 := Lib.hid (rx4.out.go hb)
  have bx5 := Lib.hid (bx4.out.go hb)
  have rc5 := Lib.hid (rc4.out.go hb)
  have ry5 := Lib.hid ry
  clear B4 g4 rb4 rx4 bx4 rc4 hb ry
  have hnil : w5.ownsRow w5.heap.size 5 1 (.slice none 0 0) ([] : Bs).length (bb []) := World.ownsRow_nil _ _ _ _
  go_wp2_with (at_builtin; go_must (refine wpList_append_bytes rfl _ _ (by rfl) w5.heap.size (.slice none 0 0) [] cs (by rfl) (hnil.alloc _) ac cs.length cc (by rfl) (rc5.out.go ((Below.refl _ _).alloc (Nat.le_refl _) _)) (fun _ => rfl) (by simp; omega) (by simp) ?_))
  intro aq cq w6 hown hfq hgrow
  have hgr1 : Below w5.heap.size w5 w6 := ((Below.refl _ _).alloc (Nat.le_refl _) _).grown hgrow (by simp) (fun g hg => by simp [Value.ownBlock] at hg)
  have hz1 := hgr1.size
  have hwz := hown.lt
  go_wp2_with (at_builtin; go_must (refine wpList_append_bytes rfl _ _ (by rfl) w5.heap.size (.slice aq cs.length cq) cs [120] (by rfl) (hown.alloc _) (some ⟨w6.heap.size, 0, none⟩) 1 1 (by rfl) (rd_one w6 120 120 rfl) (fun h => by cases h) (by omega) (by simp; omega) ?_))
  intro aq2 cq2 W2 hown2 hfq2 hgrow2
  have hgr2 : Below w5.heap.size w5 W2 := (hgr1.alloc (by omega) _).grown hgrow2 (by simp; omega) (fun g hg => (hwz g hg).1)
  have hown3 : W2.ownsRow w5.heap.size 5 1 (.slice aq2 (cs.length + 1) cq2) (cs ++ [120]).length (bb (cs ++ [120])) := by rw [hl121]; exact hown2
  obtain ⟨aq3, cq3, hv3, -, rq⟩ := rd_bytes hown3 (A := (· < W2.heap.size)) (fun k hk => (hown3.lt k hk).2)
  rw [hl121] at rq hv3
  injection hv3 with hv4 hv5 hv6
  subst hv4 hv6
  have by_ : Blk w5.heap.size (.cells #[.int .i64 x.epoch, .slice ay lx cy] 33 (0, 0)) W2 := box_two (by decide) hgrow hown hgrow2
  clear hv5 hown hown2 hown3 hgrow hgrow2 hfq hfq2 hgr1 hz1 hwz hnil
  generalize W2 = w6 at *
  rename Below w5.heap.size w5 w6 => hb
  have B6 := Lib.hid (up B5.out hb)
  have g6 := Lib.hid (g5.out.below' hb)
  have rb6 := Lib.hid (rb5.out.go hb)
  have rx6 := Lib.hid (rx5.out.go hb)
  have bx6 := Lib.hid (bx5.out.go hb)
  have rc6 := Lib.hid (rc5.out.go hb)
  have ry6 := Lib.hid (ry5.out.go hb)
  have rq6 := Lib.hid rq
  have by_6 := Lib.hid by_
  clear B5 g5 rb5 rx5 bx5 rc5 ry5 hb rq by_
  go_wp2_with fail
  refine (HD2.out _ _ _ _ g6.out rq6.out).mono ?_
  rintro e w7 ⟨az, cz, rfl, -, hb, -⟩
  have B7 := Lib.hid (up B6.out hb)
  have g7 := Lib.hid (g6.out.below' hb)
  have rb7 := Lib.hid (rb6.out.go hb)
  have rx7 := Lib.hid (rx6.out.go hb)
  have bx7 := Lib.hid (bx6.out.go hb)
  have rc7 := Lib.hid (rc6.out.go hb)
  have ry7 := Lib.hid (ry6.out.go hb)
  have rq7 := Lib.hid (rq6.out.go hb)
  have by_7 := Lib.hid (by_6.out.go hb)
  clear B6 g6 rb6 rx6 bx6 rc6 ry6 rq6 by_6 hb
  clear rq7
  have q0 := bx7.out.cell 0
  have q1 := bx7.out.cell 1
  have p0 := by_7.out.cell 0
  have p1 := by_7.out.cell 1
  simp only [List.getElem?_toArray, List.getElem?_cons_zero, List.getElem?_cons_succ] at q0 q1 p0 p1
  have l0 := bx7.out.lt
  have l1' := by_7.out.lt
  go_wp2_with fail
  refine abs_run (fun W => Below w7.heap.size w7 W) (by (repeat (first | exact Below.refl _ _ | assumption | (refine Below.drew ?_) | (refine below_drewN ?_ _) | (refine Below.alloc ?_ (by first | (simp; done) | (simp; omega) | omega) _) | (refine Below.setCell ?_ (by first | (simp; done) | (simp; omega) | omega) _) | (refine Below.trans ?_ (Below.mono (by assumption) (by first | (simp; done) | (simp; omega) | omega)))))) ?_
  rintro w8 hb
  have B8 := Lib.hid (up B7.out hb)
  have g8 := Lib.hid (g7.out.below' hb)
  have rb8 := Lib.hid (rb7.out.go hb)
  have rx8 := Lib.hid (rx7.out.go hb)
  have bx8 := Lib.hid (bx7.out.go hb)
  have rc8 := Lib.hid (rc7.out.go hb)
  have ry8 := Lib.hid (ry7.out.go hb)
  have by_8 := Lib.hid (by_7.out.go hb)
  clear B7 g7 rb7 rx7 bx7 rc7 ry7 by_7 hb
  refine (HS.out _ _ _ _ _ _ _ rx8.out ry8.out).mono ?_
  rintro e w9 ⟨rfl, hb⟩
  have B9 := Lib.hid (up B8.out hb)
  have g9 := Lib.hid (g8.out.below' hb)
  have rb9 := Lib.hid (rb8.out.go hb)
  have rx9 := Lib.hid (rx8.out.go hb)
  have bx9 := Lib.hid (bx8.out.go hb)
  have rc9 := Lib.hid (rc8.out.go hb)
  have ry9 := Lib.hid (ry8.out.go hb)
  have by_9 := Lib.hid (by_8.out.go hb)
  clear B8 g8 rb8 rx8 bx8 rc8 ry8 by_8 hb
  clear rx9
  clear ry9
  clear bx9
  clear by_9
  clear q0 q1 p0 p1 l0 l1'
  have hnil : w9.ownsRow w9.heap.size 5 1 (.slice none 0 0) ([] : Bs).length (bb []) := World.ownsRow_nil _ _ _ _
  go_wp2_with (at_builtin; go_must (refine wpList_append_bytes rfl _ _ (by rfl) w9.heap.size (.slice none 0 0) [] l2 (by rfl) hnil a2 n2 c2 (by rfl) rb9.out (fun _ => rfl) (by simp; omega) (by simp) ?_))
  intro aq cq W2 hown hfq hgrow
  have hgr1 : Below w9.heap.size w9 W2 := (Below.refl _ _).grown hgrow (by simp) (fun g hg => by simp [Value.ownBlock] at hg)
  have hnl : ([] ++ l2).length = n2 := Hn2.out.symm
  have hown3 : W2.ownsRow w9.heap.size 5 1 (.slice aq l2.length cq) l2.length (bb l2) := hown
  obtain ⟨aq3, cq3, hv3, -, rq⟩ := rd_bytes hown3 (A := (· < W2.heap.size)) (fun k hk => (hown3.lt k hk).2)
  injection hv3 with hv4 hv5 hv6
  subst hv4 hv6
  clear hv5 hown hown3 hgrow hfq hnil hnl
  generalize W2 = w10 at *
  rename Below w9.heap.size w9 w10 => hb
  have B10 := Lib.hid (up B9.out hb)
  have g10 := Lib.hid (g9.out.below' hb)
  have rb10 := Lib.hid (rb9.out.go hb)
  have rc10 := Lib.hid (rc9.out.go hb)
  have rq10 := Lib.hid rq
  clear B9 g9 rb9 rc9 hb rq
  go_wp2_with fail
  refine (HD3.out _ _ _ _ g10.out rq10.out).mono ?_
  rintro e w11 ⟨az2, cz2, rfl, rz, hb, hI⟩
  have B11 := Lib.hid (up B10.out hb)
  have g11 := Lib.hid (g10.out.below' hb)
  have rb11 := Lib.hid (rb10.out.go hb)
  have rc11 := Lib.hid (rc10.out.go hb)
  have rq11 := Lib.hid (rq10.out.go hb)
  have rz11 := Lib.hid rz
  clear B10 g10 rb10 rc10 rq10 hb rz
  have HI := Lib.hid hI
  clear hI
  by_cases h : (decRec l2).2 = 0
  · obtain ⟨z0, z1⟩ := dec_inv h
    rw [h]
    have HE2 := Lib.hid (fun a n c W hg hr => encRecord_go (decRec l2).1 a n c W hg hr HI.out z0)
    rw [z1] at HE2
    clear h z0 z1 HI
    generalize (decRec l2).1 = z at *
    generalize z.op.length = lz at *
    have B0 := B11
    have g0 := g11
    have rz0 := rz11
    have rb0 := rb11
    clear B11 g11 rz11 rb11
    go_wp2_with fail
    refine abs_run (fun W => Below w11.heap.size w11 W) (by (repeat (first | exact Below.refl _ _ | assumption | (refine Below.drew ?_) | (refine below_drewN ?_ _) | (refine Below.alloc ?_ (by first | (simp; done) | (simp; omega) | omega) _) | (refine Below.setCell ?_ (by first | (simp; done) | (simp; omega) | omega) _) | (refine Below.trans ?_ (Below.mono (by assumption) (by first | (simp; done) | (simp; omega) | omega)))))) ?_
    rintro w1 hb
    have B1 := Lib.hid (up B0.out hb)
    have g1 := Lib.hid (g0.out.below' hb)
    have rz1 := Lib.hid (rz0.out.go hb)
    have rb1 := Lib.hid (rb0.out.go hb)
    clear B0 g0 rz0 rb0 hb
    refine (HE2.out _ _ _ _ g1.out rz1.out).mono ?_
    rintro e w2 ⟨ad, cd, rfl, rd, hb⟩
    have B2 := Lib.hid (up B1.out hb)
    have g2 := Lib.hid (g1.out.below' hb)
    have rz2 := Lib.hid (rz1.out.go hb)
    have rb2 := Lib.hid (rb1.out.go hb)
    have rd2 := Lib.hid rd
    clear B1 g1 rz1 rb1 hb rd
    have hcv1 := rd2.out.conv
    have hcv2 := rb2.out.conv
    generalize strOf l2 = S at *
    go_wp2_with fail
    go_ret
    exact ⟨rfl, B2.out⟩
  · rw [dec_bad h]
    generalize (decRec l2).2 = F at *
    have hF1 : (F != 0) = true := by simpa using h
    have hF2 : (F == 0) = false := by simpa using h
    clear h HI
    go_wp2_with fail
    go_ret
    exact ⟨rfl, up B11.out (by (repeat (first | exact Below.refl _ _ | assumption | (refine Below.drew ?_) | (refine below_drewN ?_ _) | (refine Below.alloc ?_ (by first | (simp; done) | (simp; omega) | omega) _) | (refine Below.setCell ?_ (by first | (simp; done) | (simp; omega) | omega) _) | (refine Below.trans ?_ (Below.mono (by assumption) (by first | (simp; done) | (simp; omega) | omega))))))⟩
end Go.Proofs.YtdbdhpjjndhjiaaDoor

set_option linter.unusedSimpArgs false
namespace Go.Proofs.YtdbdhpjjndhjiaaDoor
open Go.RowKit

theorem encPkt_go (p : Pkt) (a : Option Addr) (n c : Nat) (w : World) (hg : Good w) (hr : RdS (· < w.heap.size) w p.f.op a n c) (hc : p.check = 0) :
    Calls Tryd.prog 25 #[.agg (pktC p (.slice a n c))] w fun e w' => ∃ (a' : Option Addr) (c' : Nat), e = .returned (.tuple #[.slice a' (pkB p).length c', .int .i64 0]) ∧ RdS (· < w'.heap.size) w' (pkB p) a' (pkB p).length c' ∧ Below w.heap.size w w' :=
  (encPkt_ok p a n c w hg hr hc).mono fun e w' ⟨a', c', h1, _, h3, h4⟩ => ⟨a', c', h1, h3.wide fun k hk => hk.2, h4⟩
theorem decPkt_go (b : Bs) (a : Option Addr) (n c : Nat) (w : World) (hg : Good w) (hr : RdS (· < w.heap.size) w b a n c) :
    Calls Tryd.prog 23 #[.slice a n c] w fun e w' => ∃ (a' : Option Addr) (c' : Nat), e = .returned (.tuple #[.agg (pktC (decPkt b).1 (.slice a' (decPkt b).1.f.op.length c')), .int .i64 (decPkt b).2]) ∧ RdS (· < w'.heap.size) w' (decPkt b).1.f.op a' (decPkt b).1.f.op.length c' ∧ Below w.heap.size w w' :=
  (decPkt_any b a n c w hg hr).mono fun e w' ⟨a', c', h1, h2, h3⟩ => ⟨a', c', h1, h2.wide fun k hk => hk.2, h3⟩
theorem packet_go (r : Raw) (l : List Raw) (a : Option Addr) (n c : Nat) (w : World) (hr : RdS (· < w.heap.size) w l a n c) (hk : r.ok) :
    Calls Tryd.prog 24 #[rawV r, .slice a n c] w fun e w' => ∃ (a' : Option Addr) (c' : Nat), e = .returned (.agg (pktC (packetOf r l) (.slice a' (packetOf r l).f.op.length c'))) ∧ RdS (· < w'.heap.size) w' (packetOf r l).f.op a' (packetOf r l).f.op.length c' ∧ Below w.heap.size w w' :=
  (packet_any r l a n c w hr hk).mono fun e w' ⟨a', c', h1, h2, h3⟩ => ⟨a', c', h1, h2.wide fun k hk => hk.2, h3⟩
theorem rd_two (w : World) (x y : UInt8) (u v : Int) (hu : u = (x.toNat : Int)) (hv : v = (y.toNat : Int)) : RdS (· < (w.alloc (.cells #[.int .u8 u, .int .u8 v] 5)).heap.size) (w.alloc (.cells #[.int .u8 u, .int .u8 v] 5)) [x, y] (some ⟨w.heap.size, 0, none⟩) 2 2 := by
  subst hu hv
  have hb : Blk w.heap.size (.cells #[.int .u8 (x.toNat : Int), .int .u8 (y.toNat : Int)] 5 (0, 0)) (w.alloc (.cells #[.int .u8 (x.toNat : Int), .int .u8 (y.toNat : Int)] 5)) := Blk.new _ _
  refine ⟨rfl, Nat.le_refl _, by unfold maxLen; omega, (fun h => by cases h), fun _ => ⟨w.heap.size, 0, rfl, hb.lt, hb.lt, fun i z hi => ?_⟩⟩
  match i, hi with
  | 0, hi =>
    simp at hi; subst hi
    refine ⟨_, rfl, fun j u hj => ?_⟩
    cases j with
    | succ j => simp at hj
    | zero => simp at hj; subst hj; exact hb.cell 0
  | 1, hi =>
    simp at hi; subst hi
    refine ⟨_, rfl, fun j u hj => ?_⟩
    cases j with
    | succ j => simp at hj
    | zero => simp at hj; subst hj; exact hb.cell 1
  | i + 2, hi => simp at hi
theorem box_twoP {w5 w6 W2 : World} {cs : Array Value} {t base n b : Nat} (ht : t ≠ 5) (hb : Blk b (.cells cs t (0, 0)) w5) {v : Value} {xs : List Value} {o1 : Obj} (hgrow : w5.grownBy w6 (Value.slice none 0 0).ownBlock) (hown : w6.ownsRow base 5 1 v n xs) (hgrow2 : (w6.alloc o1).grownBy W2 v.ownBlock) :
    Blk b (.cells cs t (0, 0)) W2 := by
  have h1 : Blk b (.cells cs t (0, 0)) (w6.alloc o1) := (hb.grown hgrow (by simp [Value.ownBlock])).alloc _
  exact h1.grown hgrow2 (row_other (hown.alloc o1) h1 ht)
set_option maxRecDepth 100000 in
set_option maxHeartbeats 6000000 in
theorem packetBack_walk (w : World) (hg : Good w) (r : Raw) (hk : r.ok) (a1 : Option Addr) (n1 c1 : Nat) (l1 : List Raw) (r1 : RdS (· < w.heap.size) w l1 a1 n1 c1) (tl : UInt8) (at_ : Int) (hat : I64 at_) :
    Calls Tryd.prog 8 #[rawV r, .slice a1 n1 c1, .int .u8 (tl.toNat : Int), .int .i64 at_] w fun e w' => e = .returned (.bool true) ∧ Below w.heap.size w w' := by
  have HX := Lib.hid (fun W h => packet_go r l1 a1 n1 c1 W h hk)
  have x0 := packetOf_ok r l1
  generalize packetOf r l1 = p at *
  have HE := Lib.hid (fun a n c W hg hr => encPkt_go p a n c W hg hr x0)
  have HD1 := Lib.hid (fun a n c W hg hr => decPkt_go (pkB p) a n c W hg hr)
  have HD2 := Lib.hid (fun a n c W hg hr => decPkt_go (pkB p ++ [120, tl]) a n c W hg hr)
  have hbl := pkt_len x0
  have rj := pk_range at_ (pkB p).length (by omega)
  obtain ⟨j, hj⟩ : ∃ j : Nat, pk at_ (pkB p).length = (j : Int) := ⟨(pk at_ (pkB p).length).toNat, by omega⟩
  have HJ : Hid (∀ W, Calls Tryd.prog 18 #[.int .i64 at_, .int .i64 ((pkB p).length : Int)] W fun e w' => e = .returned (.int .i64 (j : Int)) ∧ Below W.heap.size W w') := fun W => by
    have := picked_any at_ (pkB p).length W hat (by omega) (by omega)
    rw [hj] at this
    exact this.mono fun e w' ⟨h1, h2⟩ => ⟨h1, h2 ▸ Below.refl _ _⟩
  rw [hj] at rj
  have HD3 := Lib.hid (fun a n c W hg hr => decPkt_go ((pkB p).take j) a n c W hg hr)
  rw [pkt_enc x0] at HD1
  rw [pkt_more x0 (by simp) (by simp)] at HD2
  rw [pkt_torn x0 (by omega)] at HD3
  have HS := Lib.hid (fun a b n c m d W h1 h2 => samePacket_ok p a b n c m d W h1 h2)
  obtain ⟨i1, i2, i3, i4, i5, i6, i7, i8, i9⟩ := pkt_i64 x0
  have HC := Lib.hid (fun a n c W hg hr => checkPacket_any p.epoch p.number p.bare p.ack p.f.kind p.f.heard p.f.epoch p.f.op p.f.text a n c W hg hr i1 i2 i3 i4 i5 i6 i7)
  rw [show checkPacket p.epoch p.number p.bare p.ack p.f.kind p.f.heard p.f.epoch p.f.op p.f.text = 0 from x0] at HC
  have g0 := Lib.hid hg
  have B0 := Lib.hid (Below.refl w.heap.size w)
  have ra0 := Lib.hid r1
  obtain ⟨rk, xa, xb, xc, xt⟩ := r
  unfold rawV at HX ⊢
  simp only at HX ⊢
  generalize hcs : pkB p = cs at *
  have hcl : cs.length ≤ 40030 ∧ 3 ≤ cs.length := hbl
  have hl122 : (cs ++ [120, tl]).length = cs.length + 2 := by simp
  clear hbl r1 hg hcs hk hj i1 i2 i3 i4 i5 i6 i7 i8 i9
  obtain ⟨pe, pn, pb, pa, fk, fh, fe, fo, ft⟩ := p
  simp only [pktC, noPkt, bareFr] at *
  clear x0
  generalize fo.length = lx at *
  generalize noText = nt at *
  go_enter Tryd.func8, Tryd.ntmps8
  go_wp2_with fail
  refine abs_run (fun W => Below w.heap.size w W) (by (repeat (first | exact Below.refl _ _ | assumption | (refine Below.drew ?_) | (refine below_drewN ?_ _) | (refine Below.alloc ?_ (by first | (simp; done) | (simp; omega) | omega) _) | (refine Below.setCell ?_ (by first | (simp; done) | (simp; omega) | omega) _) | (refine Below.trans ?_ (Below.mono (by assumption) (by first | (simp; done) | (simp; omega) | omega)))))) ?_
  rintro w1 hb
  have B1 := Lib.hid (up B0.out hb)
  have g1 := Lib.hid (g0.out.below' hb)
  have ra1 := Lib.hid (ra0.out.go hb)
  clear B0 g0 ra0 hb
  refine (HX.out _ ra1.out).mono ?_
  rintro e w2 ⟨ax, cx, rfl, rx, hb⟩
  have B2 := Lib.hid (up B1.out hb)
  have g2 := Lib.hid (g1.out.below' hb)
  have ra2 := Lib.hid (ra1.out.go hb)
  have rx2 := Lib.hid rx
  clear B1 g1 ra1 hb rx
  clear ra2
  go_wp2_with fail
  refine abs_run (fun W => Below w2.heap.size w2 W ∧ Blk w2.heap.size (.cells #[.int .i64 pe, .int .i64 pn, .bool pb, .int .i64 pa, .int .i64 fk, .int .i64 fh, .int .i64 fe, .slice ax lx cx, .string ft] 55 (0, 0)) W) ⟨(by (repeat (first | exact Below.refl _ _ | assumption | (refine Below.drew ?_) | (refine below_drewN ?_ _) | (refine Below.alloc ?_ (by first | (simp; done) | (simp; omega) | omega) _) | (refine Below.setCell ?_ (by first | (simp; done) | (simp; omega) | omega) _) | (refine Below.trans ?_ (Below.mono (by assumption) (by first | (simp; done) | (simp; omega) | omega)))))), Blk.new w2 _⟩ ?_
  rintro w3 ⟨hb, bx⟩
  have B3 := Lib.hid (up B2.out hb)
  have g3 := Lib.hid (g2.out.below' hb)
  have rx3 := Lib.hid (rx2.out.go hb)
  have bx3 := Lib.hid bx
  clear B2 g2 rx2 hb bx
  refine (HE.out _ _ _ _ g3.out rx3.out).mono ?_
  rintro e w4 ⟨ac, cc, rfl, rc, hb⟩
  have B4 := Lib.hid (up B3.out hb)
  have g4 := Lib.hid (g3.out.below' hb)
  have rx4 := Lib.hid (rx3.out.go hb)
  have bx4 := Lib.hid (bx3.out.go hb)
  have rc4 := Lib.hid rc
  clear B3 g3 rx3 bx3 hb rc
  go_wp2_with fail
  refine (HD1.out _ _ _ _ g4.out rc4.out).mono ?_
  rintro e w5 ⟨ay, cy, rfl, ry, hb⟩
  have B5 := Lib.hid (up B4.out hb)
  have g5 := Lib.hid (g4.out.below' hb)
  have rx5 := Lib.hid (rx4.out.go hb)
  have bx5 := Lib.hid (bx4.out.go hb)
  have rc5 := Lib.hid (rc4.out.go hb)
  have ry5 := Lib.hid ry
  clear B4 g4 rx4 bx4 rc4 hb ry
  have hnil : w5.ownsRow w5.heap.size 5 1 (.slice none 0 0) ([] : Bs).length (bb []) := World.ownsRow_nil _ _ _ _
  go_wp2_with (at_builtin; go_must (refine wpList_append_bytes rfl _ _ (by rfl) w5.heap.size (.slice none 0 0) [] cs (by rfl) (hnil.alloc _) ac cs.length cc (by rfl) (rc5.out.go ((Below.refl _ _).alloc (Nat.le_refl _) _)) (fun _ => rfl) (by simp; omega) (by simp) ?_))
  intro aq cq w6 hown hfq hgrow
  have hgr1 : Below w5.heap.size w5 w6 := ((Below.refl _ _).alloc (Nat.le_refl _) _).grown hgrow (by simp) (fun g hg => by simp [Value.ownBlock] at hg)
  have hz1 := hgr1.size
  have hwz := hown.lt
  go_wp2_with (at_builtin; go_must (refine wpList_append_bytes rfl _ _ (by rfl) w5.heap.size (.slice aq cs.length cq) cs [120, tl] (by rfl) (hown.alloc _) (some ⟨w6.heap.size, 0, none⟩) 2 2 (by rfl) (rd_two w6 120 tl 120 _ rfl rfl) (fun h => by cases h) (by omega) (by simp; omega) ?_))
  intro aq2 cq2 W2 hown2 hfq2 hgrow2
  have hgr2 : Below w5.heap.size w5 W2 := (hgr1.alloc (by omega) _).grown hgrow2 (by simp; omega) (fun g hg => (hwz g hg).1)
  have hown3 : W2.ownsRow w5.heap.size 5 1 (.slice aq2 (cs.length + 2) cq2) (cs ++ [120, tl]).length (bb (cs ++ [120, tl])) := by rw [hl122]; exact hown2
  obtain ⟨aq3, cq3, hv3, -, rq⟩ := rd_bytes hown3 (A := (· < W2.heap.size)) (fun k hk => (hown3.lt k hk).2)
  rw [hl122] at rq hv3
  injection hv3 with hv4 hv5 hv6
  subst hv4 hv6
  have by_ : Blk w5.heap.size (.cells #[.int .i64 pe, .int .i64 pn, .bool pb, .int .i64 pa, .int .i64 fk, .int .i64 fh, .int .i64 fe, .slice ay lx cy, .string ft] 55 (0, 0)) W2 := box_two (by decide) hgrow hown hgrow2
  clear hv5 hown hown2 hown3 hgrow hgrow2 hfq hfq2 hgr1 hz1 hwz hnil
  generalize W2 = w6 at *
  rename Below w5.heap.size w5 w6 => hb
  have B6 := Lib.hid (up B5.out hb)
  have g6 := Lib.hid (g5.out.below' hb)
  have rx6 := Lib.hid (rx5.out.go hb)
  have bx6 := Lib.hid (bx5.out.go hb)
  have rc6 := Lib.hid (rc5.out.go hb)
  have ry6 := Lib.hid (ry5.out.go hb)
  have rq6 := Lib.hid rq
  have by_6 := Lib.hid by_
  clear B5 g5 rx5 bx5 rc5 ry5 hb rq by_
  go_wp2_with fail
  refine (HD2.out _ _ _ _ g6.out rq6.out).mono ?_
  rintro e w7 ⟨az, cz, rfl, -, hb⟩
  have B7 := Lib.hid (up B6.out hb)
  have g7 := Lib.hid (g6.out.below' hb)
  have rx7 := Lib.hid (rx6.out.go hb)
  have bx7 := Lib.hid (bx6.out.go hb)
  have rc7 := Lib.hid (rc6.out.go hb)
  have ry7 := Lib.hid (ry6.out.go hb)
  have rq7 := Lib.hid (rq6.out.go hb)
  have by_7 := Lib.hid (by_6.out.go hb)
  clear B6 g6 rx6 bx6 rc6 ry6 rq6 by_6 hb
  clear rq7
  have hmx : max (cs.length : Int) 1 = (cs.length : Int) := by omega
  go_wp2_with fail
  refine abs_run (fun W => Below w7.heap.size w7 W) (by (repeat (first | exact Below.refl _ _ | assumption | (refine Below.drew ?_) | (refine below_drewN ?_ _) | (refine Below.alloc ?_ (by first | (simp; done) | (simp; omega) | omega) _) | (refine Below.setCell ?_ (by first | (simp; done) | (simp; omega) | omega) _) | (refine Below.trans ?_ (Below.mono (by assumption) (by first | (simp; done) | (simp; omega) | omega)))))) ?_
  rintro w8 hb
  have B8 := Lib.hid (up B7.out hb)
  have g8 := Lib.hid (g7.out.below' hb)
  have rx8 := Lib.hid (rx7.out.go hb)
  have bx8 := Lib.hid (bx7.out.go hb)
  have rc8 := Lib.hid (rc7.out.go hb)
  have ry8 := Lib.hid (ry7.out.go hb)
  have by_8 := Lib.hid (by_7.out.go hb)
  clear B7 g7 rx7 bx7 rc7 ry7 by_7 hb
  refine (HJ.out _).mono ?_
  rintro e w9 ⟨rfl, hb⟩
  have B9 := Lib.hid (up B8.out hb)
  have g9 := Lib.hid (g8.out.below' hb)
  have rx9 := Lib.hid (rx8.out.go hb)
  have bx9 := Lib.hid (bx8.out.go hb)
  have rc9 := Lib.hid (rc8.out.go hb)
  have ry9 := Lib.hid (ry8.out.go hb)
  have by_9 := Lib.hid (by_8.out.go hb)
  clear B8 g8 rx8 bx8 rc8 ry8 by_8 hb
  have rt := rc9.out.upto j (by omega)
  have hcc := rc9.out.2.1
  have hcm : cc ≤ 9223372036854775807 := rc9.out.2.2.1
  have rt := Lib.hid rt
  go_wp2_with fail
  refine (HD3.out _ _ _ _ g9.out rt.out).mono ?_
  rintro e w10 ⟨az2, cz2, rfl, -, hb⟩
  have B10 := Lib.hid (up B9.out hb)
  have g10 := Lib.hid (g9.out.below' hb)
  have rx10 := Lib.hid (rx9.out.go hb)
  have bx10 := Lib.hid (bx9.out.go hb)
  have rc10 := Lib.hid (rc9.out.go hb)
  have ry10 := Lib.hid (ry9.out.go hb)
  have by_10 := Lib.hid (by_9.out.go hb)
  clear B9 g9 rx9 bx9 rc9 ry9 by_9 hb
  obtain ⟨q0, q1, q2, q3, q4, q5, q6, q7, q8⟩ := blk_cells9 bx10.out
  obtain ⟨p0, p1, p2, p3, p4, p5, p6, p7, p8⟩ := blk_cells9 by_10.out
  have l0 := bx10.out.lt
  have l1' := by_10.out.lt
  go_wp2_with fail
  refine abs_run (fun W => Below w10.heap.size w10 W) (by (repeat (first | exact Below.refl _ _ | assumption | (refine Below.drew ?_) | (refine below_drewN ?_ _) | (refine Below.alloc ?_ (by first | (simp; done) | (simp; omega) | omega) _) | (refine Below.setCell ?_ (by first | (simp; done) | (simp; omega) | omega) _) | (refine Below.trans ?_ (Below.mono (by assumption) (by first | (simp; done) | (simp; omega) | omega)))))) ?_
  rintro w11 hb
  have B11 := Lib.hid (up B10.out hb)
  have g11 := Lib.hid (g10.out.below' hb)
  have rx11 := Lib.hid (rx10.out.go hb)
  have bx11 := Lib.hid (bx10.out.go hb)
  have rc11 := Lib.hid (rc10.out.go hb)
  have ry11 := Lib.hid (ry10.out.go hb)
  have by_11 := Lib.hid (by_10.out.go hb)
  clear B10 g10 rx10 bx10 rc10 ry10 by_10 hb
  refine (HS.out _ _ _ _ _ _ _ rx11.out ry11.out).mono ?_
  rintro e w12 ⟨rfl, hb⟩
  have B12 := Lib.hid (up B11.out hb)
  have g12 := Lib.hid (g11.out.below' hb)
  have rx12 := Lib.hid (rx11.out.go hb)
  have bx12 := Lib.hid (bx11.out.go hb)
  have rc12 := Lib.hid (rc11.out.go hb)
  have ry12 := Lib.hid (ry11.out.go hb)
  have by_12 := Lib.hid (by_11.out.go hb)
  clear B11 g11 rx11 bx11 rc11 ry11 by_11 hb
  clear q0 q1 q2 q3 q4 q5 q6 q7 q8 p0 p1 p2 p3 p4 p5 p6 p7 p8
  obtain ⟨q0, q1, q2, q3, q4, q5, q6, q7, q8⟩ := blk_cells9 bx12.out
  go_wp2_with fail
  refine (HC.out _ _ _ _ g12.out rx12.out).mono ?_
  rintro e w13 ⟨rfl, hb⟩
  have B13 := Lib.hid (up B12.out hb)
  have g13 := Lib.hid (g12.out.below' hb)
  have rx13 := Lib.hid (rx12.out.go hb)
  have bx13 := Lib.hid (bx12.out.go hb)
  have rc13 := Lib.hid (rc12.out.go hb)
  have ry13 := Lib.hid (ry12.out.go hb)
  have by_13 := Lib.hid (by_12.out.go hb)
  clear B12 g12 rx12 bx12 rc12 ry12 by_12 hb
  go_wp2_with fail
  go_ret
  exact ⟨rfl, B13.out⟩
end Go.Proofs.YtdbdhpjjndhjiaaDoor
