/- The walk of (*text.walker).pass; walker.part in one word. -/
import Derived.Test.YtkhacogeffidoaaDoorWalk
set_option linter.unusedVariables false
set_option linter.unusedSimpArgs false
namespace Go.Proofs.YtkhacogeffidoaaDoor
open Go.RowKit

theorem P.cut_zero (p : P) : p.cut 0 = p := by cases p <;> simp [P.cut]
theorem P.cut_cut (p : P) (n m : Nat) : (p.cut n).cut m = p.cut (n + m) := by cases p <;> simp [P.cut] <;> omega
theorem remOf_zero (la : List P) (k : Nat) : remOf la k 0 = la.drop k := by
  unfold remOf
  cases h : la.drop k with
  | nil => rfl
  | cons p r => simp [P.cut_zero]
theorem remOf_cons {la : List P} {k n : Nat} {p : P} (h : la[k]? = some p) : remOf la k n = p.cut n :: la.drop (k + 1) := by
  have hk := (List.getElem?_eq_some_iff.1 h).1
  unfold remOf
  rw [List.drop_eq_getElem_cons hk]
  rw [List.getElem?_eq_getElem hk] at h
  rw [Option.some.inj h]
theorem remOf_len (la : List P) (n : Nat) : remOf la la.length n = [] := by unfold remOf; rw [List.drop_length]
theorem remOf_nil {la : List P} {k n : Nat} (hk : k ≤ la.length) (h : remOf la k n = []) : k = la.length := by
  rcases Nat.lt_or_ge k la.length with hl | hl
  · rw [remOf_cons (List.getElem?_eq_getElem hl)] at h; cases h
  · omega
theorem headV_cut {p : P} {n : Nat} (r : List P) : headV (p.cut n :: r) = .tuple #[partV (p.cut n).part, .bool true] := rfl

theorem wpart_any (D b : Nat) (la : List P) (k n : Nat) (w : World) (h : Wk D b la k n w) :
    Calls Tryd.prog 67 #[.pointer (some ⟨b, 0, none⟩)] w fun e w' => e = .returned (headV (remOf la k n)) ∧ Below w.heap.size w w' := by
  rcases Nat.lt_or_ge k la.length with hl | hl
  · have hp := List.getElem?_eq_getElem hl
    rw [remOf_cons hp]
    have hlt := h.lt _ hp
    generalize la[k] = p at *
    cases p with
    | k m =>
      simp only [P.z] at hlt
      have := part_num D b la k n 1 m (.k m) rfl rfl (.inl rfl) hp w h
      have e : ((m : Int) - n) = ((m - n : Nat) : Int) := by omega
      rw [e] at this
      exact this
    | d m =>
      simp only [P.z] at hlt
      have := part_num D b la k n 3 m (.d m) rfl rfl (.inr rfl) hp w h
      have e : ((m : Int) - n) = ((m - n : Nat) : Int) := by omega
      rw [e] at this
      exact this
    | i t => exact part_ins D b la k n t hp w h
  · obtain rfl : k = la.length := by have := h.le; omega
    rw [remOf_len]
    exact part_end D b la n w h

theorem Wk.to {D b : Nat} {la : List P} {k n k' n' : Nat} {w w' : World} (h : Wk D b la k n w) (ht : Touch (fun z => z = b) w w') (hb : ∀ a c, Blk b (.cells #[.slice a la.length c, .int .i64 k, .int .i64 n] 133 (0, 0)) w → Blk b (.cells #[.slice a la.length c, .int .i64 k', .int .i64 n'] 133 (0, 0)) w')
    (h1 : k' ≤ la.length) (h2 : ∀ p, la[k']? = some p → n' < p.z) (h3 : k' = la.length → n' = 0) : Wk D b la k' n' w' := by
  obtain ⟨a, c, hx, hr⟩ := h.ex
  have hbl := hx.lt
  have hdb := h.db
  exact ⟨⟨a, c, hb a c hx, hr.mono fun z hz => ⟨hz, ht.block z (by omega) (fun e => by omega)⟩⟩, h.db, h.ok, h.len, h.f, h.t, h1, h2, h3⟩
theorem P.size_part {q : P} (h : q.ok) : (if q.part.kind = 2 then rc q.part.text else q.part.n) = q.z := by
  cases q with
  | k n => simp [P.part, P.z]
  | d n => simp [P.part, P.z]
  | i t =>
    simp only [P.part, P.z, if_true]
    rw [rc_enc t h.2]
theorem size_P (q : P) (h : q.ok) (hz : q.z ≤ 100000) (w : World) :
    Calls Tryd.prog 71 #[partV q.part] w fun e w' => e = .returned (.int .i64 (q.z : Int)) ∧ Below w.heap.size w w' := by
  have h2 : I64 q.part.n := by unfold I64; cases q <;> simp only [P.part, P.z] at * <;> omega
  have h3 : q.part.text.size ≤ strMax := by
    unfold strMax
    cases q with
    | k n => simp [P.part, noText_size]
    | d n => simp [P.part, noText_size]
    | i t => have := enc_size t h.2; simp only [P.part, P.z] at *; omega
  have := size_any q.part w h2 h3
  rw [P.size_part h] at this
  exact this
/-- what is left of a part may be -/
theorem P.cut_ok {p : P} {n : Nat} (h : p.ok) (hn : n < p.z) : (p.cut n).ok := by
  cases p with
  | k m => simp only [P.cut, P.ok, P.z] at *; omega
  | d m => simp only [P.cut, P.ok, P.z] at *; omega
  | i t =>
    simp only [P.cut, P.ok, P.z] at *
    refine ⟨fun h0 => ?_, fun r hr => h.2 r (List.mem_of_mem_drop hr)⟩
    have := congrArg List.length h0
    simp at this; omega

set_option maxRecDepth 100000 in
set_option maxHeartbeats 4000000 in
theorem pass_any (D b : Nat) (la : List P) (k n m : Nat) (p : P) (hp : la[k]? = some p) (w : World) (h : Wk D b la k n w) (hm : m ≤ p.z - n) :
    Calls Tryd.prog 72 #[.pointer (some ⟨b, 0, none⟩), .int .i64 (m : Int)] w fun e w' => e = .returned (.tuple #[]) ∧ Touch (fun z => z = b) w w' ∧ ∃ k' n', Wk D b la k' n' w' ∧ remOf la k' n' = pass (remOf la k n) m := by
  have hlt := h.lt _ hp
  have hpm : p ∈ la := List.mem_of_getElem? hp
  have hz8 : p.z ≤ 8000 := by
    have h1 := P.z_le p
    have h2 := P.one_le hpm
    have := h.f
    have := h.t
    omega
  have hcok := P.cut_ok (h.ok p hpm) hlt
  have HS := Lib.hid (fun W => size_P (p.cut n) hcok (by rw [P.cut_z]; omega) W)
  have hkl : k < la.length := (List.getElem?_eq_some_iff.1 hp).1
  have HP := Lib.hid (wpart_any D b la k n w h)
  rw [remOf_cons hp, headV_cut] at HP
  rw [P.cut_z] at HS
  have hlen := h.len
  -- both ends
  have Hmove : Hid (∀ W, Below w.heap.size w W → ∀ (W' : World) (k' n' : Nat), Touch (fun z => z = b) W W' → (∀ a c, Blk b (.cells #[.slice a la.length c, .int .i64 k, .int .i64 n] 133 (0, 0)) W → Blk b (.cells #[.slice a la.length c, .int .i64 k', .int .i64 n'] 133 (0, 0)) W') →
      ((m = p.z - n ∧ k' = k + 1 ∧ n' = 0) ∨ (m ≠ p.z - n ∧ k' = k ∧ n' = n + m)) → ∃ k' n', Wk D b la k' n' W' ∧ remOf la k' n' = pass (remOf la k n) m) := by
    unfold Hid
    intro W hW W' k' n' hT hB hc
    refine ⟨k', n', (h.go hW).to hT hB ?_ ?_ ?_, ?_⟩
    · rcases hc with ⟨_, rfl, rfl⟩ | ⟨_, rfl, rfl⟩ <;> omega
    · intro q hq
      rcases hc with ⟨_, rfl, rfl⟩ | ⟨h1, rfl, rfl⟩
      · exact P.ok_z (h.ok q (List.mem_of_getElem? hq))
      · rw [hp] at hq; obtain rfl := Option.some.inj hq; omega
    · rcases hc with ⟨_, rfl, rfl⟩ | ⟨h1, rfl, rfl⟩
      · intro _; rfl
      · omega
    · rw [remOf_cons hp]
      rcases hc with ⟨h1, rfl, rfl⟩ | ⟨h1, rfl, rfl⟩
      · rw [pass_eq (by rw [P.cut_z]; exact h1), remOf_zero]
      · rw [pass_ne (by rw [P.cut_z]; exact h1), P.cut_cut, remOf_cons hp]
  obtain ⟨a, c, hb, _⟩ := h.ex
  have hbl := hb.lt
  have Hb := Lib.hid hb
  have hnz : n + m ≤ p.z := by omega
  clear h hb hpm hcok hp
  generalize hq : (p.cut n).part = q at *
  obtain ⟨qk, qn, qt⟩ := q
  unfold partV at HP HS
  simp only at HP HS
  generalize p.z = z at *
  generalize hll : la.length = ln at *
  clear hq hll
  have hk8 : k ≤ 8001 := by omega
  by_cases he : m = z - n
  · have hbm : ((m : Int) == ((z - n : Nat) : Int)) = true := by simp [he]
    have Hfin := Lib.hid (fun W hW W' hT hB => Hmove.out W hW W' (k + 1) 0 hT hB (.inl ⟨he, rfl, rfl⟩))
    clear he Hmove
    go_enter Tryd.func72, Tryd.ntmps72
    go_wp2_with fail
    refine HP.out.mono ?_
    rintro e w1 ⟨rfl, u1⟩
    have hb1 := Hb.out.go u1
    have hz1 := u1.size
    have c1 : w1.cell? ⟨b, 1, none⟩ = some (.int .i64 (k : Int)) := hb1.cell 1
    have c2 : w1.cell? ⟨b, 2, none⟩ = some (.int .i64 (n : Int)) := hb1.cell 2
    have cf := hb1.frozen
    have HB1 := Lib.hid hb1
    have U1 := Lib.hid u1
    have hl1 : b < w1.heap.size := by omega
    have hl2 : b ≠ w1.heap.size := by omega
    clear hb1 u1
    go_wp2_with fail
    refine (HS.out _).mono ?_
    rintro e w2 ⟨rfl, u2⟩
    have hT2 : Touch (fun z => z = b) w1 w2 := ((touch1 (g := b) (i := 2) (.int .i64 ((n : Int) + (m : Int)))).alloc _).below u2 (by simp [World.setCell])
    have hB2 : ∀ a c, Blk b (.cells #[.slice a ln c, .int .i64 k, .int .i64 n] 133 (0, 0)) w1 → Blk b (.cells #[.slice a ln c, .int .i64 k, .int .i64 ((n + m : Nat) : Int)] 133 (0, 0)) w2 := fun a c hx => ((hx.set 2 (.int .i64 ((n : Int) + (m : Int)))).alloc _).go u2
    have hx2 := hB2 a c HB1.out
    have d1 : w2.cell? ⟨b, 1, none⟩ = some (.int .i64 (k : Int)) := hx2.cell 1
    have d2 : w2.cell? ⟨b, 2, none⟩ = some (.int .i64 ((n + m : Nat) : Int)) := hx2.cell 2
    have df := hx2.frozen
    have HT2 := Lib.hid hT2
    have HB2 := Lib.hid hB2
    clear hT2 hB2 hx2 u2 c1 c2 cf
    go_wp2_with fail
    go_end0
    exact ⟨rfl, (Touch.of_below U1.out).trans ((HT2.out.trans (touch1 _)).trans (touch1 _)), Hfin.out w1 U1.out _ ((HT2.out.trans (touch1 _)).trans (touch1 _)) (fun a c hx => ((HB2.out a c hx).set 1 _).set 2 _)⟩
  · have hbm : ((m : Int) == ((z - n : Nat) : Int)) = false := by simp; omega
    have Hfin := Lib.hid (fun W hW W' hT hB => Hmove.out W hW W' k (n + m) hT hB (.inr ⟨he, rfl, rfl⟩))
    clear he Hmove
    go_enter Tryd.func72, Tryd.ntmps72
    go_wp2_with fail
    refine HP.out.mono ?_
    rintro e w1 ⟨rfl, u1⟩
    have hb1 := Hb.out.go u1
    have hz1 := u1.size
    have c1 : w1.cell? ⟨b, 1, none⟩ = some (.int .i64 (k : Int)) := hb1.cell 1
    have c2 : w1.cell? ⟨b, 2, none⟩ = some (.int .i64 (n : Int)) := hb1.cell 2
    have cf := hb1.frozen
    have HB1 := Lib.hid hb1
    have U1 := Lib.hid u1
    have hl1 : b < w1.heap.size := by omega
    have hl2 : b ≠ w1.heap.size := by omega
    clear hb1 u1
    go_wp2_with fail
    refine (HS.out _).mono ?_
    rintro e w2 ⟨rfl, u2⟩
    have hT2 : Touch (fun z => z = b) w1 w2 := ((touch1 (g := b) (i := 2) (.int .i64 ((n : Int) + (m : Int)))).alloc _).below u2 (by simp [World.setCell])
    have hB2 : ∀ a c, Blk b (.cells #[.slice a ln c, .int .i64 k, .int .i64 n] 133 (0, 0)) w1 → Blk b (.cells #[.slice a ln c, .int .i64 k, .int .i64 ((n + m : Nat) : Int)] 133 (0, 0)) w2 := fun a c hx => ((hx.set 2 (.int .i64 ((n : Int) + (m : Int)))).alloc _).go u2
    have hx2 := hB2 a c HB1.out
    have d1 : w2.cell? ⟨b, 1, none⟩ = some (.int .i64 (k : Int)) := hx2.cell 1
    have d2 : w2.cell? ⟨b, 2, none⟩ = some (.int .i64 ((n + m : Nat) : Int)) := hx2.cell 2
    have df := hx2.frozen
    have HT2 := Lib.hid hT2
    have HB2 := Lib.hid hB2
    clear hT2 hB2 hx2 u2 c1 c2 cf
    go_wp2_with fail
    go_end0
    exact ⟨rfl, (Touch.of_below U1.out).trans HT2.out, Hfin.out w1 U1.out _ HT2.out HB2.out⟩
end Go.Proofs.YtkhacogeffidoaaDoor
