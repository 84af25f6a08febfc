/- The walks of (*wire.reader).fail and take. -/
import Derived.Test.YtdbdhpjjndhjiaaDoorWire
import Derived.Test.YtdbdhpjjndhjiaaDoorOwn
import Derived.Test.YtdbdhpjjndhjiaaDoorBits
import Derived.Test.YtdbdhpjjndhjiaaDoorLib
import Derived.Outline
set_option linter.unusedSimpArgs false
namespace Go.Proofs.YtdbdhpjjndhjiaaDoor
open Go.RowKit

instance : Rep UInt8 where
  n := 1
  rd := fun _ _ x cs => cs = [.int .u8 (x.toNat : Int)]
  len := fun h => by rw [h]; rfl
  mono := fun _ h => h
  one := fun h => by rw [h]; simp [Value.oneCell']
  pos := by decide
/-- a byte of a slice of bytes -/
theorem RdS.byte {A : Nat → Prop} {w : World} {l : Bs} {a : Option Addr} {n c : Nat} (hr : RdS A w l a n c) (hn : 0 < n) :
    ∃ b off, a = some ⟨b, off, none⟩ ∧ A b ∧ b < w.heap.size ∧ ∀ i (h : i < l.length), w.cell? ⟨b, off + i, none⟩ = some (.int .u8 (l[i].toNat : Int)) := by
  obtain ⟨b, off, e, hA, hb, he⟩ := hr.2.2.2.2 hn
  refine ⟨b, off, e, hA, hb, fun i h => ?_⟩
  obtain ⟨xs, h1, h4⟩ := he i l[i] (List.getElem?_eq_getElem h)
  have h1' : xs = [.int .u8 (l[i].toNat : Int)] := h1
  subst h1'
  have := h4 0 _ rfl
  rw [show off + i * Rep.n UInt8 + 0 = off + i from by show off + i * 1 + 0 = off + i; omega] at this
  exact this
/-- a piece of a slice, from k on -/
theorem RdS.from_ {α : Type} [Rep α] {A : Nat → Prop} {w : World} {l : List α} {b off n c : Nat} (hr : RdS A w l (some ⟨b, off, none⟩) n c) (k : Nat) (hk : k ≤ n) : RdS A w (l.drop k) (some ⟨b, off + k * Rep.n α, none⟩) (n - k) (c - k) := by
  have hn := hr.1
  have hc := hr.2.1
  have hcm := hr.2.2.1
  refine ⟨by rw [List.length_drop]; omega, by omega, by omega, (fun h => by cases h), fun h0 => ?_⟩
  obtain ⟨b', off', e, hA, hb, he⟩ := hr.2.2.2.2 (by omega)
  injection e with e
  injection e with e1 e2 e3
  subst e1 e2
  refine ⟨b, off + k * Rep.n α, rfl, hA, hb, fun i x hi => ?_⟩
  rw [List.getElem?_drop] at hi
  obtain ⟨xs, h1, h2⟩ := he (k + i) x hi
  refine ⟨xs, h1, fun j u hu => ?_⟩
  have h3 := h2 j u hu
  rw [Nat.add_mul, ← Nat.add_assoc] at h3
  exact h3
theorem RdS.empty {α : Type} [Rep α] (A : Nat → Prop) (w : World) (a : Option Addr) : RdS (α := α) A w [] a 0 0 := ⟨rfl, Nat.le_refl _, by unfold maxLen; omega, fun _ => rfl, fun h => absurd h (by omega)⟩
/-- block b is a reader -/
def Flat (a : Option Addr) : Prop := a = none ∨ ∃ g off, a = some ⟨g, off, none⟩
structure Rdr (b : Nat) (r : Rd) (w : World) : Prop where
  ex : ∃ a c, Flat a ∧ Blk b (.cells #[.slice a r.rest.length c, .int .i64 r.fault] 87 (0, 0)) w ∧ RdS (· < b) w r.rest a r.rest.length c
theorem Rdr.lt {b : Nat} {r : Rd} {w : World} (h : Rdr b r w) : b < w.heap.size := by obtain ⟨a, c, _, h1, _⟩ := h.ex; exact h1.lt
theorem Rdr.go {b : Nat} {r : Rd} {w w' : World} (h : Rdr b r w) (hb : Below w.heap.size w w') : Rdr b r w' := by
  have hl := h.lt
  obtain ⟨a, c, h0, h1, h2⟩ := h.ex
  exact ⟨a, c, h0, h1.go hb, h2.mono fun k hk => ⟨hk, hb.block k (Nat.lt_trans hk hl)⟩⟩
theorem Rdr.set1 {b : Nat} {l : Bs} {f e : Int} {w : World} (h : Rdr b ⟨l, f⟩ w) : Rdr b ⟨l, e⟩ (w.setCell ⟨b, 1, none⟩ (.int .i64 e)) := by
  obtain ⟨a, c, h0, h1, h2⟩ := h.ex
  exact ⟨a, c, h0, h1.set 1 _, h2.mono fun k hk => ⟨hk, Below.heap_setCell _ _ _ _ (by show k ≠ b; have hk' : k < b := hk; omega)⟩⟩
theorem Rdr.set0 {b : Nat} {l l' : Bs} {f : Int} {w : World} {a : Option Addr} {n c : Nat} (h : Rdr b ⟨l, f⟩ w) (hr : RdS (· < b) w l' a n c) (hf : Flat a) : Rdr b ⟨l', f⟩ (w.setCell ⟨b, 0, none⟩ (.slice a n c)) := by
  obtain ⟨a0, c0, _, h1, h2⟩ := h.ex
  have hn : n = l'.length := hr.1
  subst hn
  exact ⟨a, c, hf, h1.set 0 _, hr.mono fun k hk => ⟨hk, Below.heap_setCell _ _ _ _ (by show k ≠ b; have hk' : k < b := hk; omega)⟩⟩
/-- only block b has turned -/
abbrev Only (b : Nat) (w w' : World) : Prop := Touch (fun k => k = b) w w'

set_option maxRecDepth 100000 in
set_option maxHeartbeats 1000000 in
theorem fail_any (b : Nat) (r : Rd) (e : Int) (w : World) (h : Rdr b r w) :
    Calls Tryd.prog 62 #[.pointer (some ⟨b, 0, none⟩), .int .i64 e] w fun x w' => x = .returned (.tuple #[]) ∧ Rdr b (r.fail e) w' ∧ Only b w w' := by
  obtain ⟨l, f⟩ := r
  have hl := h.lt
  obtain ⟨a, c, -, h1, h2⟩ := h.ex
  have c0 : w.cell? ⟨b, 0, none⟩ = some (.slice a l.length c) := h1.cell 0
  have c1 : w.cell? ⟨b, 1, none⟩ = some (.int .i64 f) := h1.cell 1
  have f0 : w.frozen? ⟨b, 0, none⟩ = false := h1.frozen 0
  have f1 : w.frozen? ⟨b, 1, none⟩ = false := h1.frozen 1
  by_cases hf : f = 0
  · have hf0 : (f == 0) = true := by simpa using hf
    have P1 : Hid (Rdr b (Rd.fail ⟨l, f⟩ e) ((w.setCell ⟨b, 1, none⟩ (.int .i64 e)).setCell ⟨b, 0, none⟩ (.slice none 0 0))) := by
      unfold Hid Rd.fail
      simp only [if_pos hf]
      exact Rdr.set0 (Rdr.set1 h) (RdS.empty _ _ _) (.inl rfl)
    have P2 : Hid (Only b w ((w.setCell ⟨b, 1, none⟩ (.int .i64 e)).setCell ⟨b, 0, none⟩ (.slice none 0 0))) := (touch1 _).trans (touch1 _)
    clear h h1 h2 hf
    go_enter Tryd.func62, Tryd.ntmps62
    go_wp2_with fail
    go_end0
    exact ⟨rfl, P1.out, P2.out⟩
  · have hf0 : (f == 0) = false := by simpa using hf
    have P1 : Hid (Rdr b (Rd.fail ⟨l, f⟩ e) (w.setCell ⟨b, 0, none⟩ (.slice none 0 0))) := by
      unfold Hid Rd.fail
      simp only [if_neg hf]
      exact Rdr.set0 h (RdS.empty _ _ _) (.inl rfl)
    have P2 : Hid (Only b w (w.setCell ⟨b, 0, none⟩ (.slice none 0 0))) := touch1 _
    clear h h1 h2 hf
    go_enter Tryd.func62, Tryd.ntmps62
    go_wp2_with fail
    go_end0
    exact ⟨rfl, P1.out, P2.out⟩

/-- what a call of take leaves -/
def TakeP (b : Nat) (r : Rd) (w : World) (x : Ending) (w' : World) : Prop := x = .returned (.int .i64 ((r.take.1 : Nat) : Int)) ∧ Rdr b r.take.2 w' ∧ Only b w w'
set_option maxRecDepth 100000 in
set_option maxHeartbeats 8000000 in
theorem take_any (b : Nat) (r : Rd) (w : World) (h : Rdr b r w) :
    Calls Tryd.prog 41 #[.pointer (some ⟨b, 0, none⟩)] w (TakeP b r w) := by
  by_cases hf : r.fault = 0
  · obtain ⟨l0, f⟩ := r
    simp only at hf
    subst hf
    have Hpost : Hid (∀ n l f W, tk 0 0 l0 = (n, l, f) → Rdr b ⟨l, f⟩ W → Only b w W → TakeP b ⟨l0, 0⟩ w (.returned (.int .i64 ((n : Nat) : Int))) W) := by
      intro n l f W ht hR hO
      unfold TakeP Rd.take
      rw [if_pos rfl]
      simp only [ht]
      exact ⟨trivial, hR, hO⟩
    have H0 := Lib.hid h
    clear h
    generalize TakeP b ⟨l0, 0⟩ w = TP at *
    go_enter Tryd.func41, Tryd.ntmps41
    go_wp2_with fail
    go_loopw [3, 4] (fun n i wr => ∃ (k m : Nat) (l : Bs), i = .int .i64 k ∧ n = .int .i64 m ∧ k ≤ 3 ∧ m < 2 ^ (7 * k) ∧ Rdr b ⟨l, 0⟩ wr ∧ Only b w wr ∧ tk k m l = tk 0 0 l0) (fun _ i _ => (4 - intOf i).toNat)
    case atStart => exact ⟨0, 0, l0, rfl, rfl, by omega, by decide, H0.out, Touch.refl _ _, rfl⟩
    case round =>
      obtain ⟨k, m, l, rfl, rfl, hk, hm, hR, hO, ht⟩ := hrel
      clear H0
      have hbl := hR.lt
      obtain ⟨a, c, -, h1, h2⟩ := hR.ex
      have c0 : wr.cell? ⟨b, 0, none⟩ = some (.slice a l.length c) := h1.cell 0
      have c1 : wr.cell? ⟨b, 1, none⟩ = some (.int .i64 0) := h1.cell 1
      have f0 : wr.frozen? ⟨b, 0, none⟩ = false := h1.frozen 0
      have f1 : wr.frozen? ⟨b, 1, none⟩ = false := h1.frozen 1
      have HR := Lib.hid hR
      have HO := Lib.hid hO
      cases l with
      | nil =>
        have HF := Lib.hid (fail_any b ⟨[], 0⟩ 5 wr hR)
        have HT := Lib.hid ht
        simp only [List.length_nil] at c0
        clear h1 h2 hR hO ht hm
        go_wp2_with fail
        refine HF.out.mono ?_
        rintro e w2 ⟨rfl, g1, g2⟩
        have G := Lib.hid (Hpost.out 0 [] 5 w2 HT.out.symm g1 (HO.out.trans g2))
        clear g1 g2 HF HT HR HO
        go_wp2_with fail
        exact G.out
      | cons x l =>
        obtain ⟨g, off, rfl, hgb, hgl, hcs⟩ := h2.byte (by simp)
        have d0 : wr.cell? ⟨g, off, none⟩ = some (.int .u8 (x.toNat : Int)) := hcs 0 (by simp)
        have hgb' : g < b := hgb
        have hx := x.toNat_lt
        have hcc := h2.2.1
        have hcm : c ≤ 9223372036854775807 := h2.2.2.1
        simp only [List.length_cons] at c0 hcc
        have ha := and127 x.toNat (by omega)
        rw [show (((x.toNat % 128 : Nat) : Int)) = (x.toNat : Int) % 128 from by omega] at ha
        have hl60 : l.length < 4611686018427387904 ∨ True := .inr trivial
        -- the byte is gone
        have Hset : Hid (∀ off' c', (off' = off + 1 ∧ c' = c - 1 ∨ c = 1 ∧ c' = 0) → Rdr b ⟨l, 0⟩ (wr.setCell ⟨b, 0, none⟩ (.slice (some ⟨g, off', none⟩) l.length c')) ∧ Only b w (wr.setCell ⟨b, 0, none⟩ (.slice (some ⟨g, off', none⟩) l.length c'))) := by
          intro off' c' hoc
          refine ⟨HR.out.set0 ?_ (.inr ⟨_, _, rfl⟩), HO.out.trans (touch1 _)⟩
          rcases hoc with ⟨rfl, rfl⟩ | ⟨h3, rfl⟩
          · have := h2.from_ 1 (by simp)
            simpa [show Rep.n UInt8 = 1 from rfl] using this
          · have hl0 : l = [] := List.eq_nil_of_length_eq_zero (by omega)
            subst hl0
            exact RdS.empty _ _ _
        have Hbad : Hid (((0 < k ∧ x.toNat = 0) ∨ (k = 3 ∧ 127 < x.toNat)) → tk 0 0 l0 = (0, [], 4)) := fun hb => by rw [← ht]; exact tk_bad hb
        have Hend : Hid (¬ ((0 < k ∧ x.toNat = 0) ∨ (k = 3 ∧ 127 < x.toNat)) → x.toNat < 128 → tk 0 0 l0 = (m + x.toNat * 2 ^ (7 * k), l, 0)) := fun hb h2 => by rw [← ht]; exact tk_end hb h2
        have Hon : Hid (¬ ((0 < k ∧ x.toNat = 0) ∨ (k = 3 ∧ 127 < x.toNat)) → ¬ x.toNat < 128 → tk (k + 1) (m + (x.toNat % 128) * 2 ^ (7 * k)) l = tk 0 0 l0) := fun hb h2 => by rw [← ht]; exact (tk_on hb h2).symm
        have hcases : k = 0 ∨ k = 1 ∨ k = 2 ∨ k = 3 := by omega
        clear h1 h2 hR hO ht hcs HR hgb hl60
        generalize x.toNat = y at *
        rcases hcases with rfl | rfl | rfl | rfl
        · try simp only [Nat.mul_zero, Nat.mul_one] at hm
          by_cases hy : y < 128
          · have hy8 : decide ((y : Int) < 128) = true := by simp; omega
            by_cases hc1 : 1 < c
            · have ⟨s1, s2⟩ : Rdr b ⟨l, 0⟩ (wr.setCell ⟨b, 0, none⟩ (.slice (some ⟨g, off + 1, none⟩) l.length (c - 1))) ∧ Only b w (wr.setCell ⟨b, 0, none⟩ (.slice (some ⟨g, off + 1, none⟩) l.length (c - 1))) := Hset.out (off + 1) (c - 1) (.inl ⟨rfl, rfl⟩)
              clear Hset
              have ho : bits .or .i64 (m : Int) ((y : Int) % 128) = (m : Int) + (y : Int) % 128 := by
                have := or_add m (y % 128) 0 (by omega) (by omega) (by omega)
                rw [show (((y % 128 * 2 ^ 0 : Nat)) : Int) = ((y : Int) % 128) from by omega] at this
                rw [this]; omega
              have G : Hid (TP (.returned (.int .i64 ((m : Int) + (y : Int) % 128))) (wr.setCell ⟨b, 0, none⟩ (.slice (some ⟨g, off + 1, none⟩) l.length (c - 1)))) := by
                have h5 := Hpost.out _ _ _ _ (Hend.out (by omega) (by omega)) s1 s2
                rw [show (((m + y * 2 ^ (7 * 0) : Nat)) : Int) = (m : Int) + (y : Int) % 128 from by omega] at h5
                exact h5
              clear s1 s2 Hbad Hend Hon
              go_wp2_with fail
              exact G.out
            · have hc2 : c = 1 := by omega
              have hl0 : l = [] := List.eq_nil_of_length_eq_zero (by omega)
              subst hc2 hl0
              simp only [List.length_nil] at c0 hcc
              have ⟨s1, s2⟩ : Rdr b ⟨[], 0⟩ (wr.setCell ⟨b, 0, none⟩ (.slice (some ⟨g, off, none⟩) 0 0)) ∧ Only b w (wr.setCell ⟨b, 0, none⟩ (.slice (some ⟨g, off, none⟩) 0 0)) := Hset.out off 0 (.inr ⟨rfl, rfl⟩)
              clear Hset
              have ho : bits .or .i64 (m : Int) ((y : Int) % 128) = (m : Int) + (y : Int) % 128 := by
                have := or_add m (y % 128) 0 (by omega) (by omega) (by omega)
                rw [show (((y % 128 * 2 ^ 0 : Nat)) : Int) = ((y : Int) % 128) from by omega] at this
                rw [this]; omega
              have G : Hid (TP (.returned (.int .i64 ((m : Int) + (y : Int) % 128))) (wr.setCell ⟨b, 0, none⟩ (.slice (some ⟨g, off, none⟩) 0 0))) := by
                have h5 := Hpost.out _ _ _ _ (Hend.out (by omega) (by omega)) s1 s2
                rw [show (((m + y * 2 ^ (7 * 0) : Nat)) : Int) = (m : Int) + (y : Int) % 128 from by omega] at h5
                exact h5
              clear s1 s2 Hbad Hend Hon
              go_wp2_with fail
              exact G.out
          · have hy8 : decide ((y : Int) < 128) = false := by simp; omega
            by_cases hc1 : 1 < c
            · have ⟨s1, s2⟩ : Rdr b ⟨l, 0⟩ (wr.setCell ⟨b, 0, none⟩ (.slice (some ⟨g, off + 1, none⟩) l.length (c - 1))) ∧ Only b w (wr.setCell ⟨b, 0, none⟩ (.slice (some ⟨g, off + 1, none⟩) l.length (c - 1))) := Hset.out (off + 1) (c - 1) (.inl ⟨rfl, rfl⟩)
              clear Hset
              have ho : bits .or .i64 (m : Int) ((y : Int) % 128) = (m : Int) + (y : Int) % 128 := by
                have := or_add m (y % 128) 0 (by omega) (by omega) (by omega)
                rw [show (((y % 128 * 2 ^ 0 : Nat)) : Int) = ((y : Int) % 128) from by omega] at this
                rw [this]; omega
              have HN := Lib.hid (Hon.out (by omega) (by omega))
              have S1 := Lib.hid s1
              have S2 := Lib.hid s2
              clear s1 s2 Hbad Hend Hon Hpost
              go_wp2_with fail
              go_roundw
              case rel => exact ⟨1, m + y % 128 * 2 ^ (7 * 0), l, by go_num, by first | go_num | (congr 1; omega), by omega, by omega, S1.out, S2.out, HN.out⟩
              case measure => simp [intOf]
            · have hc2 : c = 1 := by omega
              have hl0 : l = [] := List.eq_nil_of_length_eq_zero (by omega)
              subst hc2 hl0
              simp only [List.length_nil] at c0 hcc
              have ⟨s1, s2⟩ : Rdr b ⟨[], 0⟩ (wr.setCell ⟨b, 0, none⟩ (.slice (some ⟨g, off, none⟩) 0 0)) ∧ Only b w (wr.setCell ⟨b, 0, none⟩ (.slice (some ⟨g, off, none⟩) 0 0)) := Hset.out off 0 (.inr ⟨rfl, rfl⟩)
              clear Hset
              have ho : bits .or .i64 (m : Int) ((y : Int) % 128) = (m : Int) + (y : Int) % 128 := by
                have := or_add m (y % 128) 0 (by omega) (by omega) (by omega)
                rw [show (((y % 128 * 2 ^ 0 : Nat)) : Int) = ((y : Int) % 128) from by omega] at this
                rw [this]; omega
              have HN := Lib.hid (Hon.out (by omega) (by omega))
              have S1 := Lib.hid s1
              have S2 := Lib.hid s2
              clear s1 s2 Hbad Hend Hon Hpost
              go_wp2_with fail
              go_roundw
              case rel => exact ⟨1, m + y % 128 * 2 ^ (7 * 0), [], by go_num, by first | go_num | (congr 1; omega), by omega, by omega, S1.out, S2.out, HN.out⟩
              case measure => simp [intOf]
        · try simp only [Nat.mul_zero, Nat.mul_one] at hm
          by_cases hz : y = 0
          · have hy0 : ((y : Int) == 0) = true := by simp; omega
            by_cases hc1 : 1 < c
            · have ⟨s1, s2⟩ : Rdr b ⟨l, 0⟩ (wr.setCell ⟨b, 0, none⟩ (.slice (some ⟨g, off + 1, none⟩) l.length (c - 1))) ∧ Only b w (wr.setCell ⟨b, 0, none⟩ (.slice (some ⟨g, off + 1, none⟩) l.length (c - 1))) := Hset.out (off + 1) (c - 1) (.inl ⟨rfl, rfl⟩)
              clear Hset
              have HF := Lib.hid (fail_any b ⟨l, 0⟩ 4 (wr.setCell ⟨b, 0, none⟩ (.slice (some ⟨g, off + 1, none⟩) l.length (c - 1))) s1)
              have S2 := Lib.hid s2
              have HB := Lib.hid (Hbad.out (by omega))
              clear s1 s2 Hbad Hend Hon hm
              go_wp2_with fail
              refine HF.out.mono ?_
              rintro e w2 ⟨rfl, g1, g2⟩
              have G := Lib.hid (Hpost.out 0 [] 4 w2 HB.out g1 (S2.out.trans g2))
              clear g1 g2 HF HB S2
              go_wp2_with fail
              exact G.out
            · have hc2 : c = 1 := by omega
              have hl0 : l = [] := List.eq_nil_of_length_eq_zero (by omega)
              subst hc2 hl0
              simp only [List.length_nil] at c0 hcc
              have ⟨s1, s2⟩ : Rdr b ⟨[], 0⟩ (wr.setCell ⟨b, 0, none⟩ (.slice (some ⟨g, off, none⟩) 0 0)) ∧ Only b w (wr.setCell ⟨b, 0, none⟩ (.slice (some ⟨g, off, none⟩) 0 0)) := Hset.out off 0 (.inr ⟨rfl, rfl⟩)
              clear Hset
              have HF := Lib.hid (fail_any b ⟨[], 0⟩ 4 (wr.setCell ⟨b, 0, none⟩ (.slice (some ⟨g, off, none⟩) 0 0)) s1)
              have S2 := Lib.hid s2
              have HB := Lib.hid (Hbad.out (by omega))
              clear s1 s2 Hbad Hend Hon hm
              go_wp2_with fail
              refine HF.out.mono ?_
              rintro e w2 ⟨rfl, g1, g2⟩
              have G := Lib.hid (Hpost.out 0 [] 4 w2 HB.out g1 (S2.out.trans g2))
              clear g1 g2 HF HB S2
              go_wp2_with fail
              exact G.out
          · have hy0 : ((y : Int) == 0) = false := by simp; omega
            by_cases hy : y < 128
            · have hy8 : decide ((y : Int) < 128) = true := by simp; omega
              by_cases hc1 : 1 < c
              · have ⟨s1, s2⟩ : Rdr b ⟨l, 0⟩ (wr.setCell ⟨b, 0, none⟩ (.slice (some ⟨g, off + 1, none⟩) l.length (c - 1))) ∧ Only b w (wr.setCell ⟨b, 0, none⟩ (.slice (some ⟨g, off + 1, none⟩) l.length (c - 1))) := Hset.out (off + 1) (c - 1) (.inl ⟨rfl, rfl⟩)
                clear Hset
                have ho : bits .or .i64 (m : Int) ((y : Int) % 128 * 128) = (m : Int) + (y : Int) % 128 * 128 := by
                  have := or_add m (y % 128) 7 (by omega) (by omega) (by omega)
                  rw [show (((y % 128 * 2 ^ 7 : Nat)) : Int) = ((y : Int) % 128 * 128) from by omega] at this
                  rw [this]; omega
                have G : Hid (TP (.returned (.int .i64 ((m : Int) + (y : Int) % 128 * 128))) (wr.setCell ⟨b, 0, none⟩ (.slice (some ⟨g, off + 1, none⟩) l.length (c - 1)))) := by
                  have h5 := Hpost.out _ _ _ _ (Hend.out (by omega) (by omega)) s1 s2
                  rw [show (((m + y * 2 ^ (7 * 1) : Nat)) : Int) = (m : Int) + (y : Int) % 128 * 128 from by omega] at h5
                  exact h5
                clear s1 s2 Hbad Hend Hon
                go_wp2_with fail
                exact G.out
              · have hc2 : c = 1 := by omega
                have hl0 : l = [] := List.eq_nil_of_length_eq_zero (by omega)
                subst hc2 hl0
                simp only [List.length_nil] at c0 hcc
                have ⟨s1, s2⟩ : Rdr b ⟨[], 0⟩ (wr.setCell ⟨b, 0, none⟩ (.slice (some ⟨g, off, none⟩) 0 0)) ∧ Only b w (wr.setCell ⟨b, 0, none⟩ (.slice (some ⟨g, off, none⟩) 0 0)) := Hset.out off 0 (.inr ⟨rfl, rfl⟩)
                clear Hset
                have ho : bits .or .i64 (m : Int) ((y : Int) % 128 * 128) = (m : Int) + (y : Int) % 128 * 128 := by
                  have := or_add m (y % 128) 7 (by omega) (by omega) (by omega)
                  rw [show (((y % 128 * 2 ^ 7 : Nat)) : Int) = ((y : Int) % 128 * 128) from by omega] at this
                  rw [this]; omega
                have G : Hid (TP (.returned (.int .i64 ((m : Int) + (y : Int) % 128 * 128))) (wr.setCell ⟨b, 0, none⟩ (.slice (some ⟨g, off, none⟩) 0 0))) := by
                  have h5 := Hpost.out _ _ _ _ (Hend.out (by omega) (by omega)) s1 s2
                  rw [show (((m + y * 2 ^ (7 * 1) : Nat)) : Int) = (m : Int) + (y : Int) % 128 * 128 from by omega] at h5
                  exact h5
                clear s1 s2 Hbad Hend Hon
                go_wp2_with fail
                exact G.out
            · have hy8 : decide ((y : Int) < 128) = false := by simp; omega
              by_cases hc1 : 1 < c
              · have ⟨s1, s2⟩ : Rdr b ⟨l, 0⟩ (wr.setCell ⟨b, 0, none⟩ (.slice (some ⟨g, off + 1, none⟩) l.length (c - 1))) ∧ Only b w (wr.setCell ⟨b, 0, none⟩ (.slice (some ⟨g, off + 1, none⟩) l.length (c - 1))) := Hset.out (off + 1) (c - 1) (.inl ⟨rfl, rfl⟩)
                clear Hset
                have ho : bits .or .i64 (m : Int) ((y : Int) % 128 * 128) = (m : Int) + (y : Int) % 128 * 128 := by
                  have := or_add m (y % 128) 7 (by omega) (by omega) (by omega)
                  rw [show (((y % 128 * 2 ^ 7 : Nat)) : Int) = ((y : Int) % 128 * 128) from by omega] at this
                  rw [this]; omega
                have HN := Lib.hid (Hon.out (by omega) (by omega))
                have S1 := Lib.hid s1
                have S2 := Lib.hid s2
                clear s1 s2 Hbad Hend Hon Hpost
                go_wp2_with fail
                go_roundw
                case rel => exact ⟨2, m + y % 128 * 2 ^ (7 * 1), l, by go_num, by first | go_num | (congr 1; omega), by omega, by omega, S1.out, S2.out, HN.out⟩
                case measure => simp [intOf]
              · have hc2 : c = 1 := by omega
                have hl0 : l = [] := List.eq_nil_of_length_eq_zero (by omega)
                subst hc2 hl0
                simp only [List.length_nil] at c0 hcc
                have ⟨s1, s2⟩ : Rdr b ⟨[], 0⟩ (wr.setCell ⟨b, 0, none⟩ (.slice (some ⟨g, off, none⟩) 0 0)) ∧ Only b w (wr.setCell ⟨b, 0, none⟩ (.slice (some ⟨g, off, none⟩) 0 0)) := Hset.out off 0 (.inr ⟨rfl, rfl⟩)
                clear Hset
                have ho : bits .or .i64 (m : Int) ((y : Int) % 128 * 128) = (m : Int) + (y : Int) % 128 * 128 := by
                  have := or_add m (y % 128) 7 (by omega) (by omega) (by omega)
                  rw [show (((y % 128 * 2 ^ 7 : Nat)) : Int) = ((y : Int) % 128 * 128) from by omega] at this
                  rw [this]; omega
                have HN := Lib.hid (Hon.out (by omega) (by omega))
                have S1 := Lib.hid s1
                have S2 := Lib.hid s2
                clear s1 s2 Hbad Hend Hon Hpost
                go_wp2_with fail
                go_roundw
                case rel => exact ⟨2, m + y % 128 * 2 ^ (7 * 1), [], by go_num, by first | go_num | (congr 1; omega), by omega, by omega, S1.out, S2.out, HN.out⟩
                case measure => simp [intOf]
        · try simp only [Nat.mul_zero, Nat.mul_one] at hm
          by_cases hz : y = 0
          · have hy0 : ((y : Int) == 0) = true := by simp; omega
            by_cases hc1 : 1 < c
            · have ⟨s1, s2⟩ : Rdr b ⟨l, 0⟩ (wr.setCell ⟨b, 0, none⟩ (.slice (some ⟨g, off + 1, none⟩) l.length (c - 1))) ∧ Only b w (wr.setCell ⟨b, 0, none⟩ (.slice (some ⟨g, off + 1, none⟩) l.length (c - 1))) := Hset.out (off + 1) (c - 1) (.inl ⟨rfl, rfl⟩)
              clear Hset
              have HF := Lib.hid (fail_any b ⟨l, 0⟩ 4 (wr.setCell ⟨b, 0, none⟩ (.slice (some ⟨g, off + 1, none⟩) l.length (c - 1))) s1)
              have S2 := Lib.hid s2
              have HB := Lib.hid (Hbad.out (by omega))
              clear s1 s2 Hbad Hend Hon hm
              go_wp2_with fail
              refine HF.out.mono ?_
              rintro e w2 ⟨rfl, g1, g2⟩
              have G := Lib.hid (Hpost.out 0 [] 4 w2 HB.out g1 (S2.out.trans g2))
              clear g1 g2 HF HB S2
              go_wp2_with fail
              exact G.out
            · have hc2 : c = 1 := by omega
              have hl0 : l = [] := List.eq_nil_of_length_eq_zero (by omega)
              subst hc2 hl0
              simp only [List.length_nil] at c0 hcc
              have ⟨s1, s2⟩ : Rdr b ⟨[], 0⟩ (wr.setCell ⟨b, 0, none⟩ (.slice (some ⟨g, off, none⟩) 0 0)) ∧ Only b w (wr.setCell ⟨b, 0, none⟩ (.slice (some ⟨g, off, none⟩) 0 0)) := Hset.out off 0 (.inr ⟨rfl, rfl⟩)
              clear Hset
              have HF := Lib.hid (fail_any b ⟨[], 0⟩ 4 (wr.setCell ⟨b, 0, none⟩ (.slice (some ⟨g, off, none⟩) 0 0)) s1)
              have S2 := Lib.hid s2
              have HB := Lib.hid (Hbad.out (by omega))
              clear s1 s2 Hbad Hend Hon hm
              go_wp2_with fail
              refine HF.out.mono ?_
              rintro e w2 ⟨rfl, g1, g2⟩
              have G := Lib.hid (Hpost.out 0 [] 4 w2 HB.out g1 (S2.out.trans g2))
              clear g1 g2 HF HB S2
              go_wp2_with fail
              exact G.out
          · have hy0 : ((y : Int) == 0) = false := by simp; omega
            by_cases hy : y < 128
            · have hy8 : decide ((y : Int) < 128) = true := by simp; omega
              by_cases hc1 : 1 < c
              · have ⟨s1, s2⟩ : Rdr b ⟨l, 0⟩ (wr.setCell ⟨b, 0, none⟩ (.slice (some ⟨g, off + 1, none⟩) l.length (c - 1))) ∧ Only b w (wr.setCell ⟨b, 0, none⟩ (.slice (some ⟨g, off + 1, none⟩) l.length (c - 1))) := Hset.out (off + 1) (c - 1) (.inl ⟨rfl, rfl⟩)
                clear Hset
                have ho : bits .or .i64 (m : Int) ((y : Int) % 128 * 16384) = (m : Int) + (y : Int) % 128 * 16384 := by
                  have := or_add m (y % 128) 14 (by omega) (by omega) (by omega)
                  rw [show (((y % 128 * 2 ^ 14 : Nat)) : Int) = ((y : Int) % 128 * 16384) from by omega] at this
                  rw [this]; omega
                have G : Hid (TP (.returned (.int .i64 ((m : Int) + (y : Int) % 128 * 16384))) (wr.setCell ⟨b, 0, none⟩ (.slice (some ⟨g, off + 1, none⟩) l.length (c - 1)))) := by
                  have h5 := Hpost.out _ _ _ _ (Hend.out (by omega) (by omega)) s1 s2
                  rw [show (((m + y * 2 ^ (7 * 2) : Nat)) : Int) = (m : Int) + (y : Int) % 128 * 16384 from by omega] at h5
                  exact h5
                clear s1 s2 Hbad Hend Hon
                go_wp2_with fail
                exact G.out
              · have hc2 : c = 1 := by omega
                have hl0 : l = [] := List.eq_nil_of_length_eq_zero (by omega)
                subst hc2 hl0
                simp only [List.length_nil] at c0 hcc
                have ⟨s1, s2⟩ : Rdr b ⟨[], 0⟩ (wr.setCell ⟨b, 0, none⟩ (.slice (some ⟨g, off, none⟩) 0 0)) ∧ Only b w (wr.setCell ⟨b, 0, none⟩ (.slice (some ⟨g, off, none⟩) 0 0)) := Hset.out off 0 (.inr ⟨rfl, rfl⟩)
                clear Hset
                have ho : bits .or .i64 (m : Int) ((y : Int) % 128 * 16384) = (m : Int) + (y : Int) % 128 * 16384 := by
                  have := or_add m (y % 128) 14 (by omega) (by omega) (by omega)
                  rw [show (((y % 128 * 2 ^ 14 : Nat)) : Int) = ((y : Int) % 128 * 16384) from by omega] at this
                  rw [this]; omega
                have G : Hid (TP (.returned (.int .i64 ((m : Int) + (y : Int) % 128 * 16384))) (wr.setCell ⟨b, 0, none⟩ (.slice (some ⟨g, off, none⟩) 0 0))) := by
                  have h5 := Hpost.out _ _ _ _ (Hend.out (by omega) (by omega)) s1 s2
                  rw [show (((m + y * 2 ^ (7 * 2) : Nat)) : Int) = (m : Int) + (y : Int) % 128 * 16384 from by omega] at h5
                  exact h5
                clear s1 s2 Hbad Hend Hon
                go_wp2_with fail
                exact G.out
            · have hy8 : decide ((y : Int) < 128) = false := by simp; omega
              by_cases hc1 : 1 < c
              · have ⟨s1, s2⟩ : Rdr b ⟨l, 0⟩ (wr.setCell ⟨b, 0, none⟩ (.slice (some ⟨g, off + 1, none⟩) l.length (c - 1))) ∧ Only b w (wr.setCell ⟨b, 0, none⟩ (.slice (some ⟨g, off + 1, none⟩) l.length (c - 1))) := Hset.out (off + 1) (c - 1) (.inl ⟨rfl, rfl⟩)
                clear Hset
                have ho : bits .or .i64 (m : Int) ((y : Int) % 128 * 16384) = (m : Int) + (y : Int) % 128 * 16384 := by
                  have := or_add m (y % 128) 14 (by omega) (by omega) (by omega)
                  rw [show (((y % 128 * 2 ^ 14 : Nat)) : Int) = ((y : Int) % 128 * 16384) from by omega] at this
                  rw [this]; omega
                have HN := Lib.hid (Hon.out (by omega) (by omega))
                have S1 := Lib.hid s1
                have S2 := Lib.hid s2
                clear s1 s2 Hbad Hend Hon Hpost
                go_wp2_with fail
                go_roundw
                case rel => exact ⟨3, m + y % 128 * 2 ^ (7 * 2), l, by go_num, by first | go_num | (congr 1; omega), by omega, by omega, S1.out, S2.out, HN.out⟩
                case measure => simp [intOf]
              · have hc2 : c = 1 := by omega
                have hl0 : l = [] := List.eq_nil_of_length_eq_zero (by omega)
                subst hc2 hl0
                simp only [List.length_nil] at c0 hcc
                have ⟨s1, s2⟩ : Rdr b ⟨[], 0⟩ (wr.setCell ⟨b, 0, none⟩ (.slice (some ⟨g, off, none⟩) 0 0)) ∧ Only b w (wr.setCell ⟨b, 0, none⟩ (.slice (some ⟨g, off, none⟩) 0 0)) := Hset.out off 0 (.inr ⟨rfl, rfl⟩)
                clear Hset
                have ho : bits .or .i64 (m : Int) ((y : Int) % 128 * 16384) = (m : Int) + (y : Int) % 128 * 16384 := by
                  have := or_add m (y % 128) 14 (by omega) (by omega) (by omega)
                  rw [show (((y % 128 * 2 ^ 14 : Nat)) : Int) = ((y : Int) % 128 * 16384) from by omega] at this
                  rw [this]; omega
                have HN := Lib.hid (Hon.out (by omega) (by omega))
                have S1 := Lib.hid s1
                have S2 := Lib.hid s2
                clear s1 s2 Hbad Hend Hon Hpost
                go_wp2_with fail
                go_roundw
                case rel => exact ⟨3, m + y % 128 * 2 ^ (7 * 2), [], by go_num, by first | go_num | (congr 1; omega), by omega, by omega, S1.out, S2.out, HN.out⟩
                case measure => simp [intOf]
        · try simp only [Nat.mul_zero, Nat.mul_one] at hm
          by_cases hz : y = 0
          · have hy0 : ((y : Int) == 0) = true := by simp; omega
            by_cases hc1 : 1 < c
            · have ⟨s1, s2⟩ : Rdr b ⟨l, 0⟩ (wr.setCell ⟨b, 0, none⟩ (.slice (some ⟨g, off + 1, none⟩) l.length (c - 1))) ∧ Only b w (wr.setCell ⟨b, 0, none⟩ (.slice (some ⟨g, off + 1, none⟩) l.length (c - 1))) := Hset.out (off + 1) (c - 1) (.inl ⟨rfl, rfl⟩)
              clear Hset
              have HF := Lib.hid (fail_any b ⟨l, 0⟩ 4 (wr.setCell ⟨b, 0, none⟩ (.slice (some ⟨g, off + 1, none⟩) l.length (c - 1))) s1)
              have S2 := Lib.hid s2
              have HB := Lib.hid (Hbad.out (by omega))
              clear s1 s2 Hbad Hend Hon hm
              go_wp2_with fail
              refine HF.out.mono ?_
              rintro e w2 ⟨rfl, g1, g2⟩
              have G := Lib.hid (Hpost.out 0 [] 4 w2 HB.out g1 (S2.out.trans g2))
              clear g1 g2 HF HB S2
              go_wp2_with fail
              exact G.out
            · have hc2 : c = 1 := by omega
              have hl0 : l = [] := List.eq_nil_of_length_eq_zero (by omega)
              subst hc2 hl0
              simp only [List.length_nil] at c0 hcc
              have ⟨s1, s2⟩ : Rdr b ⟨[], 0⟩ (wr.setCell ⟨b, 0, none⟩ (.slice (some ⟨g, off, none⟩) 0 0)) ∧ Only b w (wr.setCell ⟨b, 0, none⟩ (.slice (some ⟨g, off, none⟩) 0 0)) := Hset.out off 0 (.inr ⟨rfl, rfl⟩)
              clear Hset
              have HF := Lib.hid (fail_any b ⟨[], 0⟩ 4 (wr.setCell ⟨b, 0, none⟩ (.slice (some ⟨g, off, none⟩) 0 0)) s1)
              have S2 := Lib.hid s2
              have HB := Lib.hid (Hbad.out (by omega))
              clear s1 s2 Hbad Hend Hon hm
              go_wp2_with fail
              refine HF.out.mono ?_
              rintro e w2 ⟨rfl, g1, g2⟩
              have G := Lib.hid (Hpost.out 0 [] 4 w2 HB.out g1 (S2.out.trans g2))
              clear g1 g2 HF HB S2
              go_wp2_with fail
              exact G.out
          · have hy0 : ((y : Int) == 0) = false := by simp; omega
            by_cases hy : y < 128
            · have hy8 : decide ((y : Int) < 128) = true := by simp; omega
              have hy7 : decide ((127 : Int) < (y : Int)) = false := by simp; omega
              by_cases hc1 : 1 < c
              · have ⟨s1, s2⟩ : Rdr b ⟨l, 0⟩ (wr.setCell ⟨b, 0, none⟩ (.slice (some ⟨g, off + 1, none⟩) l.length (c - 1))) ∧ Only b w (wr.setCell ⟨b, 0, none⟩ (.slice (some ⟨g, off + 1, none⟩) l.length (c - 1))) := Hset.out (off + 1) (c - 1) (.inl ⟨rfl, rfl⟩)
                clear Hset
                have ho : bits .or .i64 (m : Int) ((y : Int) % 128 * 2097152) = (m : Int) + (y : Int) % 128 * 2097152 := by
                  have := or_add m (y % 128) 21 (by omega) (by omega) (by omega)
                  rw [show (((y % 128 * 2 ^ 21 : Nat)) : Int) = ((y : Int) % 128 * 2097152) from by omega] at this
                  rw [this]; omega
                have G : Hid (TP (.returned (.int .i64 ((m : Int) + (y : Int) % 128 * 2097152))) (wr.setCell ⟨b, 0, none⟩ (.slice (some ⟨g, off + 1, none⟩) l.length (c - 1)))) := by
                  have h5 := Hpost.out _ _ _ _ (Hend.out (by omega) (by omega)) s1 s2
                  rw [show (((m + y * 2 ^ (7 * 3) : Nat)) : Int) = (m : Int) + (y : Int) % 128 * 2097152 from by omega] at h5
                  exact h5
                clear s1 s2 Hbad Hend Hon
                go_wp2_with fail
                exact G.out
              · have hc2 : c = 1 := by omega
                have hl0 : l = [] := List.eq_nil_of_length_eq_zero (by omega)
                subst hc2 hl0
                simp only [List.length_nil] at c0 hcc
                have ⟨s1, s2⟩ : Rdr b ⟨[], 0⟩ (wr.setCell ⟨b, 0, none⟩ (.slice (some ⟨g, off, none⟩) 0 0)) ∧ Only b w (wr.setCell ⟨b, 0, none⟩ (.slice (some ⟨g, off, none⟩) 0 0)) := Hset.out off 0 (.inr ⟨rfl, rfl⟩)
                clear Hset
                have ho : bits .or .i64 (m : Int) ((y : Int) % 128 * 2097152) = (m : Int) + (y : Int) % 128 * 2097152 := by
                  have := or_add m (y % 128) 21 (by omega) (by omega) (by omega)
                  rw [show (((y % 128 * 2 ^ 21 : Nat)) : Int) = ((y : Int) % 128 * 2097152) from by omega] at this
                  rw [this]; omega
                have G : Hid (TP (.returned (.int .i64 ((m : Int) + (y : Int) % 128 * 2097152))) (wr.setCell ⟨b, 0, none⟩ (.slice (some ⟨g, off, none⟩) 0 0))) := by
                  have h5 := Hpost.out _ _ _ _ (Hend.out (by omega) (by omega)) s1 s2
                  rw [show (((m + y * 2 ^ (7 * 3) : Nat)) : Int) = (m : Int) + (y : Int) % 128 * 2097152 from by omega] at h5
                  exact h5
                clear s1 s2 Hbad Hend Hon
                go_wp2_with fail
                exact G.out
            · have hy8 : decide ((y : Int) < 128) = false := by simp; omega
              have hy7 : decide ((127 : Int) < (y : Int)) = true := by simp; omega
              by_cases hc1 : 1 < c
              · have ⟨s1, s2⟩ : Rdr b ⟨l, 0⟩ (wr.setCell ⟨b, 0, none⟩ (.slice (some ⟨g, off + 1, none⟩) l.length (c - 1))) ∧ Only b w (wr.setCell ⟨b, 0, none⟩ (.slice (some ⟨g, off + 1, none⟩) l.length (c - 1))) := Hset.out (off + 1) (c - 1) (.inl ⟨rfl, rfl⟩)
                clear Hset
                have HF := Lib.hid (fail_any b ⟨l, 0⟩ 4 (wr.setCell ⟨b, 0, none⟩ (.slice (some ⟨g, off + 1, none⟩) l.length (c - 1))) s1)
                have S2 := Lib.hid s2
                have HB := Lib.hid (Hbad.out (by omega))
                clear s1 s2 Hbad Hend Hon hm
                go_wp2_with fail
                refine HF.out.mono ?_
                rintro e w2 ⟨rfl, g1, g2⟩
                have G := Lib.hid (Hpost.out 0 [] 4 w2 HB.out g1 (S2.out.trans g2))
                clear g1 g2 HF HB S2
                go_wp2_with fail
                exact G.out
              · have hc2 : c = 1 := by omega
                have hl0 : l = [] := List.eq_nil_of_length_eq_zero (by omega)
                subst hc2 hl0
                simp only [List.length_nil] at c0 hcc
                have ⟨s1, s2⟩ : Rdr b ⟨[], 0⟩ (wr.setCell ⟨b, 0, none⟩ (.slice (some ⟨g, off, none⟩) 0 0)) ∧ Only b w (wr.setCell ⟨b, 0, none⟩ (.slice (some ⟨g, off, none⟩) 0 0)) := Hset.out off 0 (.inr ⟨rfl, rfl⟩)
                clear Hset
                have HF := Lib.hid (fail_any b ⟨[], 0⟩ 4 (wr.setCell ⟨b, 0, none⟩ (.slice (some ⟨g, off, none⟩) 0 0)) s1)
                have S2 := Lib.hid s2
                have HB := Lib.hid (Hbad.out (by omega))
                clear s1 s2 Hbad Hend Hon hm
                go_wp2_with fail
                refine HF.out.mono ?_
                rintro e w2 ⟨rfl, g1, g2⟩
                have G := Lib.hid (Hpost.out 0 [] 4 w2 HB.out g1 (S2.out.trans g2))
                clear g1 g2 HF HB S2
                go_wp2_with fail
                exact G.out
  · have ht : r.take = (0, r) := fault_take r hf
    have hf0 : (r.fault == 0) = false := by simpa using hf
    obtain ⟨a, c, -, h1, h2⟩ := h.ex
    have c1 : w.cell? ⟨b, 1, none⟩ = some (.int .i64 r.fault) := h1.cell 1
    have G : Hid (TakeP b r w (.returned (.int .i64 0)) w) := by
      unfold Hid TakeP
      rw [ht]
      exact ⟨rfl, h, Touch.refl _ _⟩
    clear h h1 h2 ht hf
    generalize TakeP b r w = TP at *
    generalize r.fault = f at *
    go_enter Tryd.func41, Tryd.ntmps41
    go_wp2_with fail
    go_loopw [3, 4] (fun n i wr => wr = w) (fun _ i _ => 0)
    case atStart => rfl
    case round =>
      subst hrel
      go_wp2_with fail
      exact G.out
end Go.Proofs.YtdbdhpjjndhjiaaDoor
