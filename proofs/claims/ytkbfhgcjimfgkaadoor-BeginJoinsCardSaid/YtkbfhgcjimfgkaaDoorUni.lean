/- Plain facts on UTF-8: runes to bytes and back, by the model's own decoder. No program in sight. -/
import Derived.Lib.ValidLaws
import Derived.Lib.MapLaws
import Derived.Lib.RuneCount
import Derived.Lib.TrimUEq
import GoSem.Conv.StringToRunes
set_option linter.unusedVariables false
set_option linter.unusedSimpArgs false
namespace Go.Proofs.YtkbfhgcjimfgkaaDoor.Uni
open Go.Lib

/-- a rune that may stand in a text -/
def vr (r : Nat) : Prop := r < 55296 ∨ (57344 ≤ r ∧ r ≤ 1114111)
instance (r : Nat) : Decidable (vr r) := by unfold vr; infer_instance
/-- its bytes -/
def encR (r : Nat) : List UInt8 := (Utf8.encode (r : Int)).data.toList
def encL (rs : List Nat) : List UInt8 := rs.flatMap encR
def enc (rs : List Nat) : ByteArray := ⟨(encL rs).toArray⟩
def decAll : Nat → List UInt8 → List Nat
  | 0, _ => []
  | f + 1, l => if l = [] then [] else (decodeL l).1 :: decAll f (l.drop (decodeL l).2)
/-- the runes of bytes -/
def dec (l : List UInt8) : List Nat := decAll l.length l

theorem valid_vr (r : Nat) (h : vr r) : Utf8.valid (r : Int) = true := by
  unfold vr at h
  simp only [Utf8.valid, Bool.or_eq_true, Bool.and_eq_true, decide_eq_true_eq]
  omega
theorem vr_of (r : Nat) (h : Utf8.valid (r : Int) = true) : vr r := by
  unfold vr
  simp only [Utf8.valid, Bool.or_eq_true, Bool.and_eq_true, decide_eq_true_eq] at h
  omega

set_option maxRecDepth 100000 in
theorem encR_cases (r : Nat) (h : vr r) :
    (r < 128 ∧ encR r = [UInt8.ofNat r]) ∨
    (128 ≤ r ∧ r < 2048 ∧ encR r = [UInt8.ofNat (192 + r / 64), UInt8.ofNat (128 + r % 64)]) ∨
    (2048 ≤ r ∧ r < 65536 ∧ encR r = [UInt8.ofNat (224 + r / 4096), UInt8.ofNat (128 + r / 64 % 64), UInt8.ofNat (128 + r % 64)]) ∨
    (65536 ≤ r ∧ encR r = [UInt8.ofNat (240 + r / 262144), UInt8.ofNat (128 + r / 4096 % 64), UInt8.ofNat (128 + r / 64 % 64), UInt8.ofNat (128 + r % 64)]) := by
  have hv := valid_vr r h
  unfold encR Utf8.encode
  rw [hv]
  simp only [if_true, Int.toNat_natCast]
  by_cases h1 : r < 128
  · left; refine ⟨h1, ?_⟩; rw [if_pos h1]
  · by_cases h2 : r < 2048
    · right; left; refine ⟨by omega, h2, ?_⟩; rw [if_neg h1, if_pos h2]
    · by_cases h3 : r < 65536
      · right; right; left; refine ⟨by omega, h3, ?_⟩; rw [if_neg h1, if_neg h2, if_pos h3]
      · right; right; right; refine ⟨by omega, ?_⟩; rw [if_neg h1, if_neg h2, if_neg h3]

theorem ofNat_lt (n : Nat) (h : n < 256) : (UInt8.ofNat n).toNat = n := by rw [UInt8.toNat_ofNat']; exact Nat.mod_eq_of_lt h

theorem dec_enc (r : Nat) (h : vr r) (t : List UInt8) : decodeL (encR r ++ t) = (r, (encR r).length) := by
  have hv : r < 55296 ∨ (57344 ≤ r ∧ r ≤ 1114111) := h
  rw [decodeL_N]
  rcases encR_cases r h with ⟨h1, e⟩ | ⟨h1, h2, e⟩ | ⟨h1, h2, e⟩ | ⟨h1, e⟩
  · rw [e]
    simp only [List.cons_append, List.nil_append, List.getD_cons_zero, List.getD_cons_succ, List.length_cons, List.length_nil]
    rw [ofNat_lt _ (by omega)]
    unfold decodeN
    rw [if_pos h1]
  · rw [e]
    simp only [List.cons_append, List.nil_append, List.getD_cons_zero, List.getD_cons_succ, List.length_cons, List.length_nil]
    rw [ofNat_lt (192 + r / 64) (by omega), ofNat_lt (128 + r % 64) (by omega)]
    unfold decodeN
    rw [if_neg (by omega), if_pos (by omega), if_pos (by omega)]
    exact Prod.ext (by show _ = r; omega) rfl
  · rw [e]
    simp only [List.cons_append, List.nil_append, List.getD_cons_zero, List.getD_cons_succ, List.length_cons, List.length_nil]
    rw [ofNat_lt (224 + r / 4096) (by omega), ofNat_lt (128 + r / 64 % 64) (by omega), ofNat_lt (128 + r % 64) (by omega)]
    unfold decodeN
    have e3 : (224 + r / 4096) % 16 * 4096 + (128 + r / 64 % 64) % 64 * 64 + (128 + r % 64) % 64 = r := by omega
    rw [if_neg (by omega), if_neg (by omega), if_pos (by omega), e3, if_pos (by omega)]
  · rw [e]
    simp only [List.cons_append, List.nil_append, List.getD_cons_zero, List.getD_cons_succ, List.length_cons, List.length_nil]
    rw [ofNat_lt (240 + r / 262144) (by omega), ofNat_lt (128 + r / 4096 % 64) (by omega), ofNat_lt (128 + r / 64 % 64) (by omega), ofNat_lt (128 + r % 64) (by omega)]
    unfold decodeN
    have e3 : (240 + r / 262144) % 8 * 262144 + (128 + r / 4096 % 64) % 64 * 4096 + (128 + r / 64 % 64) % 64 * 64 + (128 + r % 64) % 64 = r := by omega
    rw [if_neg (by omega), if_neg (by omega), if_neg (by omega), if_pos (by omega), e3, if_pos (by omega)]

theorem encR_len (r : Nat) (h : vr r) : 1 ≤ (encR r).length ∧ (encR r).length ≤ 4 := by
  rcases encR_cases r h with ⟨_, e⟩ | ⟨_, _, e⟩ | ⟨_, _, e⟩ | ⟨_, e⟩ <;> rw [e] <;> simp
theorem encR_bad (r : Nat) (h : vr r) : ¬ (r = 65533 ∧ (encR r).length = 1) := by
  rintro ⟨rfl, h1⟩
  rcases encR_cases 65533 h with ⟨h2, _⟩ | ⟨_, h2, _⟩ | ⟨_, _, e⟩ | ⟨h2, _⟩
  · omega
  · omega
  · rw [e] at h1; simp at h1
  · omega
theorem encL_nil : encL [] = [] := rfl
theorem encL_cons (r : Nat) (rs : List Nat) : encL (r :: rs) = encR r ++ encL rs := by simp [encL]
theorem encL_append (a b : List Nat) : encL (a ++ b) = encL a ++ encL b := by simp [encL]

theorem validD_enc (rs : List Nat) (h : ∀ r ∈ rs, vr r) (t : List UInt8) : validD (encL rs ++ t) = validD t := by
  induction rs with
  | nil => rfl
  | cons r rs ih =>
    have hr := h r (by simp)
    have hl := encR_len r hr
    rw [encL_cons, List.append_assoc, validD_step _ (by intro e; have h9 := congrArg List.length e; rw [List.length_append, List.length_nil] at h9; omega), dec_enc r hr, if_neg (encR_bad r hr)]
    simp only [List.drop_left]
    exact ih fun x hx => h x (by simp [hx])

theorem decAll_fuel : ∀ (n m : Nat) (l : List UInt8), l.length ≤ n → l.length ≤ m → decAll n l = decAll m l
  | 0, m, l, hn, _ => by
    obtain rfl : l = [] := List.eq_nil_of_length_eq_zero (by omega)
    cases m <;> simp [decAll]
  | n + 1, 0, l, _, hm => by
    obtain rfl : l = [] := List.eq_nil_of_length_eq_zero (by omega)
    simp [decAll]
  | n + 1, m + 1, l, hn, hm => by
    unfold decAll
    by_cases hne : l = []
    · simp [hne]
    · have hw := decodeL_width l
      have hl : 0 < l.length := List.length_pos_iff.2 hne
      rw [if_neg hne, if_neg hne, decAll_fuel n m (l.drop (decodeL l).2) (by rw [List.length_drop]; omega) (by rw [List.length_drop]; omega)]
theorem dec_step (l : List UInt8) (hne : l ≠ []) : dec l = (decodeL l).1 :: dec (l.drop (decodeL l).2) := by
  have hl : 0 < l.length := List.length_pos_iff.2 hne
  have hw := decodeL_width l
  obtain ⟨n, hn⟩ : ∃ n, l.length = n + 1 := ⟨l.length - 1, by omega⟩
  unfold dec
  rw [hn]
  show (if l = [] then [] else _) = _
  rw [if_neg hne, decAll_fuel n (l.drop (decodeL l).2).length _ (by rw [List.length_drop]; omega) (Nat.le_refl _)]
theorem dec_encL (rs : List Nat) (h : ∀ r ∈ rs, vr r) (t : List UInt8) : dec (encL rs ++ t) = rs ++ dec t := by
  induction rs with
  | nil => rfl
  | cons r rs ih =>
    have hr := h r (by simp)
    have hl := encR_len r hr
    rw [encL_cons, List.append_assoc, dec_step _ (by intro e; have h9 := congrArg List.length e; rw [List.length_append, List.length_nil] at h9; omega), dec_enc r hr]
    simp only [List.drop_left, List.cons_append]
    rw [ih fun x hx => h x (by simp [hx])]
theorem dec_nil : dec [] = [] := rfl
theorem dec_enc_all (rs : List Nat) (h : ∀ r ∈ rs, vr r) : dec (encL rs) = rs := by
  have := dec_encL rs h []
  simpa [dec_nil] using this
theorem valid_encL (rs : List Nat) (h : ∀ r ∈ rs, vr r) : validD (encL rs) = true := by
  have := validD_enc rs h []
  simpa [validD_nil] using this

theorem decode_vr (l : List UInt8) (hv : ¬ ((decodeL l).1 = 65533 ∧ (decodeL l).2 = 1)) : vr (decodeL l).1 := by
  rw [decodeL_N] at hv
  rw [decodeL_N]
  have h0 := (l.getD 0 0).toNat_lt
  have h1 := (l.getD 1 0).toNat_lt
  have h2 := (l.getD 2 0).toNat_lt
  have h3 := (l.getD 3 0).toNat_lt
  generalize (l.getD 0 0).toNat = b0 at *
  generalize (l.getD 1 0).toNat = b1 at *
  generalize (l.getD 2 0).toNat = b2 at *
  generalize (l.getD 3 0).toNat = b3 at *
  unfold decodeN at hv ⊢
  unfold vr
  repeat' split
  all_goals (first | (simp only; omega) | (exfalso; revert hv; simp; done))
set_option maxRecDepth 100000 in
theorem encode_same (r : Nat) (h : vr r) : encodeRune (r : Int) = encR r := by
  have hv : r < 55296 ∨ (57344 ≤ r ∧ r ≤ 1114111) := h
  have e (n : Nat) : (Int.toNat ((n : Nat) : Int)).toUInt8 = UInt8.ofNat n := rfl
  unfold encodeRune encodeRuneZ
  rcases encR_cases r h with ⟨h1, e1⟩ | ⟨h1, h2, e1⟩ | ⟨h1, h2, e1⟩ | ⟨h1, e1⟩
  · rw [if_pos (by omega), e1]; rfl
  · rw [if_neg (by omega), if_pos (by omega), e1]
    rw [show (192 + (r : Int) / 64) = ((192 + r / 64 : Nat) : Int) from by simp only [Int.natCast_add, Int.natCast_ediv, Int.natCast_emod]; rfl, show (128 + (r : Int) % 64) = ((128 + r % 64 : Nat) : Int) from by simp only [Int.natCast_add, Int.natCast_ediv, Int.natCast_emod]; rfl]
    rfl
  · rw [if_neg (by omega), if_neg (by omega), if_pos (by omega), e1]
    rw [show (224 + (r : Int) / 4096) = ((224 + r / 4096 : Nat) : Int) from by simp only [Int.natCast_add, Int.natCast_ediv, Int.natCast_emod]; rfl, show (128 + (r : Int) / 64 % 64) = ((128 + r / 64 % 64 : Nat) : Int) from by simp only [Int.natCast_add, Int.natCast_ediv, Int.natCast_emod]; rfl, show (128 + (r : Int) % 64) = ((128 + r % 64 : Nat) : Int) from by simp only [Int.natCast_add, Int.natCast_ediv, Int.natCast_emod]; rfl]
    rfl
  · rw [if_neg (by omega), if_neg (by omega), if_neg (by omega), if_pos (by omega), e1]
    rw [show (240 + (r : Int) / 262144) = ((240 + r / 262144 : Nat) : Int) from by simp only [Int.natCast_add, Int.natCast_ediv, Int.natCast_emod]; rfl, show (128 + (r : Int) / 4096 % 64) = ((128 + r / 4096 % 64 : Nat) : Int) from by simp only [Int.natCast_add, Int.natCast_ediv, Int.natCast_emod]; rfl, show (128 + (r : Int) / 64 % 64) = ((128 + r / 64 % 64 : Nat) : Int) from by simp only [Int.natCast_add, Int.natCast_ediv, Int.natCast_emod]; rfl, show (128 + (r : Int) % 64) = ((128 + r % 64 : Nat) : Int) from by simp only [Int.natCast_add, Int.natCast_ediv, Int.natCast_emod]; rfl]
    rfl
theorem enc_dec (n : Nat) : ∀ (l : List UInt8), l.length ≤ n → validD l = true → encL (dec l) = l ∧ ∀ r ∈ dec l, vr r := by
  induction n with
  | zero =>
    intro l hl _
    obtain rfl : l = [] := List.eq_nil_of_length_eq_zero (by omega)
    exact ⟨rfl, by simp [dec_nil]⟩
  | succ n ih =>
    intro l hl hv
    by_cases hne : l = []
    · subst hne; exact ⟨rfl, by simp [dec_nil]⟩
    · have hw := decodeL_width l
      have hp : 0 < l.length := List.length_pos_iff.2 hne
      rw [validD_step l hne] at hv
      by_cases hb : (decodeL l).1 = 65533 ∧ (decodeL l).2 = 1
      · rw [if_pos hb] at hv; cases hv
      · rw [if_neg hb] at hv
        obtain ⟨h1, h2⟩ := ih (l.drop (decodeL l).2) (by rw [List.length_drop]; omega) hv
        rw [dec_step l hne, encL_cons, h1, ← encode_same _ (decode_vr l hb), encode_decode l hne hb]
        refine ⟨List.take_append_drop _ _, fun r hr => ?_⟩
        rcases List.mem_cons.1 hr with rfl | hr
        · exact decode_vr l hb
        · exact h2 r hr
theorem enc_dec_all (l : List UInt8) (h : validD l = true) : encL (dec l) = l ∧ ∀ r ∈ dec l, vr r := enc_dec l.length l (Nat.le_refl _) h

theorem count_from (s : ByteArray) : ∀ (f pos : Nat), runeCountFrom s f pos = (decAll f (s.data.toList.drop pos)).length
  | 0, _ => rfl
  | f + 1, pos => by
    unfold runeCountFrom decAll
    by_cases h : pos < s.size
    · have hne : s.data.toList.drop pos ≠ [] := by
        intro e; have := congrArg List.length e; rw [List.length_drop] at this; simp at this
        have : s.size = s.data.size := rfl
        omega
      rw [if_pos h, if_neg hne, decodeL_drop, count_from s f, List.drop_drop, List.length_cons]
      omega
    · have he : s.data.toList.drop pos = [] := List.drop_eq_nil_of_le (by have : s.size = s.data.size := rfl; simp; omega)
      rw [if_neg h, if_pos he]; rfl
theorem count_dec (s : ByteArray) : runeCount s = (dec s.data.toList).length := by
  unfold runeCount dec
  rw [count_from, List.drop_zero]
  rfl
theorem runesFrom_dec (s : ByteArray) : ∀ (f pos : Nat) (acc : Array Value), Conv.runesFrom s f pos acc = acc ++ ((decAll f (s.data.toList.drop pos)).map fun r : Nat => Value.int .i32 ((r : Nat) : Int)).toArray
  | 0, _, acc => by simp [Conv.runesFrom, decAll]
  | f + 1, pos, acc => by
    unfold Conv.runesFrom decAll
    by_cases h : pos < s.size
    · have hne : s.data.toList.drop pos ≠ [] := by
        intro e; have := congrArg List.length e; rw [List.length_drop] at this; simp at this
        have : s.size = s.data.size := rfl
        omega
      rw [if_pos h, if_neg hne, decodeL_drop]
      simp only
      rw [runesFrom_dec s f, List.drop_drop]
      simp
    · have he : s.data.toList.drop pos = [] := List.drop_eq_nil_of_le (by have : s.size = s.data.size := rfl; simp; omega)
      rw [if_neg h, if_pos he]; simp
end Go.Proofs.YtkbfhgcjimfgkaaDoor.Uni
