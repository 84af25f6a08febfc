/- Plain: an operation that is made of raw things is one that may be. No program in sight. -/
import Derived.Lib.ValidLaws
import Derived.Lib.MapLaws
import Derived.Lib.RuneCount
import Derived.Lib.TrimUEq
import GoSem.Conv.StringToRunes
import Derived.Test.YtkbfhgcjimfgkaaDoorRows
import Derived.Test.YtkbfhgcjimfgkaaDoorPartA0
import Derived.Lib.Hide
import Derived.Test.YtkbfhgcjimfgkaaDoorPartA2
import Derived.BigQuiet
import Derived.Deep.QuietTactic
import Derived.Deep.RegionHeld3
import Derived.Deep.AppendLies
import Derived.Deep.RegionLaw
import Derived.BigRegion
import Derived.Deep.DeepFit
set_option linter.unusedVariables false
set_option linter.unusedSimpArgs false
namespace Go.Proofs.YtkbfhgcjimfgkaaDoor.Uni
open Go.Lib
/-- a rune that may stand in a text -/
def vr (r : Nat) : Prop := r < 55296 ∨ (57344 ≤ r ∧ r ≤ 1114111)
instance (r : Nat) : Decidable (vr r) := by unfold vr; infer_instance
/-- its bytes -/
def encR (r : Nat) : List UInt8 := (Utf8.encode (r : Int)).data.toList
def encL (rs : List Nat) : List UInt8 := rs.flatMap encR
def enc (rs : List Nat) : ByteArray := ⟨(encL rs).toArray⟩
def decAll : Nat → List UInt8 → List Nat
  | 0, _ => []
  | f + 1, l => if l = [] then [] else (decodeL l).1 :: decAll f (l.drop (decodeL l).2)
/-- the runes of bytes -/
def dec (l : List UInt8) : List Nat := decAll l.length l
theorem valid_vr (r : Nat) (h : vr r) : Utf8.valid (r : Int) = true := by
  unfold vr at h
  simp only [Utf8.valid, Bool.or_eq_true, Bool.and_eq_true, decide_eq_true_eq]
  omega
set_option maxRecDepth 100000 in
theorem encR_cases (r : Nat) (h : vr r) :
    (r < 128 ∧ encR r = [UInt8.ofNat r]) ∨
    (128 ≤ r ∧ r < 2048 ∧ encR r = [UInt8.ofNat (192 + r / 64), UInt8.ofNat (128 + r % 64)]) ∨
    (2048 ≤ r ∧ r < 65536 ∧ encR r = [UInt8.ofNat (224 + r / 4096), UInt8.ofNat (128 + r / 64 % 64), UInt8.ofNat (128 + r % 64)]) ∨
    (65536 ≤ r ∧ encR r = [UInt8.ofNat (240 + r / 262144), UInt8.ofNat (128 + r / 4096 % 64), UInt8.ofNat (128 + r / 64 % 64), UInt8.ofNat (128 + r % 64)]) := by
  have hv := valid_vr r h
  unfold encR Utf8.encode
  rw [hv]
  simp only [if_true, Int.toNat_natCast]
  by_cases h1 : r < 128
  · left; refine ⟨h1, ?_⟩; rw [if_pos h1]
  · by_cases h2 : r < 2048
    · right; left; refine ⟨by omega, h2, ?_⟩; rw [if_neg h1, if_pos h2]
    · by_cases h3 : r < 65536
      · right; right; left; refine ⟨by omega, h3, ?_⟩; rw [if_neg h1, if_neg h2, if_pos h3]
      · right; right; right; refine ⟨by omega, ?_⟩; rw [if_neg h1, if_neg h2, if_neg h3]
theorem ofNat_lt (n : Nat) (h : n < 256) : (UInt8.ofNat n).toNat = n := by rw [UInt8.toNat_ofNat']; exact Nat.mod_eq_of_lt h
theorem dec_enc (r : Nat) (h : vr r) (t : List UInt8) : decodeL (encR r ++ t) = (r, (encR r).length) := by
  have hv : r < 55296 ∨ (57344 ≤ r ∧ r ≤ 1114111) := h
  rw [decodeL_N]
  rcases encR_cases r h with ⟨h1, e⟩ | ⟨h1, h2, e⟩ | ⟨h1, h2, e⟩ | ⟨h1, e⟩
  · rw [e]
    simp only [List.cons_append, List.nil_append, List.getD_cons_zero, List.getD_cons_succ, List.length_cons, List.length_nil]
    rw [ofNat_lt _ (by omega)]
    unfold decodeN
    rw [if_pos h1]
  · rw [e]
    simp only [List.cons_append, List.nil_append, List.getD_cons_zero, List.getD_cons_succ, List.length_cons, List.length_nil]
    rw [ofNat_lt (192 + r / 64) (by omega), ofNat_lt (128 + r % 64) (by omega)]
    unfold decodeN
    rw [if_neg (by omega), if_pos (by omega), if_pos (by omega)]
    exact Prod.ext (by show _ = r; omega) rfl
  · rw [e]
    simp only [List.cons_append, List.nil_append, List.getD_cons_zero, List.getD_cons_succ, List.length_cons, List.length_nil]
    rw [ofNat_lt (224 + r / 4096) (by omega), ofNat_lt (128 + r / 64 % 64) (by omega), ofNat_lt (128 + r % 64) (by omega)]
    unfold decodeN
    have e3 : (224 + r / 4096) % 16 * 4096 + (128 + r / 64 % 64) % 64 * 64 + (128 + r % 64) % 64 = r := by omega
    rw [if_neg (by omega), if_neg (by omega), if_pos (by omega), e3, if_pos (by omega)]
  · rw [e]
    simp only [List.cons_append, List.nil_append, List.getD_cons_zero, List.getD_cons_succ, List.length_cons, List.length_nil]
    rw [ofNat_lt (240 + r / 262144) (by omega), ofNat_lt (128 + r / 4096 % 64) (by omega), ofNat_lt (128 + r / 64 % 64) (by omega), ofNat_lt (128 + r % 64) (by omega)]
    unfold decodeN
    have e3 : (240 + r / 262144) % 8 * 262144 + (128 + r / 4096 % 64) % 64 * 4096 + (128 + r / 64 % 64) % 64 * 64 + (128 + r % 64) % 64 = r := by omega
    rw [if_neg (by omega), if_neg (by omega), if_neg (by omega), if_pos (by omega), e3, if_pos (by omega)]
theorem encR_len (r : Nat) (h : vr r) : 1 ≤ (encR r).length ∧ (encR r).length ≤ 4 := by
  rcases encR_cases r h with ⟨_, e⟩ | ⟨_, _, e⟩ | ⟨_, _, e⟩ | ⟨_, e⟩ <;> rw [e] <;> simp
theorem encR_bad (r : Nat) (h : vr r) : ¬ (r = 65533 ∧ (encR r).length = 1) := by
  rintro ⟨rfl, h1⟩
  rcases encR_cases 65533 h with ⟨h2, _⟩ | ⟨_, h2, _⟩ | ⟨_, _, e⟩ | ⟨h2, _⟩
  · omega
  · omega
  · rw [e] at h1; simp at h1
  · omega
theorem encL_cons (r : Nat) (rs : List Nat) : encL (r :: rs) = encR r ++ encL rs := by simp [encL]
theorem encL_append (a b : List Nat) : encL (a ++ b) = encL a ++ encL b := by simp [encL]
theorem validD_enc (rs : List Nat) (h : ∀ r ∈ rs, vr r) (t : List UInt8) : validD (encL rs ++ t) = validD t := by
  induction rs with
  | nil => rfl
  | cons r rs ih =>
    have hr := h r (by simp)
    have hl := encR_len r hr
    rw [encL_cons, List.append_assoc, validD_step _ (by intro e; have h9 := congrArg List.length e; rw [List.length_append, List.length_nil] at h9; omega), dec_enc r hr, if_neg (encR_bad r hr)]
    simp only [List.drop_left]
    exact ih fun x hx => h x (by simp [hx])
theorem decAll_fuel : ∀ (n m : Nat) (l : List UInt8), l.length ≤ n → l.length ≤ m → decAll n l = decAll m l
  | 0, m, l, hn, _ => by
    obtain rfl : l = [] := List.eq_nil_of_length_eq_zero (by omega)
    cases m <;> simp [decAll]
  | n + 1, 0, l, _, hm => by
    obtain rfl : l = [] := List.eq_nil_of_length_eq_zero (by omega)
    simp [decAll]
  | n + 1, m + 1, l, hn, hm => by
    unfold decAll
    by_cases hne : l = []
    · simp [hne]
    · have hw := decodeL_width l
      have hl : 0 < l.length := List.length_pos_iff.2 hne
      rw [if_neg hne, if_neg hne, decAll_fuel n m (l.drop (decodeL l).2) (by rw [List.length_drop]; omega) (by rw [List.length_drop]; omega)]
theorem dec_step (l : List UInt8) (hne : l ≠ []) : dec l = (decodeL l).1 :: dec (l.drop (decodeL l).2) := by
  have hl : 0 < l.length := List.length_pos_iff.2 hne
  have hw := decodeL_width l
  obtain ⟨n, hn⟩ : ∃ n, l.length = n + 1 := ⟨l.length - 1, by omega⟩
  unfold dec
  rw [hn]
  show (if l = [] then [] else _) = _
  rw [if_neg hne, decAll_fuel n (l.drop (decodeL l).2).length _ (by rw [List.length_drop]; omega) (Nat.le_refl _)]
theorem dec_encL (rs : List Nat) (h : ∀ r ∈ rs, vr r) (t : List UInt8) : dec (encL rs ++ t) = rs ++ dec t := by
  induction rs with
  | nil => rfl
  | cons r rs ih =>
    have hr := h r (by simp)
    have hl := encR_len r hr
    rw [encL_cons, List.append_assoc, dec_step _ (by intro e; have h9 := congrArg List.length e; rw [List.length_append, List.length_nil] at h9; omega), dec_enc r hr]
    simp only [List.drop_left, List.cons_append]
    rw [ih fun x hx => h x (by simp [hx])]
theorem dec_nil : dec [] = [] := rfl
theorem dec_enc_all (rs : List Nat) (h : ∀ r ∈ rs, vr r) : dec (encL rs) = rs := by
  have := dec_encL rs h []
  simpa [dec_nil] using this
theorem valid_encL (rs : List Nat) (h : ∀ r ∈ rs, vr r) : validD (encL rs) = true := by
  have := validD_enc rs h []
  simpa [validD_nil] using this
theorem decode_vr (l : List UInt8) (hv : ¬ ((decodeL l).1 = 65533 ∧ (decodeL l).2 = 1)) : vr (decodeL l).1 := by
  rw [decodeL_N] at hv
  rw [decodeL_N]
  have h0 := (l.getD 0 0).toNat_lt
  have h1 := (l.getD 1 0).toNat_lt
  have h2 := (l.getD 2 0).toNat_lt
  have h3 := (l.getD 3 0).toNat_lt
  generalize (l.getD 0 0).toNat = b0 at *
  generalize (l.getD 1 0).toNat = b1 at *
  generalize (l.getD 2 0).toNat = b2 at *
  generalize (l.getD 3 0).toNat = b3 at *
  unfold decodeN at hv ⊢
  unfold vr
  repeat' split
  all_goals (first | (simp only; omega) | (exfalso; revert hv; simp; done))
set_option maxRecDepth 100000 in
theorem encode_same (r : Nat) (h : vr r) : encodeRune (r : Int) = encR r := by
  have hv : r < 55296 ∨ (57344 ≤ r ∧ r ≤ 1114111) := h
  have e (n : Nat) : (Int.toNat ((n : Nat) : Int)).toUInt8 = UInt8.ofNat n := rfl
  unfold encodeRune encodeRuneZ
  rcases encR_cases r h with ⟨h1, e1⟩ | ⟨h1, h2, e1⟩ | ⟨h1, h2, e1⟩ | ⟨h1, e1⟩
  · rw [if_pos (by omega), e1]; rfl
  · rw [if_neg (by omega), if_pos (by omega), e1]
    rw [show (192 + (r : Int) / 64) = ((192 + r / 64 : Nat) : Int) from by simp only [Int.natCast_add, Int.natCast_ediv, Int.natCast_emod]; rfl, show (128 + (r : Int) % 64) = ((128 + r % 64 : Nat) : Int) from by simp only [Int.natCast_add, Int.natCast_ediv, Int.natCast_emod]; rfl]
    rfl
  · rw [if_neg (by omega), if_neg (by omega), if_pos (by omega), e1]
    rw [show (224 + (r : Int) / 4096) = ((224 + r / 4096 : Nat) : Int) from by simp only [Int.natCast_add, Int.natCast_ediv, Int.natCast_emod]; rfl, show (128 + (r : Int) / 64 % 64) = ((128 + r / 64 % 64 : Nat) : Int) from by simp only [Int.natCast_add, Int.natCast_ediv, Int.natCast_emod]; rfl, show (128 + (r : Int) % 64) = ((128 + r % 64 : Nat) : Int) from by simp only [Int.natCast_add, Int.natCast_ediv, Int.natCast_emod]; rfl]
    rfl
  · rw [if_neg (by omega), if_neg (by omega), if_neg (by omega), if_pos (by omega), e1]
    rw [show (240 + (r : Int) / 262144) = ((240 + r / 262144 : Nat) : Int) from by simp only [Int.natCast_add, Int.natCast_ediv, Int.natCast_emod]; rfl, show (128 + (r : Int) / 4096 % 64) = ((128 + r / 4096 % 64 : Nat) : Int) from by simp only [Int.natCast_add, Int.natCast_ediv, Int.natCast_emod]; rfl, show (128 + (r : Int) / 64 % 64) = ((128 + r / 64 % 64 : Nat) : Int) from by simp only [Int.natCast_add, Int.natCast_ediv, Int.natCast_emod]; rfl, show (128 + (r : Int) % 64) = ((128 + r % 64 : Nat) : Int) from by simp only [Int.natCast_add, Int.natCast_ediv, Int.natCast_emod]; rfl]
    rfl
theorem enc_dec (n : Nat) : ∀ (l : List UInt8), l.length ≤ n → validD l = true → encL (dec l) = l ∧ ∀ r ∈ dec l, vr r := by
  induction n with
  | zero =>
    intro l hl _
    obtain rfl : l = [] := List.eq_nil_of_length_eq_zero (by omega)
    exact ⟨rfl, by simp [dec_nil]⟩
  | succ n ih =>
    intro l hl hv
    by_cases hne : l = []
    · subst hne; exact ⟨rfl, by simp [dec_nil]⟩
    · have hw := decodeL_width l
      have hp : 0 < l.length := List.length_pos_iff.2 hne
      rw [validD_step l hne] at hv
      by_cases hb : (decodeL l).1 = 65533 ∧ (decodeL l).2 = 1
      · rw [if_pos hb] at hv; cases hv
      · rw [if_neg hb] at hv
        obtain ⟨h1, h2⟩ := ih (l.drop (decodeL l).2) (by rw [List.length_drop]; omega) hv
        rw [dec_step l hne, encL_cons, h1, ← encode_same _ (decode_vr l hb), encode_decode l hne hb]
        refine ⟨List.take_append_drop _ _, fun r hr => ?_⟩
        rcases List.mem_cons.1 hr with rfl | hr
        · exact decode_vr l hb
        · exact h2 r hr
theorem enc_dec_all (l : List UInt8) (h : validD l = true) : encL (dec l) = l ∧ ∀ r ∈ dec l, vr r := enc_dec l.length l (Nat.le_refl _) h
theorem count_from (s : ByteArray) : ∀ (f pos : Nat), runeCountFrom s f pos = (decAll f (s.data.toList.drop pos)).length
  | 0, _ => rfl
  | f + 1, pos => by
    unfold runeCountFrom decAll
    by_cases h : pos < s.size
    · have hne : s.data.toList.drop pos ≠ [] := by
        intro e; have := congrArg List.length e; rw [List.length_drop] at this; simp at this
        have : s.size = s.data.size := rfl
        omega
      rw [if_pos h, if_neg hne, decodeL_drop, count_from s f, List.drop_drop, List.length_cons]
      omega
    · have he : s.data.toList.drop pos = [] := List.drop_eq_nil_of_le (by have : s.size = s.data.size := rfl; simp; omega)
      rw [if_neg h, if_pos he]; rfl
theorem count_dec (s : ByteArray) : runeCount s = (dec s.data.toList).length := by
  unfold runeCount dec
  rw [count_from, List.drop_zero]
  rfl
theorem runesFrom_dec (s : ByteArray) : ∀ (f pos : Nat) (acc : Array Value), Conv.runesFrom s f pos acc = acc ++ ((decAll f (s.data.toList.drop pos)).map fun r : Nat => Value.int .i32 ((r : Nat) : Int)).toArray
  | 0, _, acc => by simp [Conv.runesFrom, decAll]
  | f + 1, pos, acc => by
    unfold Conv.runesFrom decAll
    by_cases h : pos < s.size
    · have hne : s.data.toList.drop pos ≠ [] := by
        intro e; have := congrArg List.length e; rw [List.length_drop] at this; simp at this
        have : s.size = s.data.size := rfl
        omega
      rw [if_pos h, if_neg hne, decodeL_drop]
      simp only
      rw [runesFrom_dec s f, List.drop_drop]
      simp
    · have he : s.data.toList.drop pos = [] := List.drop_eq_nil_of_le (by have : s.size = s.data.size := rfl; simp; omega)
      rw [if_neg h, if_pos he]; simp
end Go.Proofs.YtkbfhgcjimfgkaaDoor.Uni
namespace Go.Proofs.YtkbfhgcjimfgkaaDoor
open Go.RowKit
def pk (n m : Int) : Int := if n < 0 then (-(n + 1)) % m else n % m
theorem pk_range (n m : Int) (hm : 1 ≤ m) : 0 ≤ pk n m ∧ pk n m < m := by
  unfold pk
  split
  · exact ⟨Int.emod_nonneg _ (by omega), Int.emod_lt_of_pos _ (by omega)⟩
  · exact ⟨Int.emod_nonneg _ (by omega), Int.emod_lt_of_pos _ (by omega)⟩
set_option maxHeartbeats 400000 in
theorem picked_any (n m : Int) (w : World) (hn : I64 n) (hm : 1 ≤ m) (hm' : m ≤ 9223372036854775807) :
    Calls Tryd.prog 11 #[.int .i64 n, .int .i64 m] w fun e w' => e = .returned (.int .i64 (pk n m)) ∧ w = w' := by
  unfold I64 at hn
  by_cases h : n < 0
  · have h1 : 0 ≤ -(n+1) := by omega
    go_enter Tryd.func11, Tryd.ntmps11
    go_wp2
    go_ret
    refine ⟨?_, rfl⟩
    show Ending.returned (.int .i64 (-((n + 1).tmod m))) = _
    rw [pk, if_pos h, ← Int.neg_tmod, Int.tmod_eq_emod_of_nonneg h1]
  · go_enter Tryd.func11, Tryd.ntmps11
    go_wp2
    go_ret
    exact ⟨by rw [pk, if_neg (by omega)]; rfl, rfl⟩
end Go.Proofs.YtkbfhgcjimfgkaaDoor
namespace Go.Proofs.YtkbfhgcjimfgkaaDoor
open Go.RowKit
theorem rc_enc (rs : List Nat) (h : ∀ r ∈ rs, Uni.vr r) : rc (Uni.enc rs) = rs.length := by
  unfold rc Uni.enc
  rw [Uni.count_dec]
  simp only
  rw [Uni.dec_enc_all rs h]
theorem valid_enc (rs : List Nat) (h : ∀ r ∈ rs, Uni.vr r) : valid (Uni.enc rs) = true := by
  unfold valid Uni.enc
  exact Uni.valid_encL rs h
theorem encL_size (rs : List Nat) (h : ∀ r ∈ rs, Uni.vr r) : (Uni.encL rs).length ≤ rs.length * 4 := by
  induction rs with
  | nil => simp [Uni.encL]
  | cons r rs ih =>
    rw [Uni.encL_cons, List.length_append, List.length_cons]
    have h1 := Uni.encR_len r (h r (by simp))
    have h2 := ih fun x hx => h x (by simp [hx])
    omega
theorem enc_size (rs : List Nat) (h : ∀ r ∈ rs, Uni.vr r) : (Uni.enc rs).size ≤ rs.length * 4 := by
  have := encL_size rs h
  show (Uni.encL rs).toArray.size ≤ _
  simpa using this
set_option maxRecDepth 100000 in
/-- the walk's own word for the bytes of runes -/
theorem runesBytes_enc (rs : List Nat) : runesBytes (rs.map fun r : Nat => (r : Int)) = Uni.enc rs := by
  have key : ∀ (rs : List Nat) (s : ByteArray), (rs.map fun r : Nat => (r : Int)).foldl (fun s n => s ++ Utf8.encode n) s = s ++ Uni.enc rs := by
    intro rs
    induction rs with
    | nil => intro s; apply ByteArray.ext; simp [Uni.enc, Uni.encL]
    | cons r rs ih =>
      intro s
      simp only [List.map_cons, List.foldl_cons]
      rw [ih]
      apply ByteArray.ext
      apply Array.ext'
      simp [Uni.enc, Uni.encL_cons, Uni.encR, ByteArray.data_append]
  unfold runesBytes
  rw [key]
  apply ByteArray.ext
  simp
end Go.Proofs.YtkbfhgcjimfgkaaDoor
namespace Go.Proofs.YtkbfhgcjimfgkaaDoor
open Go.RowKit
def triv (p : Part) : Bool := (decide (p.kind ≠ 2) && decide (p.n = 0)) || (decide (p.kind = 2) && emptyS p.text)
/-- add a part to parts, the last one first -/
def addR : List Part → Part → List Part
  | [], p => if triv p then [] else [p]
  | q :: r, p => if triv p then q :: r else if q.kind = p.kind then ⟨q.kind, q.n + p.n, q.text ++ p.text⟩ :: r else if p.kind = 2 ∧ q.kind = 3 then q :: addR r p else p :: q :: r
/-- numbers and texts that leave room -/
structure Mild (p : Part) : Prop where
  k : 0 ≤ p.kind ∧ p.kind ≤ 1000
  n : 0 ≤ p.n ∧ p.n ≤ 1000000000000
  t : p.text.size ≤ 1000000000000
theorem infoP : (Tryd.prog.info? 53).map (fun i => (i.zero, i.size, i.bytes)) = some (some (.agg #[.int .i64 0, .int .i64 0, .string ByteArray.empty]), 3, 32) := by kernel_rfl
def AddPost (T B b : Nat) (v : Value) (ex : List Value) (r : List Part) (w : World) (e : Ending) (w' : World) : Prop :=
  ∃ v', e = .returned (.tuple #[]) ∧ Bag T B b v' ex r.reverse w' ∧ Touch (Bag.S b v) w w' ∧ (v'.ownBlock = v.ownBlock ∨ ∀ g, v'.ownBlock = some g → w.heap.size ≤ g)
set_option maxHeartbeats 2000000 in
theorem add_triv (B b : Nat) (v : Value) (left : Int) (r : List Part) (p : Part) (w : World) (hm : Mild p) (hl : r.length ≤ 1000000000000) (ht : triv p = true)
    (hbag : Bag 91 B b v [.int .i64 left] r.reverse w) :
    Calls Tryd.prog 32 #[.pointer (some ⟨b, 0, none⟩), .agg #[.int .i64 p.kind, .int .i64 p.n, .string p.text]] w (AddPost 91 B b v [.int .i64 left] (addR r p) w) := by
  have he : addR r p = r := by cases r <;> simp [addR, ht]
  rw [he]
  clear he
  obtain ⟨a, c, hv⟩ := hbag.form
  have hlt := hbag.lt
  have hc0 := hbag.cell 0
  have hc1 := hbag.cell 1
  simp only [List.getElem?_cons_zero, List.getElem?_cons_succ] at hc0 hc1
  obtain ⟨pk, pn, pt⟩ := p
  have hfin : AddPost 91 B b v [.int .i64 left] r w (.returned (.tuple #[])) (w.alloc (.cells #[.int .i64 pk, .int .i64 pn, .string pt] 53)) :=
    ⟨v, rfl, hbag.keep fun k hk => Below.heap_alloc w _ k (by
      rcases hk with rfl | hk
      · exact hlt
      · exact (hbag.rowlt k hk).2), (Touch.refl _ _).alloc _, .inl rfl⟩
  have Hfin := Lib.hid hfin
  rw [hv] at hc0
  clear hfin hbag hv
  simp only [List.length_reverse] at hc0
  simp only [triv] at ht
  by_cases h2 : pk = 2
  · subst h2
    have he : pt.toList.isEmpty = true := by simpa [emptyS] using ht
    clear ht
    go_enter Tryd.func32, Tryd.ntmps32
    go_wp2_with fail
    go_end0
    exact Hfin.out
  · have h3 : (pk != 2) = true := by simpa using h2
    have h4 : (pn == 0) = true := by simpa [h2] using ht
    clear ht h2
    go_enter Tryd.func32, Tryd.ntmps32
    go_wp2_with fail
    go_end0
    exact Hfin.out
theorem add_fin {T B b : Nat} {v : Value} {a : Option Addr} {n c gg cap : Nat} {ex : List Value} {r : List Part} {w W w1 : World} (hbase : B ≤ b) (hv : v = .slice a n c) (hblk : w.heap[b]? = some (.cells (v :: ex).toArray T (0, 0)))
    (hbk1 : w1.heap[b]? = w.heap[b]?) (hown1 : w1.ownsRow B 53 3 (.slice (some ⟨gg, 0, none⟩) r.length cap) r.length (flat r.reverse)) (ht : Touch (Bag.S b v) w W) (hgrow : W.grownBy w1 (Value.slice a n c).ownBlock)
    (hat : (Value.slice a n c).ownBlock = some gg ∨ w.heap.size ≤ gg) (hT : T ≠ 53 := by decide) :
    AddPost T B b v ex r w (.returned (.tuple #[])) (w1.setCell ⟨b, 0, none⟩ (.slice (some ⟨gg, 0, none⟩) r.length cap)) := by
  subst hv
  refine ⟨_, rfl, Bag.put hbase (hbk1.trans hblk) (by simpa using hown1) hT, ?_, ?_⟩
  · exact (ht.grown hgrow (fun k hk => .inl (.inr hk))).setCell (p := ⟨b, 0, none⟩) (.inl (.inl rfl)) _
  · rcases hat with h | h
    · exact .inl h.symm
    · exact .inr fun g hg => by simp [Value.ownBlock] at hg; omega
set_option maxRecDepth 100000 in
set_option maxHeartbeats 2000000 in
theorem add_empty (B b : Nat) (v : Value) (left : Int) (p : Part) (w : World) (hm : Mild p) (ht : triv p = false)
    (hbag : Bag 91 B b v [.int .i64 left] [] w) :
    Calls Tryd.prog 32 #[.pointer (some ⟨b, 0, none⟩), .agg #[.int .i64 p.kind, .int .i64 p.n, .string p.text]] w (AddPost 91 B b v [.int .i64 left] [p] w) := by
  obtain ⟨i0, hi, hz0, hz1, hz2⟩ := info_parts infoP
  obtain ⟨a, c, hv⟩ := hbag.form
  have hlt := hbag.lt
  have hc0 := hbag.cell 0
  have hc1 := hbag.cell 1
  have hf0 := hbag.frozen 0
  simp only [List.getElem?_cons_zero, List.getElem?_cons_succ, List.length_nil] at hc0 hc1 hv
  rw [hv] at hc0
  have hown := hbag.own
  have hbase := hbag.base
  simp only [List.length_nil] at hown
  rw [hv] at hown
  have hrow := hbag.rowlt
  obtain ⟨pk, pn, pt⟩ := p
  simp only [triv] at ht
  have Hbag := Lib.hid hbag
  have Hv := Lib.hid hv
  clear hbag hv
  have hne : b ≠ w.heap.size := by omega
  have Hrow := Lib.hid hrow
  clear hrow
  have Hne : Hid ((Value.slice a 0 c).ownBlock ≠ some b) := by unfold Hid; rw [← Hv.out]; exact Hbag.out.ne
  have Hnw : Hid ((Value.slice a 0 c).ownBlock ≠ some w.heap.size) := by unfold Hid; rw [← Hv.out]; intro e; have := Hrow.out _ e; omega
  by_cases h2 : pk = 2
  · subst h2
    have he : pt.toList.isEmpty = false := by simpa [emptyS] using ht
    clear ht
    go_enter Tryd.func32, Tryd.ntmps32
    go_wp2_with fail
    go_quiet (fail)
    go_wp2_with fail
    go_region_law (((first | (refine step_append_lies _ (by rfl) _ _ _ (by rfl) B 53 i0 _ 3 32 Tryd.underlying42 hi hz0 hz1 hz2 rfl (by omega) (.slice a 0 c) 0 [] (by rfl) ((ownsRow_drewN (hown.alloc _) _).alloc _) ⟨w.heap.size + 1, 0, none⟩ 1 1 [.int .i64 2, .int .i64 pn, .string pt] (by rfl) (by rfl) (news_at (heap_new_at _ _ _ (by simp))) (by simp [Value.oneCell']) (by omega) (by unfold maxLen; omega) (by omega) (by simp; omega) (w.heap.size + 2) (by simp) ?_; intro gg cap w1 hown1 hgrow hat hlt1; have hbk1 : w1.heap[b]? = w.heap[b]? := (hgrow.block b (by simp; omega) (Ne.symm Hne.out)).trans ((Below.heap_alloc _ _ b (by simp; omega)).trans (Below.heap_alloc w _ b hlt)); have hf1 : w1.frozen? ⟨b, 0, none⟩ = false := (World.frozen?_of_block (a := ⟨b, 0, none⟩) hbk1).trans hf0; have hd1 := (cell_keep (o := 0) hbk1).trans hc0))))
    all_goals
      (try go_wp2_with fail)
      go_end0
      exact add_fin hbase Hv.out Hbag.out.blk hbk1 hown1 ((((Touch.refl _ w).alloc _).drewN _).alloc _) hgrow (hat.imp_right (fun h => by omega))
  · have h3 : (pk != 2) = true := by simpa using h2
    have h3' : (pk == 2) = false := by simpa using h2
    have h4 : (pn == 0) = false := by simpa [h2] using ht
    clear ht h2
    go_enter Tryd.func32, Tryd.ntmps32
    go_wp2_with fail
    go_quiet (fail)
    go_wp2_with fail
    go_region_law (((first | (refine step_append_lies _ (by rfl) _ _ _ (by rfl) B 53 i0 _ 3 32 Tryd.underlying42 hi hz0 hz1 hz2 rfl (by omega) (.slice a 0 c) 0 [] (by rfl) ((ownsRow_drewN (hown.alloc _) _).alloc _) ⟨w.heap.size + 1, 0, none⟩ 1 1 [.int .i64 pk, .int .i64 pn, .string pt] (by rfl) (by rfl) (news_at (heap_new_at _ _ _ (by simp))) (by simp [Value.oneCell']) (by omega) (by unfold maxLen; omega) (by omega) (by simp; omega) (w.heap.size + 2) (by simp) ?_; intro gg cap w1 hown1 hgrow hat hlt1; have hbk1 : w1.heap[b]? = w.heap[b]? := (hgrow.block b (by simp; omega) (Ne.symm Hne.out)).trans ((Below.heap_alloc _ _ b (by simp; omega)).trans (Below.heap_alloc w _ b hlt)); have hf1 : w1.frozen? ⟨b, 0, none⟩ = false := (World.frozen?_of_block (a := ⟨b, 0, none⟩) hbk1).trans hf0; have hd1 := (cell_keep (o := 0) hbk1).trans hc0))))
    all_goals
      (try go_wp2_with fail)
      go_end0
      exact add_fin hbase Hv.out Hbag.out.blk hbk1 hown1 ((((Touch.refl _ w).alloc _).drewN _).alloc _) hgrow (hat.imp_right (fun h => by omega))
set_option maxRecDepth 100000 in
set_option maxHeartbeats 2000000 in
theorem add_append (B b : Nat) (v : Value) (left : Int) (q : Part) (r : List Part) (p : Part) (w : World) (hm : Mild p) (hl : r.length ≤ 1000000000000) (ht : triv p = false) (hqp : q.kind ≠ p.kind) (hsw : ¬ (p.kind = 2 ∧ q.kind = 3))
    (hbag : Bag 91 B b v [.int .i64 left] (q :: r).reverse w) :
    Calls Tryd.prog 32 #[.pointer (some ⟨b, 0, none⟩), .agg #[.int .i64 p.kind, .int .i64 p.n, .string p.text]] w (AddPost 91 B b v [.int .i64 left] (p :: q :: r) w) := by
  obtain ⟨i0, hi, hz0, hz1, hz2⟩ := info_parts infoP
  obtain ⟨a, c, hv⟩ := hbag.form
  have hlt := hbag.lt
  have hc0 := hbag.cell 0
  have hc1 := hbag.cell 1
  have hf0 := hbag.frozen 0
  simp only [List.getElem?_cons_zero, List.getElem?_cons_succ, List.length_reverse, List.length_cons] at hc0 hc1 hv
  rw [hv] at hc0
  have hown := hbag.own
  have hbase := hbag.base
  simp only [List.length_reverse, List.length_cons] at hown
  rw [hv] at hown
  have hrow := hbag.rowlt
  obtain ⟨g, rfl, hg, hq0, hq1, hq2⟩ := hbag.last hv
  simp only [Value.ownBlock] at hg
  obtain ⟨pk, pn, pt⟩ := p
  obtain ⟨qk, qn, qt⟩ := q
  simp only at hqp hsw hq0 hq1 hq2
  have hnn : 0 < r.length + 1 := by omega
  have hgs := (hrow g (by rw [hv]; rfl)).2
  have hgne : g ≠ w.heap.size := by omega
  simp only [triv] at ht
  have Hbag := Lib.hid hbag
  have Hv := Lib.hid hv
  clear hbag hv
  have hne : b ≠ w.heap.size := by omega
  have Hrow := Lib.hid hrow
  clear hrow
  have Hne : Hid ((Value.slice (some ⟨g, 0, none⟩) (r.length + 1) c).ownBlock ≠ some b) := by unfold Hid; rw [← Hv.out]; exact Hbag.out.ne
  have Hnw : Hid ((Value.slice (some ⟨g, 0, none⟩) (r.length + 1) c).ownBlock ≠ some w.heap.size) := by unfold Hid; rw [← Hv.out]; intro e; have := Hrow.out _ e; omega
  by_cases h2 : pk = 2
  · subst h2
    have he : pt.toList.isEmpty = false := by simpa [emptyS] using ht
    have hb1 : (qk == 2) = false := by simpa using hqp
    have hb2 : (qk == 3) = false := by simpa using hsw
    clear ht hqp hsw
    go_enter Tryd.func32, Tryd.ntmps32
    go_wp2_with fail
    go_quiet (fail)
    go_wp2_with fail
    go_region_law (((first | (refine step_append_lies _ (by rfl) _ _ _ (by rfl) B 53 i0 _ 3 32 Tryd.underlying42 hi hz0 hz1 hz2 rfl (by omega) (.slice (some ⟨g, 0, none⟩) (r.length + 1) c) (r.length + 1) (flat ((⟨qk, qn, qt⟩ : Part) :: r).reverse) (by rfl) ((ownsRow_drewN (hown.alloc _) _).alloc _) ⟨w.heap.size + 1, 0, none⟩ 1 1 [.int .i64 2, .int .i64 pn, .string pt] (by rfl) (by rfl) (news_at (heap_new_at _ _ _ (by simp))) (by simp [Value.oneCell']) (by omega) (by unfold maxLen; omega) (by omega) (by simp; omega) (w.heap.size + 2) (by simp) ?_; intro gg cap w1 hown1 hgrow hat hlt1; have hbk1 : w1.heap[b]? = w.heap[b]? := (hgrow.block b (by simp; omega) (Ne.symm Hne.out)).trans ((Below.heap_alloc _ _ b (by simp; omega)).trans (Below.heap_alloc w _ b hlt)); have hf1 : w1.frozen? ⟨b, 0, none⟩ = false := (World.frozen?_of_block (a := ⟨b, 0, none⟩) hbk1).trans hf0; have hd1 := (cell_keep (o := 0) hbk1).trans hc0))))
    all_goals
      (try go_wp2_with fail)
      go_end0
      exact add_fin hbase Hv.out Hbag.out.blk hbk1 (by rw [flat_snoc]; exact hown1) ((((Touch.refl _ w).alloc _).drewN _).alloc _) hgrow (hat.imp_right (fun h => by omega))
  · have h3 : (pk != 2) = true := by simpa using h2
    have h3' : (pk == 2) = false := by simpa using h2
    have h4 : (pn == 0) = false := by simpa [h2] using ht
    have hb1 : (qk == pk) = false := by simpa using hqp
    clear ht h2 hqp hsw
    go_enter Tryd.func32, Tryd.ntmps32
    go_wp2_with fail
    go_quiet (fail)
    go_wp2_with fail
    go_region_law (((first | (refine step_append_lies _ (by rfl) _ _ _ (by rfl) B 53 i0 _ 3 32 Tryd.underlying42 hi hz0 hz1 hz2 rfl (by omega) (.slice (some ⟨g, 0, none⟩) (r.length + 1) c) (r.length + 1) (flat ((⟨qk, qn, qt⟩ : Part) :: r).reverse) (by rfl) ((ownsRow_drewN (hown.alloc _) _).alloc _) ⟨w.heap.size + 1, 0, none⟩ 1 1 [.int .i64 pk, .int .i64 pn, .string pt] (by rfl) (by rfl) (news_at (heap_new_at _ _ _ (by simp))) (by simp [Value.oneCell']) (by omega) (by unfold maxLen; omega) (by omega) (by simp; omega) (w.heap.size + 2) (by simp) ?_; intro gg cap w1 hown1 hgrow hat hlt1; have hbk1 : w1.heap[b]? = w.heap[b]? := (hgrow.block b (by simp; omega) (Ne.symm Hne.out)).trans ((Below.heap_alloc _ _ b (by simp; omega)).trans (Below.heap_alloc w _ b hlt)); have hf1 : w1.frozen? ⟨b, 0, none⟩ = false := (World.frozen?_of_block (a := ⟨b, 0, none⟩) hbk1).trans hf0; have hd1 := (cell_keep (o := 0) hbk1).trans hc0))))
    all_goals
      (try go_wp2_with fail)
      go_end0
      exact add_fin hbase Hv.out Hbag.out.blk hbk1 (by rw [flat_snoc]; exact hown1) ((((Touch.refl _ w).alloc _).drewN _).alloc _) hgrow (hat.imp_right (fun h => by omega))
set_option maxRecDepth 100000 in
set_option maxHeartbeats 2000000 in
theorem add_merge (B b : Nat) (v : Value) (left : Int) (q : Part) (r : List Part) (p : Part) (w : World) (hm : Mild p) (hmq : Mild q) (hl : r.length ≤ 1000000000000) (ht : triv p = false) (hqp : q.kind = p.kind)
    (hbag : Bag 91 B b v [.int .i64 left] (q :: r).reverse w) :
    Calls Tryd.prog 32 #[.pointer (some ⟨b, 0, none⟩), .agg #[.int .i64 p.kind, .int .i64 p.n, .string p.text]] w (AddPost 91 B b v [.int .i64 left] (⟨q.kind, q.n + p.n, q.text ++ p.text⟩ :: r) w) := by
  obtain ⟨a, c, hv⟩ := hbag.form
  have hlt := hbag.lt
  have hc0 := hbag.cell 0
  have hc1 := hbag.cell 1
  simp only [List.getElem?_cons_zero, List.getElem?_cons_succ, List.length_reverse, List.length_cons] at hc0 hc1 hv
  rw [hv] at hc0
  have hrow := hbag.rowlt
  obtain ⟨g, rfl, hg, hq0, hq1, hq2⟩ := hbag.last hv
  have hgs := (hrow g hg).2
  have hbgn : b ≠ g := fun e => hbag.ne (by rw [hg, e])
  have hown := hbag.own
  rw [hv] at hown
  simp only [List.length_reverse, List.length_cons] at hown
  have hf1 := hown.frozenAt (r.length * 3 + 1)
  have hf2 := hown.frozenAt (r.length * 3 + 2)
  have hgne : g ≠ w.heap.size := by omega
  have hne : b ≠ w.heap.size := by omega
  have hnn : 0 < r.length + 1 := by omega
  have hm1 := hm.n
  have hm2 := hmq.n
  have hadd : ∀ W : World, (Op.stringOp .add q.text p.text).run Tryd.prog W = .ok (.string (q.text ++ p.text)) W := fun W => run_string_add_sum W _ _ (by have h1 := hm.t; have h2 := hmq.t; omega)
  have Hfin : Hid (∀ W : World, Touch (fun _ => False) w W → AddPost 91 B b v [.int .i64 left] (⟨q.kind, q.n + p.n, q.text ++ p.text⟩ :: r) w (.returned (.tuple #[]))
      ((W.setCell ⟨g, r.length * 3 + 1, none⟩ (.int .i64 (q.n + p.n))).setCell ⟨g, r.length * 3 + 2, none⟩ (.string (q.text ++ p.text))).drew) := by
    unfold Hid
    intro W hW
    have hbW := hbag.touch hW (fun _ _ h => h)
    have hoW := hbW.own
    rw [hv] at hoW
    simp only [List.length_reverse, List.length_cons] at hoW
    have h1 := (hoW.stored (r.length * 3 + 1) (.int .i64 (q.n + p.n))).1
    have h2 := (h1.stored (r.length * 3 + 2) (.string (q.text ++ p.text))).1
    rw [flat_set ⟨q.kind, q.n + p.n, q.text ++ p.text⟩ q r rfl] at h2
    refine ⟨v, rfl, ⟨hbag.base, ?_, ?_, hbag.ne⟩, ?_, .inl rfl⟩
    · show ((W.setCell ⟨g, r.length * 3 + 1, none⟩ (.int .i64 (q.n + p.n))).setCell ⟨g, r.length * 3 + 2, none⟩ (.string (q.text ++ p.text))).heap[b]? = _
      rw [Below.heap_setCell _ _ _ _ hbgn, Below.heap_setCell _ _ _ _ hbgn]
      exact hbW.blk
    · rw [hv]
      exact ownsRow_drew (by simpa using h2)
    · exact (((hW.mono (fun _ _ h => h.elim)).setCell (p := ⟨g, r.length * 3 + 1, none⟩) (.inl (.inr hg)) _).setCell (p := ⟨g, r.length * 3 + 2, none⟩) (.inl (.inr hg)) _).drew
  clear hown hbag hrow hm hmq hv hg
  obtain ⟨pk, pn, pt⟩ := p
  obtain ⟨qk, qn, qt⟩ := q
  simp only at hqp hq0 hq1 hq2 hm1 hm2 hadd Hfin
  subst hqp
  simp only [triv] at ht
  by_cases h2 : qk = 2
  · subst h2
    have he : pt.toList.isEmpty = false := by simpa [emptyS] using ht
    clear ht
    go_enter Tryd.func32, Tryd.ntmps32
    go_wp2_with fail
    go_quiet (fail)
    go_wp2_with fail
    go_region
    go_wp2_with fail
    go_region
    go_wp2_with fail
    go_end0
    exact Hfin.out _ (((Touch.refl _ w).alloc _).drewN _)
  · have h3 : (qk != 2) = true := by simpa using h2
    have h3' : (qk == 2) = false := by simpa using h2
    have h4 : (pn == 0) = false := by simpa [h2] using ht
    clear ht h2
    go_enter Tryd.func32, Tryd.ntmps32
    go_wp2_with fail
    go_quiet (fail)
    go_wp2_with fail
    go_region
    go_wp2_with fail
    go_region
    go_wp2_with fail
    go_end0
    exact Hfin.out _ (((Touch.refl _ w).alloc _).drewN _)
theorem addR_len (r : List Part) (p : Part) : (addR r p).length ≤ r.length + 1 := by
  induction r with
  | nil => simp only [addR]; split <;> simp
  | cons q r ih => simp only [addR]; (repeat' split) <;> simp <;> omega
set_option maxRecDepth 100000 in
set_option maxHeartbeats 4000000 in
theorem add_swap (B b : Nat) (v : Value) (left : Int) (q : Part) (r : List Part) (p : Part) (w : World) (hl : r.length ≤ 1000000000000) (ht : triv p = false) (hp2 : p.kind = 2) (hq3 : q.kind = 3)
    (ih : ∀ (v : Value) (w : World), Bag 91 B b v [.int .i64 left] r.reverse w →
      Calls Tryd.prog 32 #[.pointer (some ⟨b, 0, none⟩), .agg #[.int .i64 p.kind, .int .i64 p.n, .string p.text]] w (AddPost 91 B b v [.int .i64 left] (addR r p) w))
    (hbag : Bag 91 B b v [.int .i64 left] (q :: r).reverse w) :
    Calls Tryd.prog 32 #[.pointer (some ⟨b, 0, none⟩), .agg #[.int .i64 p.kind, .int .i64 p.n, .string p.text]] w (AddPost 91 B b v [.int .i64 left] (q :: addR r p) w) := by
  obtain ⟨i0, hi, hz0, hz1, hz2⟩ := info_parts infoP
  obtain ⟨a, c, hv⟩ := hbag.form
  have hlt := hbag.lt
  have hc0 := hbag.cell 0
  have hc1 := hbag.cell 1
  have hf0 := hbag.frozen 0
  simp only [List.getElem?_cons_zero, List.getElem?_cons_succ, List.length_reverse, List.length_cons] at hc0 hc1 hv
  rw [hv] at hc0
  have hrow := hbag.rowlt
  obtain ⟨g, rfl, hg, hq0, hq1, hq2⟩ := hbag.last hv
  have hgs := (hrow g hg).2
  have hbgn : b ≠ g := fun e => hbag.ne (by rw [hg, e])
  have hgne : g ≠ w.heap.size := by omega
  have hne : b ≠ w.heap.size := by omega
  have hnn : 0 < r.length + 1 := by omega
  have hcap : r.length + 1 ≤ c := by
    rcases hbag.own.2 with ⟨_, h0⟩ | ⟨g', cap, cur, hv', _, _, hnc, _⟩
    · simp at h0
    · rw [hv] at hv'; injection hv' with _ _ h3; simp at hnc; omega
  -- the world in which the inner call begins
  have Hcut : Hid (∀ W : World, Touch (fun _ => False) w W → Bag 91 B b (.slice (some ⟨g, 0, none⟩) r.length c) [.int .i64 left] r.reverse (W.setCell ⟨b, 0, none⟩ (.slice (some ⟨g, 0, none⟩) r.length c))) := by
    unfold Hid
    intro W hW
    have hbW := hbag.touch hW (fun _ _ h => h)
    have hoW := hbW.own
    rw [hv] at hoW
    simp only [List.length_reverse, List.length_cons] at hoW
    have h1 := ownsRow_cut hoW r.length (by omega)
    rw [flat_snoc] at h1
    have h2 : (flat r.reverse ++ partCells q).take (r.length * 3) = flat r.reverse := by
      have := flat_len r.reverse
      rw [List.length_reverse] at this
      rw [← this, List.take_left]
    rw [h2] at h1
    exact Bag.put hbag.base hbW.blk (by simpa using h1) (by decide)
  have Hbag := Lib.hid hbag
  have Hv := Lib.hid hv
  have Hg := Lib.hid hg
  have Hih := Lib.hid ih
  clear hbag hv hg ih hrow
  obtain ⟨pk, pn, pt⟩ := p
  obtain ⟨qk, qn, qt⟩ := q
  simp only at hp2 hq3 hq0 hq1 hq2 Hih
  subst hp2 hq3
  have he : pt.toList.isEmpty = false := by simpa [emptyS, triv] using ht
  clear ht
  go_enter Tryd.func32, Tryd.ntmps32
  go_wp2_with fail
  go_quiet (fail)
  go_wp2_with fail
  refine (Hih.out _ _ ((Hcut.out _ ?ht).alloc _)).mono ?_
  case ht => exact (((Touch.refl _ w).alloc _).drewN _)
  rintro e w2 ⟨v2, rfl, hbag2, ht2, hat2⟩
  obtain ⟨a2, c2, hv2⟩ := hbag2.form
  simp only [List.length_reverse] at hv2
  have hsz2 := ht2.size
  simp at hsz2
  have hS : ∀ k, w.heap.size ≤ k → ¬ Bag.S b (.slice (some ⟨g, 0, none⟩) r.length c) k := by
    rintro k hk (rfl | h)
    · omega
    · simp [Value.ownBlock] at h; omega
  have d0 : w2.cell? ⟨w.heap.size + 1, 0, none⟩ = some (.int .i64 3) := (ht2.cell (b := w.heap.size + 1) (o := 0) (by simp) (hS _ (by omega))).trans (by rw [cell_of_row _ _ _ _ _ _ (heap_new_at _ _ _ (by simp))]; rfl)
  have d1 : w2.cell? ⟨w.heap.size + 1, 1, none⟩ = some (.int .i64 qn) := (ht2.cell (b := w.heap.size + 1) (o := 1) (by simp) (hS _ (by omega))).trans (by rw [cell_of_row _ _ _ _ _ _ (heap_new_at _ _ _ (by simp))]; rfl)
  have d2 : w2.cell? ⟨w.heap.size + 1, 2, none⟩ = some (.string qt) := (ht2.cell (b := w.heap.size + 1) (o := 2) (by simp) (hS _ (by omega))).trans (by rw [cell_of_row _ _ _ _ _ _ (heap_new_at _ _ _ (by simp))]; rfl)
  have hown := hbag2.own
  rw [hv2] at hown
  simp only [List.length_reverse] at hown
  have c0 := hbag2.cell 0
  have f0 := hbag2.frozen 0
  have hlt2 := hbag2.lt
  simp only [List.getElem?_cons_zero] at c0
  rw [hv2] at c0
  have hne2 := hbag2.ne
  rw [hv2] at hne2
  have Hne2 := Lib.hid hne2
  have Hv2 := Lib.hid hv2
  have Hbag2 := Lib.hid hbag2
  have Ht2 := Lib.hid ht2
  have Hat2 := Lib.hid hat2
  have hbase := hbag2.base
  have hlen := addR_len r ⟨2, pn, pt⟩
  clear hne2 hv2 hbag2 ht2 hat2 hS Hcut Hih
  generalize addR r ⟨2, pn, pt⟩ = R at *
  clear hc0 hc1 hq0 hq1 hq2 hf0
  go_wp2_with fail
  go_region_law (((first | (refine step_append_lies _ (by rfl) _ _ _ (by rfl) B 53 i0 _ 3 32 Tryd.underlying42 hi hz0 hz1 hz2 rfl (by omega) (.slice a2 R.length c2) R.length (flat R.reverse) (by rfl) ((ownsRow_drew hown).alloc _) ⟨w2.heap.size, 0, none⟩ 1 1 [.int .i64 3, .int .i64 qn, .string qt] (by rfl) (by rfl) (news_at (heap_new_at _ _ _ (by simp))) (by simp [Value.oneCell']) (by omega) (by unfold maxLen; omega) (by omega) (by simp; omega) (w2.heap.size + 1) (by simp) ?_; intro gg cap w3 hown1 hgrow hat hlt1; have hbk1 : w3.heap[b]? = w2.heap[b]? := (hgrow.block b (by first | (simp; omega) | (simp only [World.size_alloc]; omega) | omega) (Ne.symm Hne2.out)).trans (Below.heap_alloc _ _ b (by first | (simp; omega) | omega)); have hf1 : w3.frozen? ⟨b, 0, none⟩ = false := (World.frozen?_of_block (a := ⟨b, 0, none⟩) hbk1).trans f0; have hd1 := (cell_keep (o := 0) hbk1).trans c0))))
  all_goals
    (try go_wp2_with fail)
    go_end0
    have hbag2 := Hbag2.out
    have hbk := hbag2.blk
    refine ⟨_, rfl, Bag.put hbase (hbk1.trans hbk) (by rw [flat_snoc]; simpa [partCells] using hown1) (by decide), ?_, ?_⟩
    · have t0 : Touch (Bag.S b v) w _ := ((((Touch.refl (Bag.S b v) w).alloc (.cells #[.int .i64 2, .int .i64 pn, .string pt] 53)).drewN nq).setCell (p := ⟨b, 0, none⟩) (.inl (.inl rfl)) (.slice (some ⟨g, 0, none⟩) r.length c)).alloc (.cells #[.int .i64 3, .int .i64 qn, .string qt] 53)
      have t1 := t0.then_ Ht2.out (fun k _ h => by
        rcases h with rfl | h
        · exact .inl rfl
        · exact .inr (Hg.out.trans h))
      refine ((t1.drew.alloc _).grown hgrow (fun k hk => ?_)).setCell (p := ⟨b, 0, none⟩) (.inl (.inl rfl)) _
      rw [← Hv2.out] at hk
      rcases Hat2.out with h | h
      · exact .inl (.inr (by rw [Hg.out, ← hk, h]; rfl))
      · have := h k hk; simp at this; exact .inr (by omega)
    · rcases hat with h | h
      · rw [← Hv2.out] at h
        rcases Hat2.out with h2 | h2
        · exact .inl (by rw [Hg.out]; show some gg = some g; rw [← h, h2]; rfl)
        · exact .inr fun k hk => by simp [Value.ownBlock] at hk; subst hk; have := h2 _ h; simp at this; omega
      · exact .inr fun k hk => by simp [Value.ownBlock] at hk; omega
theorem addR_nil {p : Part} (ht : triv p = false) : addR [] p = [p] := by simp [addR, ht]
theorem addR_merge {p q : Part} {r : List Part} (ht : triv p = false) (h : q.kind = p.kind) : addR (q :: r) p = ⟨q.kind, q.n + p.n, q.text ++ p.text⟩ :: r := by simp only [addR, ht]; rw [if_neg (by decide), if_pos h]
theorem addR_swap {p q : Part} {r : List Part} (ht : triv p = false) (h : ¬ q.kind = p.kind) (h2 : p.kind = 2 ∧ q.kind = 3) : addR (q :: r) p = q :: addR r p := by simp only [addR, ht]; rw [if_neg (by decide), if_neg h, if_pos h2]
theorem addR_more {p q : Part} {r : List Part} (ht : triv p = false) (h : ¬ q.kind = p.kind) (h2 : ¬ (p.kind = 2 ∧ q.kind = 3)) : addR (q :: r) p = p :: q :: r := by simp only [addR, ht]; rw [if_neg (by decide), if_neg h, if_neg h2]
theorem add_any (B b : Nat) (left : Int) (p : Part) (hm : Mild p) : ∀ (r : List Part) (v : Value) (w : World), (∀ q ∈ r, Mild q) → r.length ≤ 1000000000000 →
    Bag 91 B b v [.int .i64 left] r.reverse w →
    Calls Tryd.prog 32 #[.pointer (some ⟨b, 0, none⟩), .agg #[.int .i64 p.kind, .int .i64 p.n, .string p.text]] w (AddPost 91 B b v [.int .i64 left] (addR r p) w)
  | [], v, w, _, hl, hbag => by
    cases ht : triv p with
    | true => exact add_triv B b v left [] p w hm hl ht hbag
    | false => rw [addR_nil ht]; exact add_empty B b v left p w hm ht hbag
  | q :: r, v, w, hq, hl, hbag => by
    have hl' : r.length ≤ 1000000000000 := by simp at hl; omega
    cases ht : triv p with
    | true => exact add_triv B b v left (q :: r) p w hm hl ht hbag
    | false =>
      by_cases h1 : q.kind = p.kind
      · rw [addR_merge ht h1]; exact add_merge B b v left q r p w hm (hq q (by simp)) hl' ht h1 hbag
      · by_cases h2 : p.kind = 2 ∧ q.kind = 3
        · rw [addR_swap ht h1 h2]; exact add_swap B b v left q r p w hl' ht h2.1 h2.2 (fun v w hb => add_any B b left p hm r v w (fun q hq' => hq q (by simp [hq'])) hl' hb) hbag
        · rw [addR_more ht h1 h2]; exact add_append B b v left q r p w hm hl' ht h1 h2 hbag
end Go.Proofs.YtkbfhgcjimfgkaaDoor
namespace Go.Proofs.YtkbfhgcjimfgkaaDoor
open Go.RowKit
def noText : Str := ⟨#[]⟩
theorem addR_each (P0 P : Part → Prop) (p : Part) (hp : P p) (h01 : ∀ q, P0 q → P q) (hadd : ∀ q, P0 q → q.kind = p.kind → P ⟨q.kind, q.n + p.n, q.text ++ p.text⟩) : ∀ r : List Part, (∀ q ∈ r, P0 q) → ∀ q ∈ addR r p, P q := by
  intro r
  induction r with
  | nil =>
    intro _ q hq
    simp only [addR] at hq
    split at hq
    · cases hq
    · simp at hq; rw [hq]; exact hp
  | cons x r ih =>
    intro hr q hq
    have hx := hr x (by simp)
    have ih' := ih (fun q h => hr q (by simp [h]))
    simp only [addR] at hq
    split at hq
    · exact h01 q (hr q hq)
    · split at hq
      · rename_i hk
        rcases List.mem_cons.1 hq with h | h
        · rw [h]; exact hadd x hx hk
        · exact h01 q (hr q (by simp [h]))
      · split at hq
        · rcases List.mem_cons.1 hq with h | h
          · rw [h]; exact h01 x hx
          · exact ih' q h
        · rcases List.mem_cons.1 hq with h | h
          · rw [h]; exact hp
          · exact h01 q (hr q h)
theorem size_app (a b : Str) : (a ++ b).size = a.size + b.size := by simp [ByteArray.size_append]
theorem noText_size : noText.size = 0 := rfl
theorem Bag.sB {T B b : Nat} {v : Value} {ex : List Value} {l : Op} {w : World} (h : Bag T B b v ex l w) : ∀ g, Bag.S b v g → B ≤ g := by
  rintro g (rfl | h2)
  · exact h.base
  · exact (h.rowlt g h2).1
end Go.Proofs.YtkbfhgcjimfgkaaDoor
set_option linter.unusedSimpArgs false
namespace Go.Proofs.YtkbfhgcjimfgkaaDoor
open Go.RowKit
structure Fr where
  kind : Int
  heard : Int
  epoch : Int
  op : Op
  text : Str
instance : Rep Fr where
  n := 5
  rd := fun A w f cs => ∃ a n c, cs = [.int .i64 f.kind, .int .i64 f.heard, .int .i64 f.epoch, .slice a n c, .string f.text] ∧ RdS A w f.op a n c ∧ I64 f.kind ∧ I64 f.heard ∧ I64 f.epoch ∧ f.text.size ≤ strMax
  len := fun ⟨_, _, _, h, _⟩ => by rw [h]; rfl
  mono := fun h ⟨a, n, c, e, hr, h2⟩ => ⟨a, n, c, e, hr.mono h, h2⟩
  one := fun ⟨_, _, _, h, _⟩ => by rw [h]; simp [Value.oneCell']
  pos := by decide
def Fr.check (f : Fr) : Int := checkFrame f.kind f.heard f.epoch f.op f.text
/-- a frame whose numbers fit -/
def Fr.fits (f : Fr) : Prop := I64 f.kind ∧ I64 f.heard ∧ I64 f.epoch ∧ f.text.size ≤ strMax
structure Pkt where
  epoch : Int
  number : Int
  bare : Bool
  ack : Int
  f : Fr
def bareFr : Fr := ⟨0, 0, 0, [], noText⟩
instance : Rep Pkt where
  n := 9
  rd := fun A w p cs => ∃ a n c, cs = [.int .i64 p.epoch, .int .i64 p.number, .bool p.bare, .int .i64 p.ack, .int .i64 p.f.kind, .int .i64 p.f.heard, .int .i64 p.f.epoch, .slice a n c, .string p.f.text] ∧ RdS A w p.f.op a n c ∧ I64 p.epoch ∧ I64 p.number ∧ I64 p.ack ∧ p.f.fits
  len := fun ⟨_, _, _, h, _⟩ => by rw [h]; rfl
  mono := fun h ⟨a, n, c, e, hr, h2⟩ => ⟨a, n, c, e, hr.mono h, h2⟩
  one := fun ⟨_, _, _, h, _⟩ => by rw [h]; simp [Value.oneCell']
  pos := by decide
/-- one side of a session -/
structure Lk where
  epoch : Int
  next : Int
  sent : List Fr
  queue : List Fr
  heard : Int
/-- one of two sides that keep a text together -/
structure Ed where
  sent : Int
  heard : Int
  pending : List Op
/-- one frame of a slice of frames -/
theorem RdS.frame {A : Nat → Prop} {w : World} {l : List Fr} {a : Option Addr} {n c : Nat} (hr : RdS A w l a n c) (hn : 0 < n) :
    ∃ b off, a = some ⟨b, off, none⟩ ∧ A b ∧ b < w.heap.size ∧ ∀ i (h : i < l.length), ∃ a' n' c', RdS A w l[i].op a' n' c' ∧ l[i].fits ∧ w.cell? ⟨b, off + i * 5, none⟩ = some (.int .i64 l[i].kind) ∧ w.cell? ⟨b, off + i * 5 + 1, none⟩ = some (.int .i64 l[i].heard) ∧
      w.cell? ⟨b, off + i * 5 + 1 + 1, none⟩ = some (.int .i64 l[i].epoch) ∧ w.cell? ⟨b, off + i * 5 + 1 + 1 + 1, none⟩ = some (.slice a' n' c') ∧ w.cell? ⟨b, off + i * 5 + 1 + 1 + 1 + 1, none⟩ = some (.string l[i].text) := by
  obtain ⟨b, off, e, hA, hb, he⟩ := hr.2.2.2.2 hn
  refine ⟨b, off, e, hA, hb, fun i h => ?_⟩
  obtain ⟨xs, ⟨a', n', c', rfl, h1, h2⟩, h4⟩ := he i l[i] (List.getElem?_eq_getElem h)
  exact ⟨a', n', c', h1, h2, h4 0 _ rfl, h4 1 _ rfl, h4 2 _ rfl, h4 3 _ rfl, h4 4 _ rfl⟩
theorem RdS.rowO {α : Type} [Rep α] {A : Nat → Prop} {w : World} {ls : List (List α)} {a : Option Addr} {n c : Nat} (hr : RdS A w ls a n c) (hn : 0 < n) :
    ∃ b off, a = some ⟨b, off, none⟩ ∧ A b ∧ b < w.heap.size ∧ ∀ i (h : i < ls.length), ∃ a' n' c', RdS A w ls[i] a' n' c' ∧ w.cell? ⟨b, off + i, none⟩ = some (.slice a' n' c') := by
  obtain ⟨b, off, e, hA, hb, he⟩ := hr.2.2.2.2 hn
  refine ⟨b, off, e, hA, hb, fun i h => ?_⟩
  obtain ⟨xs, ⟨a', n', c', rfl, h1⟩, h4⟩ := he i ls[i] (List.getElem?_eq_getElem h)
  have h5 := h4 0 _ rfl
  refine ⟨a', n', c', h1, ?_⟩
  have e1 : off + i * Rep.n (List α) + 0 = off + i := by show off + i * 1 + 0 = off + i; omega
  rw [e1] at h5
  exact h5
end Go.Proofs.YtkbfhgcjimfgkaaDoor
namespace Go.Proofs.YtkbfhgcjimfgkaaDoor
open Go.RowKit
/-- a record of a tape -/
structure Rec where
  epoch : Int
  op : Op
instance : Rep Rec where
  n := 2
  rd := fun A w x cs => ∃ (a : Option Addr) (n c : Nat), cs = [.int .i64 x.epoch, .slice a n c] ∧ I64 x.epoch ∧ RdS A w x.op a n c
  len := fun ⟨_, _, _, h, _⟩ => by rw [h]; rfl
  mono := fun h ⟨a, n, c, e, hi, hr⟩ => ⟨a, n, c, e, hi, hr.mono h⟩
  one := fun ⟨_, _, _, h, _⟩ => by rw [h]; simp [Value.oneCell']
  pos := by decide
end Go.Proofs.YtkbfhgcjimfgkaaDoor
namespace Go.Proofs.YtkbfhgcjimfgkaaDoor
open Go.RowKit
theorem bytes_ext {a b : ByteArray} (h : a.data.toList = b.data.toList) : a = b := by
  apply ByteArray.ext
  exact Array.ext' h
theorem enc_dec_str (s : Str) (h : valid s = true) : Uni.enc (Uni.dec s.data.toList) = s ∧ ∀ r ∈ Uni.dec s.data.toList, Uni.vr r := by
  obtain ⟨h1, h2⟩ := Uni.enc_dec_all s.data.toList h
  refine ⟨bytes_ext ?_, h2⟩
  unfold Uni.enc
  simp only
  exact h1
theorem valid_ex {s : Str} (h : valid s = true) : ∃ rs, s = Uni.enc rs ∧ ∀ r ∈ rs, Uni.vr r := ⟨_, (enc_dec_str s h).1.symm, (enc_dec_str s h).2⟩
theorem enc_append (a b : List Nat) : Uni.enc (a ++ b) = Uni.enc a ++ Uni.enc b := by
  apply bytes_ext
  simp [Uni.enc, Uni.encL_append, ByteArray.data_append]
theorem append_valid {a b : Str} (ha : valid a = true) (hb : valid b = true) : valid (a ++ b) = true ∧ rc (a ++ b) = rc a + rc b := by
  obtain ⟨x, rfl, hx⟩ := valid_ex ha
  obtain ⟨y, rfl, hy⟩ := valid_ex hb
  have h : ∀ r ∈ x ++ y, Uni.vr r := fun r hr => by
    rcases List.mem_append.1 hr with h | h
    · exact hx r h
    · exact hy r h
  rw [← enc_append, valid_enc _ h, rc_enc _ h, rc_enc _ hx, rc_enc _ hy, List.length_append]
  exact ⟨rfl, by push_cast; rfl⟩
theorem loop_len (s : ByteArray) : ∀ (n i : Nat) (r : List UInt8), s.size - i ≤ n → (ByteArray.toList.loop s i r).length = r.length + (s.size - i) := by
  intro n
  induction n with
  | zero =>
    intro i r h
    unfold ByteArray.toList.loop
    rw [if_neg (by omega), List.length_reverse]
    omega
  | succ n ih =>
    intro i r h
    unfold ByteArray.toList.loop
    split
    · rw [ih _ _ (by omega), List.length_cons]
      omega
    · rw [List.length_reverse]
      omega
theorem emptyS_iff (s : Str) : emptyS s = true ↔ s.size = 0 := by
  unfold emptyS
  rw [List.isEmpty_iff, ← List.length_eq_zero_iff]
  unfold ByteArray.toList
  rw [loop_len s s.size 0 [] (by omega)]
  simp
theorem emptyS_noText : emptyS noText = true := by rw [emptyS_iff]; rfl
theorem emptyS_append (a b : Str) : emptyS (a ++ b) = (emptyS a && emptyS b) := by
  have h1 := emptyS_iff a
  have h2 := emptyS_iff b
  have h3 := emptyS_iff (a ++ b)
  rw [size_app] at h3
  rw [Bool.eq_iff_iff, Bool.and_eq_true, h1, h2, h3]
  omega
theorem app_noText (a : Str) : a ++ noText = a := by apply bytes_ext; simp [noText, ByteArray.data_append]
theorem eq_noText {s : Str} (h : emptyS s = true) : s = noText := by
  rw [emptyS_iff] at h
  apply bytes_ext
  have : s.data.toList.length = 0 := by simpa using h
  rw [List.eq_nil_of_length_eq_zero this]; rfl
theorem rc_empty {s : Str} (h : emptyS s = true) : rc s = 0 := by rw [eq_noText h]; rfl
/-- a part that may be added: a keep or a delete of so many runes, or an insert of a text -/
def Proto (p : Part) : Prop := ((p.kind = 1 ∨ p.kind = 3) ∧ 0 ≤ p.n ∧ p.text = noText) ∨ (p.kind = 2 ∧ p.n = 0 ∧ valid p.text = true)
/-- .. and that is not for nothing -/
def Solid (p : Part) : Prop := ((p.kind = 1 ∨ p.kind = 3) ∧ 1 ≤ p.n ∧ p.text = noText) ∨ (p.kind = 2 ∧ p.n = 0 ∧ valid p.text = true ∧ emptyS p.text = false)
/-- parts, the last one first, in their one form -/
def Canon : List Part → Prop
  | [] => True
  | [p] => Solid p
  | p :: q :: r => Solid p ∧ clash q.kind p.kind = false ∧ Canon (q :: r)
theorem Canon.tail {p : Part} {r : List Part} (h : Canon (p :: r)) : Canon r := by
  cases r with
  | nil => trivial
  | cons q r => exact h.2.2
theorem Canon.head {p : Part} {r : List Part} (h : Canon (p :: r)) : Solid p := by
  cases r with
  | nil => exact h
  | cons q r => exact h.1
theorem Canon.all {r : List Part} (h : Canon r) : ∀ p ∈ r, Solid p := by
  induction r with
  | nil => simp
  | cons q r ih =>
    intro p hp
    rcases List.mem_cons.1 hp with rfl | hp
    · exact h.head
    · exact ih h.tail p hp
theorem Canon.cons {p : Part} {r : List Part} (h : Canon r) (hp : Solid p) (hc : ∀ q, r.head? = some q → clash q.kind p.kind = false) : Canon (p :: r) := by
  cases r with
  | nil => exact hp
  | cons q r => exact ⟨hp, hc q rfl, h⟩
theorem Proto.solid {p : Part} (h : Proto p) (ht : triv p = false) : Solid p := by
  rcases h with ⟨hk, hn, ht2⟩ | ⟨hk, hn, hv⟩
  · left
    refine ⟨hk, ?_, ht2⟩
    have : p.n ≠ 0 := by
      intro h0
      rcases hk with hk | hk <;> simp [triv, hk, h0] at ht
    omega
  · right
    refine ⟨hk, hn, hv, ?_⟩
    simpa [triv, hk] using ht
theorem merge_solid {p q : Part} (hq : Solid q) (hp : Proto p) (hk : q.kind = p.kind) : Solid ⟨q.kind, q.n + p.n, q.text ++ p.text⟩ := by
  rcases hq with ⟨a, b, c⟩ | ⟨a, b, c, d⟩
  · rcases hp with ⟨a', b', c'⟩ | ⟨a', _, _⟩
    · exact .inl ⟨a, by simp only; omega, by simp only [c, c', app_noText]⟩
    · omega
  · rcases hp with ⟨a', _, _⟩ | ⟨a', b', c'⟩
    · omega
    · exact .inr ⟨a, by simp only; omega, (append_valid c c').1, by simp only [emptyS_append, d, Bool.false_and]⟩
theorem clash_false {q p : Int} (h1 : ¬ q = p) (h2 : ¬ (p = 2 ∧ q = 3)) : clash q p = false := by
  unfold clash; simp; exact ⟨h1, fun h => fun h' => h2 ⟨h', h⟩⟩
/-- added parts stand in their one form; what a text of parts begins with is said, too -/
theorem addR_canon {p : Part} (hp : Proto p) : ∀ {r : List Part}, Canon r → Canon (addR r p) ∧ (triv p = false → p.kind = 2 → (∀ q, r.head? = some q → q.kind ≠ 3) → ∀ q, (addR r p).head? = some q → q.kind = 2)
  | [], _ => by
    cases ht : triv p with
    | true => simp [addR, ht, Canon]
    | false => rw [addR_nil ht]; exact ⟨hp.solid ht, fun _ hk _ q hq => by simp at hq; rw [← hq]; exact hk⟩
  | q :: r, hc => by
    cases ht : triv p with
    | true => simp only [addR, ht]; exact ⟨hc, fun h => by cases h⟩
    | false =>
      by_cases h1 : q.kind = p.kind
      · rw [addR_merge ht h1]
        refine ⟨hc.tail.cons (merge_solid hc.head hp h1) (fun x hx => ?_), fun _ hk _ y hy => by simp at hy; rw [← hy]; simp only; omega⟩
        cases r with
        | nil => cases hx
        | cons z r => simp at hx; subst hx; exact hc.2.1
      · by_cases h2 : p.kind = 2 ∧ q.kind = 3
        · rw [addR_swap ht h1 h2]
          have ih := addR_canon hp hc.tail
          have hh : ∀ x, r.head? = some x → x.kind ≠ 3 := by
            intro x hx
            cases r with
            | nil => cases hx
            | cons z r =>
              simp at hx; subst hx
              have := hc.2.1
              unfold clash at this
              simp at this
              omega
          refine ⟨ih.1.cons hc.head (fun x hx => ?_), fun _ _ hq => absurd h2.2 (hq q rfl)⟩
          have := ih.2 ht h2.1 hh x hx
          rw [this, h2.2]; rfl
        · rw [addR_more ht h1 h2]
          exact ⟨⟨hp.solid ht, clash_false h1 h2, hc⟩, fun _ hk _ y hy => by simp at hy; rw [← hy]; exact hk⟩
theorem sum_perm (f : Part → Int) (r : List Part) : (r.reverse.map f).sum = (r.map f).sum := by
  induction r with
  | nil => rfl
  | cons p r ih => simp only [List.reverse_cons, List.map_append, List.sum_append, ih, List.map_cons, List.sum_cons, List.map_nil, List.sum_nil]; omega
theorem proto_ins (t : Str) (h : valid t = true) : Proto ⟨2, 0, t⟩ := .inr ⟨rfl, rfl, h⟩
theorem lens_nonneg {p : Part} (h : Solid p) : 0 ≤ lenF p ∧ 0 ≤ lenT p := by
  have := rc_nonneg p.text
  unfold lenF lenT
  rcases h with ⟨hk, hn, _⟩ | ⟨hk, hn, _⟩
  · rcases hk with hk | hk <;> simp [hk] <;> omega
  · simp [hk]; omega
theorem le_sum (f : Part → Int) : ∀ r : List Part, (∀ p ∈ r, 0 ≤ f p) → 0 ≤ (r.map f).sum ∧ ∀ p ∈ r, f p ≤ (r.map f).sum
  | [], _ => by simp
  | q :: r, h => by
    have h1 := le_sum f r (fun p hp => h p (by simp [hp]))
    have h2 := h q (by simp)
    simp only [List.map_cons, List.sum_cons]
    refine ⟨by omega, fun p hp => ?_⟩
    rcases List.mem_cons.1 hp with rfl | hp
    · omega
    · have := h1.2 p hp; omega
theorem solid_ok {p : Part} (h : Solid p) (hf : lenF p ≤ 4000) (ht : lenT p ≤ 4000) : partOk p = 0 := by
  unfold partOk checkText
  unfold lenF at hf
  unfold lenT at ht
  rcases h with ⟨hk, hn, h3⟩ | ⟨hk, hn, hv, he⟩
  · rw [if_pos hk] at hf ⊢
    rw [if_neg (by omega), h3, emptyS_noText]; rfl
  · simp [hk] at ht
    rw [if_neg (by omega), if_pos hk, hv, hn, he]
    simp
    omega
def clashO (q : Option Int) (k : Int) : Bool := match q with | some q => clash q k | none => false
def lastK (q : Option Int) (l : Op) : Option Int := match l.getLast? with | some x => some x.kind | none => q
theorem checkFrom_snoc (p : Part) (hp : partOk p = 0) : ∀ (l : Op) (q : Option Int), checkFrom q l = 0 → clashO (lastK q l) p.kind = false → checkFrom q (l ++ [p]) = 0
  | [], q, _, hc => by
    rw [List.nil_append, checkFrom_drop q p [] hp hc]; rfl
  | x :: l, q, h, hc => by
    have hx : partOk x = 0 := by
      by_cases h0 : partOk x = 0
      · exact h0
      · cases q <;> simp only [checkFrom] at h <;> rw [if_pos h0] at h <;> exact h
    have hq : clashO q x.kind = false := by
      cases hh : clashO q x.kind with
      | false => rfl
      | true => rw [checkFrom_clash q x l hx hh] at h; omega
    rw [checkFrom_drop q x l hx hq] at h
    rw [List.cons_append, checkFrom_drop q x _ hx hq]
    refine checkFrom_snoc p hp l (some x.kind) h ?_
    cases l with
    | nil => exact hc
    | cons y l =>
      have e : lastK q (x :: y :: l) = lastK (some x.kind) (y :: l) := by
        unfold lastK; rw [List.getLast?_cons_cons, List.getLast?_eq_some_getLast (by simp)]
      rw [← e]; exact hc
theorem canon_from : ∀ (r : List Part), Canon r → (∀ p ∈ r, partOk p = 0) → checkFrom none r.reverse = 0
  | [], _, _ => rfl
  | p :: r, hc, h => by
    rw [List.reverse_cons]
    refine checkFrom_snoc p (h p (by simp)) _ none (canon_from r hc.tail (fun q hq => h q (by simp [hq]))) ?_
    cases r with
    | nil => rfl
    | cons q r => unfold lastK; simp; exact hc.2.1
/-- parts in their one form, that are not too long, may be -/
theorem canon_check {r : List Part} (hc : Canon r) (hl : r.length ≤ 8001) (hf : sumF r ≤ 4000) (ht : sumT r ≤ 4000) : check r.reverse = 0 := by
  have ef : sumF r.reverse = sumF r := sum_perm lenF r
  have et : sumT r.reverse = sumT r := sum_perm lenT r
  have hF := (le_sum lenF r (fun p hp => (lens_nonneg (hc.all p hp)).1)).2
  have hT := (le_sum lenT r (fun p hp => (lens_nonneg (hc.all p hp)).2)).2
  have hok : ∀ p ∈ r, partOk p = 0 := fun p hp => solid_ok (hc.all p hp) (by have := hF p hp; unfold sumF at hf; omega) (by have := hT p hp; unfold sumT at ht; omega)
  unfold check
  rw [if_neg (by rw [List.length_reverse]; omega), canon_from r hc hok, ef, et, if_neg (by simp), if_neg (by omega)]
end Go.Proofs.YtkbfhgcjimfgkaaDoor
