/- Plain: where the records of a tape lie. -/
import Derived.Test.YtdbdhpjjndhjiaaDoorTaped
set_option linter.unusedSimpArgs false
namespace Go.Proofs.YtdbdhpjjndhjiaaDoor
open Go.RowKit

/-- how many bytes the first k records take -/
def offR (rs : List Rec) (k : Nat) : Nat := (tapeB (rs.take k)).length
theorem tapeB_app (p q : List Rec) : tapeB (p ++ q) = tapeB p ++ tapeB q := by simp [tapeB]
theorem offR_zero (rs : List Rec) : offR rs 0 = 0 := by simp [offR, tapeB]
theorem offR_all (rs : List Rec) : offR rs rs.length = (tapeB rs).length := by simp [offR]
theorem entry_size (x : Rec) : (entry x).length = 3 + (recB x).length := by simp [entry, hdr]; omega
theorem offR_next (rs : List Rec) (k : Nat) (h : k < rs.length) : offR rs (k + 1) = offR rs k + 3 + (recB rs[k]).length := by
  unfold offR
  rw [tapeB_next rs k h, List.length_append, entry_size]; omega
theorem tapeB_split (rs : List Rec) (k : Nat) (h : k < rs.length) : tapeB rs = tapeB (rs.take k) ++ (hdr (recB rs[k]).length ++ (recB rs[k] ++ tapeB (rs.drop (k + 1)))) := by
  have e : rs = rs.take (k + 1) ++ rs.drop (k + 1) := (List.take_append_drop _ _).symm
  have e2 : tapeB rs = tapeB (rs.take (k + 1)) ++ tapeB (rs.drop (k + 1)) := by rw [← tapeB_app, ← e]
  rw [e2, tapeB_next rs k h]
  simp [entry]
theorem offR_le (rs : List Rec) (k : Nat) : offR rs k ≤ (tapeB rs).length := by
  have e : rs = rs.take k ++ rs.drop k := (List.take_append_drop _ _).symm
  have e2 : tapeB rs = tapeB (rs.take k) ++ tapeB (rs.drop k) := by rw [← tapeB_app, ← e]
  unfold offR
  rw [e2, List.length_append]; omega
theorem hdr_at (n i : Nat) (hn : n ≤ 40010) (hi : i < 3) : ∃ x : UInt8, (hdr n)[i]? = some x ∧ x.toNat = (if i = 0 then n / 65536 else if i = 1 then n / 256 else n % 256) := by
  have e1 : (UInt8.ofNat (n / 65536)).toNat = n / 65536 := ofNat_toNat' (by omega)
  have e2 : (UInt8.ofNat (n / 256)).toNat = n / 256 := ofNat_toNat' (by omega)
  have e3 : (UInt8.ofNat n).toNat = n % 256 := by simp
  match i, hi with
  | 0, _ => exact ⟨_, rfl, by simp [e1]⟩
  | 1, _ => exact ⟨_, rfl, by simp [e2]⟩
  | 2, _ => exact ⟨_, rfl, by simp [e3]⟩
/-- the header of the k'th record, in a tape of which m bytes are left -/
theorem tape_hdr (rs : List Rec) (k m i : Nat) (h : k < rs.length) (hi : i < 3) (hm : offR rs k + 3 ≤ m) : ((tapeB rs).take m)[offR rs k + i]? = (hdr (recB rs[k]).length)[i]? := by
  rw [List.getElem?_take_of_lt (by omega), tapeB_split rs k h, List.getElem?_append_right (by unfold offR; omega)]
  rw [show offR rs k + i - (tapeB (rs.take k)).length = i from by unfold offR; omega, List.getElem?_append_left (by simp [hdr]; omega)]
theorem hdr_read {W : World} {b off at_ N : Nat} {l : Bs} (hN : N ≤ 40010) (hh : ∀ i, i < 3 → l[at_ + i]? = (hdr N)[i]?) (hcs : ∀ i (h : i < l.length), W.cell? ⟨b, off + i, none⟩ = some (.int .u8 (l[i].toNat : Int))) :
    W.cell? ⟨b, off + at_, none⟩ = some (.int .u8 ((N / 65536 : Nat) : Int)) ∧ W.cell? ⟨b, off + (at_ + 1), none⟩ = some (.int .u8 ((N / 256 : Nat) : Int)) ∧ W.cell? ⟨b, off + (at_ + 2), none⟩ = some (.int .u8 ((N % 256 : Nat) : Int)) := by
  have key : ∀ i, i < 3 → ∃ x : UInt8, (hdr N)[i]? = some x ∧ W.cell? ⟨b, off + (at_ + i), none⟩ = some (.int .u8 (x.toNat : Int)) := by
    intro i hi
    obtain ⟨x, hx, _⟩ := hdr_at N i hN hi
    have h1 := (hh i hi).trans hx
    obtain ⟨h2, h3⟩ := List.getElem?_eq_some_iff.1 h1
    exact ⟨x, hx, by rw [hcs _ h2, h3]⟩
  obtain ⟨y0, e0, v0⟩ := hdr_at N 0 hN (by omega)
  obtain ⟨y1, e1, v1⟩ := hdr_at N 1 hN (by omega)
  obtain ⟨y2, e2, v2⟩ := hdr_at N 2 hN (by omega)
  obtain ⟨x0, f0, c0⟩ := key 0 (by omega)
  obtain ⟨x1, f1, c1⟩ := key 1 (by omega)
  obtain ⟨x2, f2, c2⟩ := key 2 (by omega)
  obtain rfl : y0 = x0 := Option.some.inj (e0.symm.trans f0)
  obtain rfl : y1 = x1 := Option.some.inj (e1.symm.trans f1)
  obtain rfl : y2 = x2 := Option.some.inj (e2.symm.trans f2)
  simp at v0 v1 v2
  rw [v0] at c0; rw [v1] at c1; rw [v2] at c2
  exact ⟨c0, c1, c2⟩
theorem drop_at {α : Type} (a b : List α) (n : Nat) (h : n = a.length) : (a ++ b).drop n = b := by subst h; simp
theorem take_at {α : Type} (a b : List α) (n : Nat) (h : n = a.length) : (a ++ b).take n = a := by subst h; simp
theorem tape_rec (rs : List Rec) (k m : Nat) (h : k < rs.length) (hm : offR rs k + 3 + (recB rs[k]).length ≤ m) : (((tapeB rs).take m).drop (offR rs k + 3)).take (recB rs[k]).length = recB rs[k] := by
  rw [List.drop_take, List.take_take, Nat.min_eq_left (by omega)]
  have e : tapeB rs = (tapeB (rs.take k) ++ hdr (recB rs[k]).length) ++ (recB rs[k] ++ tapeB (rs.drop (k + 1))) := by rw [tapeB_split rs k h]; simp
  rw [e, drop_at _ _ _ (by simp [offR, hdr]), take_at _ _ _ rfl]
theorem tape_upto (rs : List Rec) (k m : Nat) (hm : offR rs k ≤ m) : ((tapeB rs).take m).take (offR rs k) = tapeB (rs.take k) := by
  rw [List.take_take, Nat.min_eq_left hm]
  have e : rs = rs.take k ++ rs.drop k := (List.take_append_drop _ _).symm
  have e2 : tapeB rs = tapeB (rs.take k) ++ tapeB (rs.drop k) := by rw [← tapeB_app, ← e]
  rw [e2]
  exact take_at _ _ _ rfl
theorem offR_len (rs : List Rec) (hrs : ∀ r ∈ rs, checkRecord r = 0) : (tapeB rs).length ≤ 40013 * rs.length := tapeB_len rs hrs
theorem shl_or (N : Nat) (hn : N ≤ 40010) : bits .or .i64 (bits .or .i64 ((N : Int) / 65536 * 65536) ((N : Int) / 256 * 256)) ((N : Int) % 256) = (N : Int) := by
  have h0 : (N : Int) / 65536 * 65536 = ((0 : Nat) : Int) := by omega
  have h1 : (N : Int) / 256 * 256 = ((N / 256 * 2 ^ 8 : Nat) : Int) := by omega
  have h2 : (N : Int) % 256 = ((N % 256 : Nat) : Int) := by omega
  rw [h0, h1, h2, i64_or_nat _ _ (by omega) (by omega), i64_or_nat _ _ (by simp; omega) (by omega)]
  have e := Nat.two_pow_add_eq_or_of_lt (i := 8) (b := N % 256) (by omega) (N / 256)
  have e3 : 0 ||| N / 256 * 2 ^ 8 ||| N % 256 = N := by
    rw [Nat.zero_or, Nat.mul_comm, ← e]; omega
  rw [e3]
end Go.Proofs.YtdbdhpjjndhjiaaDoor
