/- The walks of wherrykeep.letters, wherrykeep.runes. -/
import Derived.Test.YtkbfhgcjimfgkaaDoorLib
import Derived.Test.YtkbfhgcjimfgkaaDoorUni
import Derived.Test.YtkbfhgcjimfgkaaDoorBag
import Derived.Test.YtkbfhgcjimfgkaaDoorPick
set_option linter.unusedVariables false
set_option linter.unusedSimpArgs false
namespace Go.Proofs.YtkbfhgcjimfgkaaDoor
open Go.RowKit

/-- the rune that letters makes of a byte -/
def lt (c : Nat) : Nat := if c % 8 = 6 then 224 + c / 8 else if c % 8 = 7 then 128512 + c / 8 else 97 + c / 8
def lets (s : Str) (most : Nat) : List Nat := (s.data.toList.take most).map fun c => lt c.toNat
def letters (s : Str) (most : Nat) : Str := Uni.enc (lets s most)
theorem lt_vr (c : Nat) (h : c < 256) : Uni.vr (lt c) := by
  unfold lt Uni.vr; (repeat' split) <;> omega
theorem take_next' (s : Str) (k : Nat) (h : k < s.size) : s.data.toList.take (k + 1) = s.data.toList.take k ++ [s[k]] := by
  rw [List.take_succ_eq_append_getElem (by simpa using h)]; rfl
theorem lets_vr (s : Str) (m : Nat) : ∀ r ∈ lets s m, Uni.vr r := by
  intro r hr
  simp only [lets, List.mem_map] at hr
  obtain ⟨c, _, rfl⟩ := hr
  exact lt_vr _ c.toNat_lt
theorem lets_len (s : Str) (m : Nat) : (lets s m).length = min m s.size := by
  simp [lets]
theorem rc_enc (rs : List Nat) (h : ∀ r ∈ rs, Uni.vr r) : rc (Uni.enc rs) = rs.length := by
  unfold rc Uni.enc
  rw [Uni.count_dec]
  simp only
  rw [Uni.dec_enc_all rs h]
theorem valid_enc (rs : List Nat) (h : ∀ r ∈ rs, Uni.vr r) : valid (Uni.enc rs) = true := by
  unfold valid Uni.enc
  exact Uni.valid_encL rs h
theorem encL_size (rs : List Nat) (h : ∀ r ∈ rs, Uni.vr r) : (Uni.encL rs).length ≤ rs.length * 4 := by
  induction rs with
  | nil => simp [Uni.encL]
  | cons r rs ih =>
    rw [Uni.encL_cons, List.length_append, List.length_cons]
    have h1 := Uni.encR_len r (h r (by simp))
    have h2 := ih fun x hx => h x (by simp [hx])
    omega
theorem enc_size (rs : List Nat) (h : ∀ r ∈ rs, Uni.vr r) : (Uni.enc rs).size ≤ rs.length * 4 := by
  have := encL_size rs h
  show (Uni.encL rs).toArray.size ≤ _
  simpa using this
set_option maxRecDepth 100000 in
/-- the walk's own word for the bytes of runes -/
theorem runesBytes_enc (rs : List Nat) : runesBytes (rs.map fun r : Nat => (r : Int)) = Uni.enc rs := by
  have key : ∀ (rs : List Nat) (s : ByteArray), (rs.map fun r : Nat => (r : Int)).foldl (fun s n => s ++ Utf8.encode n) s = s ++ Uni.enc rs := by
    intro rs
    induction rs with
    | nil => intro s; apply ByteArray.ext; simp [Uni.enc, Uni.encL]
    | cons r rs ih =>
      intro s
      simp only [List.map_cons, List.foldl_cons]
      rw [ih]
      apply ByteArray.ext
      apply Array.ext'
      simp [Uni.enc, Uni.encL_cons, Uni.encR, ByteArray.data_append]
  unfold runesBytes
  rw [key]
  apply ByteArray.ext
  simp

theorem infoR : (Tryd.prog.info? 21).map (fun i => (i.zero, i.size, i.bytes)) = some (some (.int .i32 0), 1, 4) := by kernel_rfl

set_option maxHeartbeats 400000 in
theorem runes_any (s : Str) (w : World) (hs : s.size ≤ 70368744177664) :
    Calls Tryd.prog 18 #[.string s] w fun e w' => e = .returned (.int .i64 (rc s)) ∧ Below w.heap.size w w' := by
  have hcv := fun W : World => run_runes_of_string (P := Tryd.prog) W 9 86 21 s Tryd.underlying9 Tryd.underlying86 Tryd.underlying21
    (by have h := Uni.runesFrom_dec s s.size 0 #[]; rw [h]; have h2 := Uni.count_dec s; have h3 := Lib.runeCount_le s; simp only [List.drop_zero]; simp [Uni.dec] at h2 ⊢; omega)
  have hlen : (Conv.runesFrom s s.size 0 #[]).size = Lib.runeCount s := by
    rw [Uni.runesFrom_dec, Uni.count_dec]; simp [Uni.dec]
  rw [hlen] at hcv
  have Hl := Lib.hid hlen
  clear hlen
  generalize Conv.runesFrom s s.size 0 #[] = R at *
  unfold rc
  generalize Lib.runeCount s = k at *
  go_enter Tryd.func18, Tryd.ntmps18
  go_wp2_with fail
  go_ret
  exact ⟨rfl, by (repeat (first | exact Below.refl _ _ | assumption | (refine Below.drew ?_) | (refine below_drewN ?_ _) | (refine Below.alloc ?_ (by first | (simp; done) | (simp; omega) | omega) _) | (refine Below.setCell ?_ (by first | (simp; done) | (simp; omega) | omega) _) | (refine Below.trans ?_ (Below.mono (by assumption) (by first | (simp; done) | (simp; omega) | omega)))))⟩

theorem lets_next (s : Str) (k : Nat) (h : k < s.size) : lets s (k + 1) = lets s k ++ [lt s[k].toNat] := by
  unfold lets
  rw [take_next' s k h, List.map_append]; rfl
/-- runes in a row of the call's own, as a string -/
theorem conv_own {W : World} {B k c : Nat} {a : Option Addr} {rs : List Nat} (h : W.ownsRow B 21 1 (.slice a k c) k (rs.map fun r : Nat => .int .i32 (r : Int))) :
    (convert 86 9 (.slice a k c)).run Tryd.prog W = .ok (.string (Uni.enc rs)) W := by
  have hk : rs.length = k := by have := h.1; simpa using this
  rcases h.2 with ⟨hv, h0⟩ | ⟨g, cap, cur, hv, _⟩
  · have h1 : a = none := (Value.slice.injEq .. ▸ hv : a = none ∧ k = 0 ∧ c = 0).1
    subst h1
    have hr : rs = [] := List.eq_nil_of_length_eq_zero (by omega)
    subst hr
    have e : Uni.enc [] = ByteArray.empty := rfl
    rw [e]
    exact run_convert_runes_nil W _ _ _ _ _ Tryd.underlying86 Tryd.underlying21 Tryd.underlying9
  · have hc := h.cells (g := g) (by rw [hv]; rfl)
    have h1 : a = some ⟨g, 0, none⟩ := (Value.slice.injEq .. ▸ hv : a = some ⟨g, 0, none⟩ ∧ k = k ∧ c = cap).1
    subst h1
    have hz : ∀ j, j < (rs.map fun r : Nat => (r : Int)).length → W.cell? ((⟨g, 0, none⟩ : Addr).add j) = some (.int .i32 ((rs.map fun r : Nat => (r : Int)).getD j 0)) := by
      intro j hj
      refine hc j _ ?_
      simp only [List.length_map] at hj
      simp [List.getD, List.getElem?_eq_getElem hj]
    have hr := run_convert_runes W _ _ _ _ k c (rs.map fun r : Nat => (r : Int)) (by simp; omega) Tryd.underlying86 Tryd.underlying21 Tryd.underlying9 hz
    rw [List.take_of_length_le (by simp; omega), runesBytes_enc] at hr
    exact hr

set_option maxRecDepth 100000 in
set_option maxHeartbeats 2000000 in
theorem letters_any (s : Str) (m : Nat) (w : World) (hs : s.size ≤ maxLen) (hm : m ≤ 1000000) :
    Calls Tryd.prog 13 #[.string s, .int .i64 m] w fun e w' => e = .returned (.string (letters s m)) ∧ Below w.heap.size w w' := by
  obtain ⟨i0, hi, hz0, hz1, hz2⟩ := info_parts infoR
  unfold maxLen at hs
  go_enter Tryd.func13, Tryd.ntmps13
  go_wp2_with fail
  go_loopw [5, 6] (fun v i wr => ∃ k : Nat, k ≤ s.size ∧ k ≤ m ∧ i = .int .i64 k ∧ wr.ownsRow w.heap.size 21 1 v k ((lets s k).map fun r : Nat => .int .i32 (r : Int)) ∧ Below w.heap.size w wr) (fun _ i _ => s.size - (intOf i).toNat)
  case atStart => exact ⟨0, by omega, by omega, rfl, World.ownsRow_nil _ _ _ _, Below.refl _ _⟩
  case round =>
    obtain ⟨k, hk, hkm, rfl, hown, hb⟩ := hrel
    obtain ⟨ta, tc, rfl⟩ : ∃ ta tc, u5 = .slice ta k tc := by
      rcases hown.2 with ⟨h, h0⟩ | ⟨g, cap, cur, hv, _⟩
      · exact ⟨none, 0, by rw [h, h0]⟩
      · exact ⟨_, _, hv⟩
    by_cases hgo : k < s.size ∧ k < m
    · obtain ⟨hlt, hltm⟩ := hgo
      have hnx := lets_next s k hlt
      have Hb8 := Lib.hid s[k].toNat_lt
      have Hnx := Lib.hid hnx
      clear hnx
      by_cases h6 : s[k].toNat % 8 = 6
      · have b6 : ((s[k].toNat : Int) % 8 == 6) = true := by simp; omega
        have Hval : Hid ( 224 + (s[k].toNat : Int) / 8 % 256 = ((lt s[k].toNat : Nat) : Int) ) := by unfold Hid; have h8 := Hb8.out; unfold lt; rw [if_pos h6]; omega
        clear h6
        go_wp2_with (at_builtin; refine wpList_append_own _ rfl _ _ 86 rfl w.heap.size 21 i0 (.int .i32 0) 1 4 Tryd.underlying86 hi hz0 hz1 hz2 rfl (by decide) _ _ _ rfl (hown.alloc _) ⟨wr.heap.size, 0, none⟩ 1 1 [.int .i32 (224 + (s[k].toNat : Int) / 8 % 256)] rfl rfl ?c1 ?c2 ?c3 ?c4 ?c5 ?_)
        case c1 => exact cell_one_new _ _ _
        case c2 => intro u hu; simp at hu; subst hu; rfl
        case c3 => unfold maxLen; omega
        case c4 => omega
        case c5 => have := hb.size; simp; omega
        intro v' w1 hown' hgrow _
        go_wp2
        go_roundw
        case rel =>
          refine ⟨k + 1, by omega, by omega, by go_num, ?_, ?_⟩
          · rw [Hnx.out, List.map_append, List.map_cons, List.map_nil, ← Hval.out]; exact hown'
          · exact (hb.alloc hb.size _).grown hgrow (by have := hb.size; simp; omega) (fun g hg => (hown.lt g hg).1)
        case measure => simp [intOf]; omega
      · by_cases h7 : s[k].toNat % 8 = 7
        · have b6 : ((s[k].toNat : Int) % 8 == 6) = false := by simp; omega
          have b7 : ((s[k].toNat : Int) % 8 == 7) = true := by simp; omega
          have Hval : Hid ( 128512 + (s[k].toNat : Int) / 8 % 256 = ((lt s[k].toNat : Nat) : Int) ) := by unfold Hid; have h8 := Hb8.out; unfold lt; rw [if_neg h6, if_pos h7]; omega
          clear h6 h7
          go_wp2_with (at_builtin; refine wpList_append_own _ rfl _ _ 86 rfl w.heap.size 21 i0 (.int .i32 0) 1 4 Tryd.underlying86 hi hz0 hz1 hz2 rfl (by decide) _ _ _ rfl (hown.alloc _) ⟨wr.heap.size, 0, none⟩ 1 1 [.int .i32 (128512 + (s[k].toNat : Int) / 8 % 256)] rfl rfl ?c1 ?c2 ?c3 ?c4 ?c5 ?_)
          case c1 => exact cell_one_new _ _ _
          case c2 => intro u hu; simp at hu; subst hu; rfl
          case c3 => unfold maxLen; omega
          case c4 => omega
          case c5 => have := hb.size; simp; omega
          intro v' w1 hown' hgrow _
          go_wp2
          go_roundw
          case rel =>
            refine ⟨k + 1, by omega, by omega, by go_num, ?_, ?_⟩
            · rw [Hnx.out, List.map_append, List.map_cons, List.map_nil, ← Hval.out]; exact hown'
            · exact (hb.alloc hb.size _).grown hgrow (by have := hb.size; simp; omega) (fun g hg => (hown.lt g hg).1)
          case measure => simp [intOf]; omega
        · have b6 : ((s[k].toNat : Int) % 8 == 6) = false := by simp; omega
          have b7 : ((s[k].toNat : Int) % 8 == 7) = false := by simp; omega
          have Hval : Hid ( 97 + (s[k].toNat : Int) / 8 % 256 = ((lt s[k].toNat : Nat) : Int) ) := by unfold Hid; have h8 := Hb8.out; unfold lt; rw [if_neg h6, if_neg h7]; omega
          clear h6 h7
          go_wp2_with (at_builtin; refine wpList_append_own _ rfl _ _ 86 rfl w.heap.size 21 i0 (.int .i32 0) 1 4 Tryd.underlying86 hi hz0 hz1 hz2 rfl (by decide) _ _ _ rfl (hown.alloc _) ⟨wr.heap.size, 0, none⟩ 1 1 [.int .i32 (97 + (s[k].toNat : Int) / 8 % 256)] rfl rfl ?c1 ?c2 ?c3 ?c4 ?c5 ?_)
          case c1 => exact cell_one_new _ _ _
          case c2 => intro u hu; simp at hu; subst hu; rfl
          case c3 => unfold maxLen; omega
          case c4 => omega
          case c5 => have := hb.size; simp; omega
          intro v' w1 hown' hgrow _
          go_wp2
          go_roundw
          case rel =>
            refine ⟨k + 1, by omega, by omega, by go_num, ?_, ?_⟩
            · rw [Hnx.out, List.map_append, List.map_cons, List.map_nil, ← Hval.out]; exact hown'
            · exact (hb.alloc hb.size _).grown hgrow (by have := hb.size; simp; omega) (fun g hg => (hown.lt g hg).1)
          case measure => simp [intOf]; omega
    · have hk2 : k = min m s.size := by omega
      have hfin : lets s k = lets s m := by
        unfold lets
        rw [hk2, List.take_eq_take_iff.2]
        have : s.data.toList.length = s.size := by simp
        omega
      rw [hfin] at hown
      have hcv := conv_own hown
      have Hfin : Hid (Ending.returned (.string (Uni.enc (lets s m))) = Ending.returned (.string (letters s m))) := rfl
      clear hfin hown hk2
      generalize Uni.enc (lets s m) = T at *
      by_cases hlt : k < s.size
      · have hltm : ¬ k < m := fun h => hgo ⟨hlt, h⟩
        clear hgo
        go_wp2_with fail
        go_ret
        exact ⟨Hfin.out, hb⟩
      · clear hgo
        go_wp2_with fail
        go_ret
        exact ⟨Hfin.out, hb⟩
end Go.Proofs.YtkbfhgcjimfgkaaDoor
