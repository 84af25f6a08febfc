/- The walks of wherrykeep.Tree, node.CheckTree. -/
import Derived.Test.YtkbfhgcjimfgkaaDoorPick
set_option linter.unusedVariables false
set_option linter.unusedSimpArgs false
namespace Go.Proofs.YtkbfhgcjimfgkaaDoor
open Go.RowKit

/-- one element of a slice of ints -/
theorem RdS.int {A : Nat → Prop} {w : World} {l : List Int} {a : Option Addr} {n c : Nat} (hr : RdS A w l a n c) (hn : 0 < n) :
    ∃ b off, a = some ⟨b, off, none⟩ ∧ A b ∧ b < w.heap.size ∧ ∀ i (h : i < l.length), I64 l[i] ∧ w.cell? ⟨b, off + i, none⟩ = some (.int .i64 l[i]) := by
  obtain ⟨b, off, e, hA, hb, he⟩ := hr.2.2.2.2 hn
  refine ⟨b, off, e, hA, hb, fun i h => ?_⟩
  obtain ⟨xs, ⟨rfl, h1⟩, h4⟩ := he i l[i] (List.getElem?_eq_getElem h)
  have h5 := h4 0 _ rfl
  refine ⟨h1, ?_⟩
  simpa [Rep.n] using h5

def okAt (i : Nat) (p : Int) : Prop := (i = 0 → p = -1) ∧ (0 < i → 0 ≤ p ∧ p < i)
instance (i : Nat) (p : Int) : Decidable (okAt i p) := by unfold okAt; infer_instance
def okTree (l : List Int) : Prop := ∀ i (h : i < l.length), okAt i l[i]
instance (l : List Int) : Decidable (okTree l) := by unfold okTree; infer_instance
def checkTree (l : List Int) : Int := if l.length < 1 ∨ 7 < l.length then 1 else if okTree l then 0 else 4

set_option maxHeartbeats 1000000 in
set_option maxRecDepth 100000 in
theorem checkTree_any (A : Nat → Prop) (a : Option Addr) (n c : Nat) (l : List Int) (w : World) (hr : RdS A w l a n c) :
    Calls Tryd.prog 24 #[.slice a n c] w fun e w' => e = .returned (.int .i64 (checkTree l)) ∧ w = w' := by
  have hl : n = l.length := hr.1
  have hnm : n ≤ maxLen := by have h1 := hr.2.1; have h2 := hr.2.2.1; omega
  unfold maxLen at hnm
  by_cases h1 : l.length < 1 ∨ 7 < l.length
  · have hfin : checkTree l = 1 := by rw [checkTree, if_pos h1]
    rw [hfin]
    clear hfin
    rcases h1 with h1 | h1
    all_goals
      rw [← hl] at h1
      clear hl
      go_enter Tryd.func24, Tryd.ntmps24
      go_wp2
      go_ret
      exact ⟨rfl, rfl⟩
  · obtain ⟨b, off, rfl, _, _, hc⟩ := hr.int (by omega)
    have h2 : 1 ≤ n := by omega
    have h3 : n ≤ 7 := by omega
    have HF : Hid (checkTree l = if okTree l then 0 else 4) := by unfold Hid; rw [checkTree, if_neg h1]
    have Hl := Lib.hid hl
    have Hc := Lib.hid hc
    clear hl h1 hc hr
    go_enter Tryd.func24, Tryd.ntmps24
    go_wp2
    go_loop [15] (fun i => ∃ k : Nat, k ≤ n ∧ i = .int .i64 k ∧ ∀ i (h : i < l.length), i < k → okAt i l[i]) (fun i => n - (intOf i).toNat)
    case atStart => exact ⟨0, by omega, rfl, fun i _ hi => absurd hi (by omega)⟩
    case round =>
      obtain ⟨k, hk, rfl, hall⟩ := hrel
      have HA := Lib.hid hall
      clear hall
      by_cases hlt : k < n
      · have hkl : k < l.length := by have := Hl.out; omega
        obtain ⟨_, hcell⟩ := Hc.out k hkl
        have Hnext : Hid (okAt k l[k] → ∀ i (h : i < l.length), i < k + 1 → okAt i l[i]) := by
          unfold Hid; intro h0 i hi hlt2
          by_cases he : i = k
          · subst he; exact h0
          · exact HA.out i hi (by omega)
        have Hbad : Hid (¬ okAt k l[k] → checkTree l = 4) := by
          unfold Hid; intro h0
          rw [HF.out, if_neg (fun h => h0 (h k hkl))]
        generalize l[k] = p at *
        by_cases hok : okAt k p
        · have Hn := Lib.hid (Hnext.out hok)
          clear Hnext Hbad HF HA
          rcases Nat.eq_zero_or_pos k with h0 | h0
          · obtain rfl := hok.1 h0
            subst h0
            clear hok
            simp only [Nat.add_zero] at hcell
            go_wp2
            go_round
            case rel => exact ⟨1, by omega, by go_num, Hn.out⟩
            case measure => simp [intOf]; omega
          · obtain ⟨g1, g2⟩ := hok.2 h0
            have hk0 : ((k : Int) == 0) = false := by simp; omega
            clear hok
            go_wp2
            go_round
            case rel => exact ⟨k + 1, by omega, by go_num, Hn.out⟩
            case measure => simp [intOf]; omega
        · have Hb := Lib.hid (Hbad.out hok)
          clear Hnext Hbad HF HA
          have hok' := hok
          unfold okAt at hok'
          rcases Nat.eq_zero_or_pos k with h0 | h0
          · subst h0
            have hp : (p != -1) = true := by simp; intro h; exact hok' ⟨fun _ => h, fun h => absurd h (by omega)⟩
            clear hok hok'
            simp only [Nat.add_zero] at hcell
            go_wp2
            go_ret
            exact ⟨ret_int Hb.out.symm, rfl⟩
          · have hk0 : ((k : Int) == 0) = false := by simp; omega
            have hp : p < 0 ∨ (k : Int) ≤ p := by
              by_cases h : p < 0
              · exact .inl h
              · by_cases h' : (k : Int) ≤ p
                · exact .inr h'
                · exact absurd ⟨fun h => absurd h (by omega), fun _ => ⟨by omega, by omega⟩⟩ hok'
            clear hok hok'
            rcases hp with hp | hp
            · go_wp2
              go_ret
              exact ⟨ret_int Hb.out.symm, rfl⟩
            · go_wp2
              go_ret
              exact ⟨ret_int Hb.out.symm, rfl⟩
      · have hfin : checkTree l = 0 := by
          rw [HF.out, if_pos]
          intro i hi
          exact HA.out i hi (by have := Hl.out; omega)
        have HFF := Lib.hid hfin
        clear hfin HF HA
        go_wp2
        go_ret
        exact ⟨ret_int HFF.out.symm, rfl⟩

/-- the tree of raw numbers: so many rounds -/
def treeTo (l : List Int) : Nat → List Int
  | 0 => [-1]
  | k + 1 => treeTo l k ++ [pk (l.getD k 0) (k + 1)]
def tree (l : List Int) : List Int := treeTo l (min l.length 6)
theorem treeTo_len (l : List Int) (k : Nat) : (treeTo l k).length = k + 1 := by
  induction k with
  | zero => rfl
  | succ k ih => simp [treeTo, ih]
theorem treeTo_ok (l : List Int) (k : Nat) : okTree (treeTo l k) := by
  induction k with
  | zero =>
    intro i hi
    simp only [treeTo, List.length_cons, List.length_nil] at hi
    obtain rfl : i = 0 := by omega
    exact ⟨fun _ => rfl, fun h => absurd h (by omega)⟩
  | succ k ih =>
    intro i hi
    have hl := treeTo_len l k
    simp only [treeTo] at hi ⊢
    rcases Nat.lt_or_ge i (treeTo l k).length with h | h
    · rw [List.getElem_append_left h]
      exact ih i h
    · rw [List.getElem_append_right h]
      rw [List.length_append, List.length_cons, List.length_nil] at hi
      obtain rfl : i = k + 1 := by omega
      have := pk_range (l.getD k 0) (k + 1) (by omega)
      simp only [List.getElem_singleton]
      exact ⟨fun h => absurd h (by omega), fun _ => by push_cast; exact this⟩

/-- rows of the call's own, read as a list of numbers -/
theorem RdS.of_ownI {w : World} {base : Nat} {e : TypeId} {l : List Int} {v : Value} (hown : w.ownsRow base e 1 v l.length (l.map (.int .i64))) (h64 : ∀ x ∈ l, I64 x) (A : Nat → Prop) (hA : ∀ b, v.ownBlock = some b → A b) :
    ∃ a n c, v = .slice a n c ∧ RdS A w l a n c :=
  RdS.of_row (α := Int) hown hA fun i x hx => ⟨[.int .i64 x], ⟨rfl, h64 x (List.mem_of_getElem? hx)⟩, fun j u hu => by
    match j, hu with
    | 0, hu =>
      simp at hu
      simp only [Rep.n, Nat.mul_one, Nat.add_zero]
      rw [List.getElem?_map, hx, ← hu]; rfl⟩

theorem info3 : (Tryd.prog.info? 3).map (fun i => (i.zero, i.size, i.bytes)) = some (some (.int .i64 0), 1, 8) := by kernel_rfl

set_option maxHeartbeats 1000000 in
set_option maxRecDepth 100000 in
theorem tree_any (A : Nat → Prop) (a : Option Addr) (n c : Nat) (l : List Int) (w : World) (hA : ∀ b, A b → b < w.heap.size) (hr : RdS A w l a n c) :
    Calls Tryd.prog 10 #[.slice a n c] w fun e w' => ∃ v, e = .returned v ∧ w'.ownsRow w.heap.size 3 1 v (tree l).length ((tree l).map (.int .i64)) ∧ Below w.heap.size w w' := by
  have hl : n = l.length := hr.1
  have hnm : n ≤ maxLen := by have h1 := hr.2.1; have h2 := hr.2.2.1; omega
  unfold maxLen at hnm
  obtain ⟨i0, hi, hz0, hz1, hz2⟩ := info_parts info3
  have Hl := Lib.hid hl
  have Hr := Lib.hid hr
  clear hl hr
  go_enter Tryd.func10, Tryd.ntmps10
  go_wp2
  go_loopw [3, 4] (fun t i wr => ∃ k : Nat, k ≤ n ∧ k ≤ 6 ∧ i = .int .i64 k ∧ wr.ownsRow w.heap.size 3 1 t (k + 1) ((treeTo l k).map (.int .i64)) ∧ Below w.heap.size w wr) (fun _ i _ => n - (intOf i).toNat)
  case atStart =>
    refine ⟨0, by omega, by omega, rfl, ?_, by (repeat (first | exact Below.refl _ _ | assumption | (refine Below.drew ?_) | (refine below_drewN ?_ _) | (refine Below.alloc ?_ (by first | (simp; done) | (simp; omega) | omega) _) | (refine Below.setCell ?_ (by first | (simp; done) | (simp; omega) | omega) _) | (refine Below.trans ?_ (Below.mono (by assumption) (by first | (simp; done) | (simp; omega) | omega)))))⟩
    exact ⟨rfl, .inr ⟨w.heap.size, 1, #[.int .i64 (-1)], rfl, Nat.le_refl _, heap_alloc_new w _, Nat.le_refl _, by unfold maxLen; omega, rfl, rfl⟩⟩
  case round =>
    obtain ⟨k, hk, hk6, rfl, hown, hb⟩ := hrel
    by_cases hgo : k < n ∧ k < 6
    · obtain ⟨hlt, hlt6⟩ := hgo
      obtain ⟨b, off, rfl, hAb, hbl, hc⟩ := Hr.out.int (by omega)
      have hkl : k < l.length := by have := Hl.out; omega
      obtain ⟨hx64, hcell⟩ := hc k hkl
      clear hc
      have hwb := hA b hAb
      obtain ⟨hcb, hfb⟩ := bcell hb
      have hbz := hb.size
      have Hto : Hid (treeTo l (k + 1) = treeTo l k ++ [pk l[k] (k + 1)]) := by unfold Hid; simp [treeTo, List.getD, List.getElem?_eq_getElem hkl]
      have hpr := pk_range l[k] (k + 1) (by omega)
      generalize l[k] = x at *
      obtain ⟨ta, tc, rfl⟩ : ∃ ta tc, u3 = .slice ta (k + 1) tc := by
        rcases hown.2 with ⟨_, h0⟩ | ⟨g, cap, cur, hv, _⟩
        · omega
        · exact ⟨_, _, hv⟩
      have hpick := fun W => picked_any x (k + 1) W hx64 (by omega) (by omega)
      have Hpick := Lib.hid hpick
      clear hpick
      generalize pk x (k + 1) = q at *
      go_wp2_with fail
      refine (Hpick.out _).mono ?_
      rintro e w1 ⟨rfl, rfl⟩
      go_wp2_with (at_builtin; refine wpList_append_own _ rfl _ _ 23 rfl w.heap.size 3 i0 (.int .i64 0) 1 8 Tryd.underlying23 hi hz0 hz1 hz2 rfl (by decide) _ _ _ rfl (hown.alloc _) ⟨wr.heap.size, 0, none⟩ 1 1 [.int .i64 q] rfl rfl ?c1 ?c2 ?c3 ?c4 ?c5 ?_)
      case c1 => exact cell_one_new _ _ _
      case c2 => intro u hu; simp at hu; subst hu; rfl
      case c3 => unfold maxLen; omega
      case c4 => omega
      case c5 => simp; omega
      intro v' w1 hown' hgrow _
      go_wp2
      go_roundw
      case rel =>
        refine ⟨k + 1, by omega, by omega, by go_num, ?_, ?_⟩
        · rw [Hto.out, List.map_append]; exact hown'
        · exact (hb.alloc hbz _).grown hgrow (by simp; omega) (fun g hg => (hown.lt g hg).1)
      case measure => simp [intOf]; omega
    · have hfin : treeTo l k = tree l := by unfold tree; have := Hl.out; congr 1; omega
      rw [hfin] at hown
      have hlen : (tree l).length = k + 1 := by rw [← hfin, treeTo_len]
      rw [← hlen] at hown
      clear hfin hlen
      have Hown := Lib.hid hown
      clear hown
      by_cases hlt : k < n
      · have h6 : ¬ k < 6 := fun h => hgo ⟨hlt, h⟩
        clear hgo
        go_wp2
        go_ret
        exact ⟨_, rfl, Hown.out, hb⟩
      · clear hgo
        go_wp2
        go_ret
        exact ⟨_, rfl, Hown.out, hb⟩
end Go.Proofs.YtkbfhgcjimfgkaaDoor
