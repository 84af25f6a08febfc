/- TreeBad returns true for every input. No condition. -/
import Derived.Test.YtndclmjpjcilmaaTree
import Derived.Test.YtndclmjpjcilmaaLaw
namespace Go.Proofs.Ytndclmjpjcilmaa
open Go.RowKit Go.ChangeShapes Go.WideShapes Go.ChangeAt

theorem set_ok (l : List Int) (k : Nat) (v : Int) (hk : k < l.length) (hl : okTree l) (hlen : l.length ≤ 7) : checkTree (l.set k v) = if okAt k v then 0 else 4 := by
  unfold checkTree
  rw [List.length_set, if_neg (by omega)]
  by_cases h : okAt k v
  · rw [if_pos h, if_pos]
    intro i hi
    rw [List.getElem_set]
    split
    · rename_i e; rw [← e]; exact h
    · exact hl i (by simpa using hi)
  · rw [if_neg h, if_neg]
    intro h2
    have h3 := h2 k (by simpa using hk)
    rw [List.getElem_set_self] at h3
    exact h h3
theorem tree_len (l : List Int) : 1 ≤ (tree l).length ∧ (tree l).length ≤ 7 := by
  unfold tree; rw [treeTo_len]; omega
theorem tree_ok (l : List Int) : checkTree (tree l) = 0 := by
  have := tree_len l
  unfold checkTree
  rw [if_neg (by omega)]; exact if_pos (treeTo_ok _ _)
theorem treeTo_64 (l : List Int) (k : Nat) (hk : k ≤ 6) : ∀ x ∈ treeTo l k, I64 x := by
  intro x hx
  obtain ⟨i, hi, rfl⟩ := List.getElem_of_mem hx
  have h := treeTo_ok l k i hi
  rw [treeTo_len] at hi
  unfold I64
  rcases Nat.eq_zero_or_pos i with h0 | h0
  · have := h.1 h0; omega
  · have := h.2 h0; omega
theorem tree_64 (l : List Int) : ∀ x ∈ tree l, I64 x := treeTo_64 l _ (by omega)
theorem checkTree_nil : checkTree [] = 1 := rfl

set_option maxHeartbeats 2000000 in
theorem treeBad_walk (a : Option Addr) (n c : Nat) (l : List Int) (at_ p : Int) (w : World) (hr : RdS (· < w.heap.size) w l a n c) (hat : I64 at_) (hp : I64 p) :
    Calls Try.prog 3 #[.slice a n c, .int .i64 at_, .int .i64 p] w fun e w' => e = .returned (.bool true) ∧ Below w.heap.size w w' := by
  have Htree := Lib.hid (tree_any _ a n c l w (fun _ h => h) hr)
  clear hr
  have hln := tree_len l
  have hok := tree_ok l
  have h64 := tree_64 l
  have hset := fun k v hk => set_ok (tree l) k v hk (treeTo_ok l _) hln.2
  have hpa := pk_range at_ (tree l).length (by omega)
  have hpp := pk_range p 12 (by omega)
  have Hpa := Lib.hid (fun W => picked_any at_ (tree l).length W hat (by omega) (by omega))
  have Hpp := Lib.hid (fun W => picked_any p 12 W hp (by omega) (by omega))
  generalize tree l = T at *
  generalize pk p 12 = q at *
  obtain ⟨k, hk⟩ := Int.eq_ofNat_of_zero_le hpa.1
  rw [hk] at hpa Hpa
  clear hk
  have hset2 := hset k (q - 2) (by omega)
  clear hset
  have Hset := Lib.hid hset2
  have Hok := Lib.hid hok
  have H64 := Lib.hid h64
  clear hok h64 hset2 hat hp
  obtain ⟨i0, hi, hz0, hz1, hz2⟩ := info_parts info3
  go_enter Try.func3, Try.ntmps3
  go_wp2_with fail
  refine Htree.out.mono ?_
  rintro e w1 ⟨v, rfl, hown, hb1⟩
  obtain ⟨g, tc, rfl, hg⟩ : ∃ g tc, v = .slice (some ⟨g, 0, none⟩) T.length tc ∧ w.heap.size ≤ g := by
    rcases hown.2 with ⟨_, h0⟩ | ⟨g, cap, cur, hv, hg, _⟩
    · omega
    · exact ⟨g, cap, hv, hg⟩
  go_wp2_with fail
  refine (Hpa.out _).mono ?_
  rintro e w2 ⟨rfl, rfl⟩
  go_wp2_with fail
  refine (Hpp.out _).mono ?_
  rintro e w2 ⟨rfl, rfl⟩
  have hsz := hb1.size
  go_wp2_with (at_builtin; refine wpList_append_own _ rfl _ _ 23 rfl w1.heap.size 3 i0 (.int .i64 0) 1 8 Try.underlying23 hi hz0 hz1 hz2 rfl (by decide) _ _ _ rfl (World.ownsRow_nil _ _ _ _) ⟨g, 0, none⟩ T.length tc (T.map (.int .i64)) rfl (by simp) ?c1 ?c2 ?c3 ?c4 ?c5 ?_)
  case c1 => exact hown.cells rfl
  case c2 => intro u hu; simp at hu; obtain ⟨x, _, rfl⟩ := hu; rfl
  case c3 => unfold maxLen; omega
  case c4 => omega
  case c5 => omega
  intro v' w2 hown' hgrow _
  obtain ⟨g', tc', rfl, hg'⟩ : ∃ g' tc', v' = .slice (some ⟨g', 0, none⟩) T.length tc' ∧ w1.heap.size ≤ g' := by
    rcases hown'.2 with ⟨_, h0⟩ | ⟨g, cap, cur, hv, hg, _⟩
    · omega
    · exact ⟨g, cap, hv, hg⟩
  have hkeep := hown.kept hgrow (.inr (by simp [Value.ownBlock]))
  have hb2 : Below w.heap.size w w2 := hb1.grown hgrow hsz (fun b hb => by simp [Value.ownBlock] at hb)
  obtain ⟨hst, hgs⟩ := hown'.stored k (.int .i64 (q - 2))
  have hkT : k < T.length := by omega
  have hcell : w2.cell? ⟨g', k, none⟩ = some (.int .i64 (T.getD k 0)) := by
    rw [hown'.cellAt k (by omega)]; simp [List.getD, hkT]
  have hfz : w2.frozen? ⟨g', k, none⟩ = false := hown'.frozenAt k
  have hb3 : Below w.heap.size w (w2.setCell ⟨g', k, none⟩ (.int .i64 (q - 2))) := hb2.setCell (p := ⟨g', k, none⟩) (by show w.heap.size ≤ g'; omega) _
  have hkeep3 := hkeep.kept hgs (.inr (by simp [Value.ownBlock]; have := hown.lt g rfl; omega))
  have hst2 : (w2.setCell ⟨g', k, none⟩ (.int .i64 (q - 2))).ownsRow w1.heap.size 3 1 (.slice (some ⟨g', 0, none⟩) (T.set k (q - 2)).length tc') (T.set k (q - 2)).length ((T.set k (q - 2)).map (.int .i64)) := by
    rw [List.length_set, List.map_set]; exact hst
  have H64b : ∀ x ∈ T.set k (q - 2), I64 x := by
    intro x hx
    rcases List.mem_or_eq_of_mem_set hx with h | rfl
    · exact H64.out x h
    · unfold I64; omega
  obtain ⟨_, _, _, e1, hrd1⟩ := RdS.of_own hkeep3 H64.out (fun _ => True) (fun _ _ => trivial)
  obtain ⟨_, _, _, e2, hrd2⟩ := RdS.of_own hst2 H64b (fun _ => True) (fun _ _ => trivial)
  cases e1; cases e2
  have hc1 := checkTree_any _ _ _ _ _ _ hrd1
  have hc2 := checkTree_any _ _ _ _ _ _ hrd2
  have hc3 := checkTree_any (fun _ => True) none 0 0 [] (w2.setCell ⟨g', k, none⟩ (.int .i64 (q - 2))) ⟨rfl, by omega, by unfold maxLen; omega, fun _ => rfl, fun h => absurd h (by omega)⟩
  rw [Hok.out] at hc1
  rw [Hset.out, List.length_set] at hc2
  rw [checkTree_nil] at hc3
  have Hb3 := Lib.hid hb3
  clear hkeep hkeep3 hst hst2 hrd1 hrd2 H64b hgrow hown hown' hgs hb1 hb2 hb3 Hset Hok H64 Hpa Hpp Htree hi hz0 hz1 hz2
  generalize q - 2 = m at *
  have Hc1 := Lib.hid hc1
  have Hc3 := Lib.hid hc3
  clear hc1 hc3
  by_cases hok : okAt k m
  · rw [if_pos hok] at hc2
    have Hc2 := Lib.hid hc2
    clear hc2
    rcases Nat.eq_zero_or_pos k with h0 | h0
    · obtain rfl := hok.1 h0
      subst h0
      clear hok
      go_wp2_with fail
      refine (Hc2.out).mono ?_
      rintro e w4 ⟨rfl, rfl⟩
      go_wp2_with fail
      refine (Hc1.out).mono ?_
      rintro e w4 ⟨rfl, rfl⟩
      go_wp2_with fail
      refine (Hc3.out).mono ?_
      rintro e w4 ⟨rfl, rfl⟩
      go_wp2_with fail
      go_ret
      exact ⟨rfl, Hb3.out⟩

    · obtain ⟨m1, m2⟩ := hok.2 h0
      have hk0 : ((k : Int) == 0) = false := by simp; omega
      clear hok
      go_wp2_with fail
      refine (Hc2.out).mono ?_
      rintro e w4 ⟨rfl, rfl⟩
      go_wp2_with fail
      refine (Hc1.out).mono ?_
      rintro e w4 ⟨rfl, rfl⟩
      go_wp2_with fail
      refine (Hc3.out).mono ?_
      rintro e w4 ⟨rfl, rfl⟩
      go_wp2_with fail
      go_ret
      exact ⟨rfl, Hb3.out⟩

  · rw [if_neg hok] at hc2
    have Hc2 := Lib.hid hc2
    clear hc2
    rcases Nat.eq_zero_or_pos k with h0 | h0
    · subst h0
      have hm : (m == -1) = false := by simp; intro h; exact hok ⟨fun _ => h, fun h => absurd h (by omega)⟩
      clear hok
      go_wp2_with fail
      refine (Hc2.out).mono ?_
      rintro e w4 ⟨rfl, rfl⟩
      go_wp2_with fail
      refine (Hc1.out).mono ?_
      rintro e w4 ⟨rfl, rfl⟩
      go_wp2_with fail
      refine (Hc3.out).mono ?_
      rintro e w4 ⟨rfl, rfl⟩
      go_wp2_with fail
      go_ret
      exact ⟨rfl, Hb3.out⟩

    · have hk0 : ((k : Int) == 0) = false := by simp; omega
      by_cases hm : m < 0
      · clear hok
        go_wp2_with fail
        refine (Hc2.out).mono ?_
        rintro e w4 ⟨rfl, rfl⟩
        go_wp2_with fail
        refine (Hc1.out).mono ?_
        rintro e w4 ⟨rfl, rfl⟩
        go_wp2_with fail
        refine (Hc3.out).mono ?_
        rintro e w4 ⟨rfl, rfl⟩
        go_wp2_with fail
        go_ret
        exact ⟨rfl, Hb3.out⟩

      · have hm2 : (k : Int) ≤ m := by
          by_cases h' : (k : Int) ≤ m
          · exact h'
          · exact absurd ⟨fun h => absurd h (by omega), fun _ => ⟨by omega, by omega⟩⟩ hok
        have hd : decide (m < (k : Int)) = false := by simp; omega
        clear hok
        go_wp2_with fail
        refine (Hc2.out).mono ?_
        rintro e w4 ⟨rfl, rfl⟩
        go_wp2_with fail
        refine (Hc1.out).mono ?_
        rintro e w4 ⟨rfl, rfl⟩
        go_wp2_with fail
        refine (Hc3.out).mono ?_
        rintro e w4 ⟨rfl, rfl⟩
        go_wp2_with fail
        go_ret
        exact ⟨rfl, Hb3.out⟩


theorem params_ok : ∀ t ∈ Try.f3.params.toList, Try.prog.readableRec t = true ∧ t < Try.prog.types.size := by
  rw [Try.params3]
  intro t ht
  simp only [List.mem_cons, List.not_mem_nil, or_false] at ht
  rcases ht with rfl | rfl | rfl
  all_goals exact ⟨by kernel_rfl, of_decide_eq_true (by kernel_rfl)⟩

set_option maxRecDepth 100000 in
theorem lifted (os : Os) (started : os.Started) (H : Type) (enc : TypeId × Value → H) :
    ReturnsInHanded {} Try.checked os 3 .any (Rows.treeBadSpec.pre6 enc Try.prog Try.f3 Rows.treeBadRow.domain false) (Rows.treeBadSpec.post enc Try.prog Try.f3 false true false false) := by
  refine returnsInHanded_of_change (C := Try.checked) own started (by kernel_rfl) Try.func3
    (ChangeSpec.witness6 (enc := enc) (C := Try.checked) false ⟨#[], #[.slice none 0 0, .int .i64 0, .int .i64 0], []⟩ 8 (by kernel_rfl) (by kernel_rfl) (by kernel_rfl) (by kernel_rfl)) ?_
  intro W base args ds gs before hval0 hW _ _
  have hval : ∀ (j : Nat) t v, Try.f3.params[j]? = some t → args[j]? = some v → Value.okWide Try.prog W .any base t v := hval0
  have hW' := hW
  have hW2 := hW
  obtain ⟨p, q, hA0, hV, rfl, _, _⟩ := hW
  have hA : DataW.TrodAll enc Try.prog W 0 (fun _ => true) true Try.f3.params.toList args.toList ds p := hA0
  rw [Try.params3] at hA hval
  obtain ⟨v0, vs0, d0, ds0, p0, q0, hargs, rfl, rfl, h0, r0⟩ := trodAll_cons hA
  obtain ⟨v1, vs1, d1, ds1, p1, q1, rfl, rfl, rfl, h1, r1⟩ := trodAll_cons r0
  obtain ⟨v2, vs2, d2, ds2, p2, q2, rfl, rfl, rfl, h2, r2⟩ := trodAll_cons r1
  obtain ⟨rfl, rfl, rfl⟩ := trodAll_nil r2
  obtain rfl : args = #[v0, v1, v2] := by cases args; simp_all
  obtain ⟨a, n, c, l, rfl, hr⟩ := arg_ints (hval 0 _ v0 rfl rfl) h0
  obtain ⟨x, rfl, hx⟩ := arg_int (hval 1 _ v1 rfl rfl) h1
  obtain ⟨y, rfl, hy⟩ := arg_int (hval 2 _ v2 rfl rfl) h2
  refine (treeBad_walk a n c l x y W hr hx hy).mono fun e W' ⟨he, hb⟩ => ?_
  subst he
  exact ⟨_, rfl, law_post params_ok rfl rfl (by rintro _ rfl; exact ⟨rfl, rfl, rfl⟩) hW2 hb⟩

theorem treeBad_holds : Rows.TreeBadSaid :=
  OpenClaim.holds_of_wide 3 Try.f3 rfl rfl rfl rfl rfl rfl rfl ⟨rfl, rfl, rfl, rfl, rfl⟩ rfl rfl rfl rfl rfl (by kernel_rfl) Try.func3 (by kernel_rfl)
    (of_decide_eq_true (by kernel_rfl)) (by unfold Func.isWrapper; rw [if_neg (of_decide_eq_false (by kernel_rfl))]; exact ⟨rfl, rfl⟩)
    (fun os started H enc _ => lifted os started H enc)
end Go.Proofs.Ytndclmjpjcilmaa
