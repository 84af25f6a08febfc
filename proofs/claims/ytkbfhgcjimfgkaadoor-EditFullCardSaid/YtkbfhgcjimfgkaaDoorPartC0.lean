/- The walk of a turn's edit, where the operation fits the text. -/
import Derived.Test.YtkbfhgcjimfgkaaDoorPartA3
import Derived.Test.YtkbfhgcjimfgkaaDoorPartB9
import Derived.Test.YtkbfhgcjimfgkaaDoorPartA6
import Derived.Handy
import Derived.Deep.LoopGhost
import Derived.Outline
import Derived.Test.YtkbfhgcjimfgkaaDoorPartA4
set_option linter.unusedVariables false
set_option linter.unusedSimpArgs false
set_option linter.unusedSimpArgs false
namespace Go.Proofs.YtkbfhgcjimfgkaaDoor
open Go.RowKit
set_option maxRecDepth 100000 in
set_option maxHeartbeats 1000000 in
theorem last_none (B b : Nat) (v : Value) (k : Int) (r : List Part) (w : World) (hl : r.length ≤ 1000000000000) (hk : ∀ q, r.head? = some q → q.kind ≠ k)
    (hbag : Bag 160 B b v [] r.reverse w) :
    Calls Tryd.prog 92 #[.pointer (some ⟨b, 0, none⟩), .int .i64 k] w fun e w' => e = .returned (.pointer none) ∧ w = w' := by
  obtain ⟨a, c, hv⟩ := hbag.form
  have hc0 := hbag.cell 0
  simp only [List.getElem?_cons_zero, List.length_reverse] at hc0 hv
  rw [hv] at hc0
  cases r with
  | nil =>
    clear hbag hv hk
    simp only [List.length_nil] at hc0
    go_enter Tryd.func92, Tryd.ntmps92
    go_wp2_with fail
    go_ret
    exact ⟨rfl, rfl⟩
  | cons q r =>
    obtain ⟨g, rfl, hg, hq0, hq1, hq2⟩ := hbag.last (by rw [hv])
    have hcap : r.length + 1 ≤ c := by
      rcases hbag.own.2 with ⟨_, h0⟩ | ⟨g', cap, cur, hv', _, _, hnc, _⟩
      · simp at h0
      · rw [hv] at hv'; injection hv' with _ _ h3; simp at hnc; omega
    have hne : (q.kind == k) = false := by simpa using hk q rfl
    clear hbag hv hk hg
    simp only [List.length_cons] at hc0 hl
    have h0 : 0 < r.length + 1 := by omega
    generalize r.length = n at *
    go_enter Tryd.func92, Tryd.ntmps92
    go_wp2_with fail
    go_ret
    exact ⟨rfl, rfl⟩
set_option maxRecDepth 100000 in
set_option maxHeartbeats 1000000 in
theorem last_some (B b : Nat) (v : Value) (k : Int) (q : Part) (r : List Part) (w : World) (hl : r.length ≤ 1000000000000) (hk : q.kind = k) (g : Nat) (hg0 : v.ownBlock = some g)
    (hbag : Bag 160 B b v [] (q :: r).reverse w) :
    Calls Tryd.prog 92 #[.pointer (some ⟨b, 0, none⟩), .int .i64 k] w fun e w' => e = .returned (.pointer (some ⟨g, r.length * 3, none⟩)) ∧ w = w' := by
  obtain ⟨a, c, hv⟩ := hbag.form
  have hc0 := hbag.cell 0
  simp only [List.getElem?_cons_zero, List.length_reverse] at hc0 hv
  rw [hv] at hc0
  obtain ⟨g', rfl, hg, hq0, hq1, hq2⟩ := hbag.last (by rw [hv])
  have hgg : g' = g := by rw [hg] at hg0; injection hg0
  subst hgg
  have hcap : r.length + 1 ≤ c := by
    rcases hbag.own.2 with ⟨_, h0⟩ | ⟨g', cap, cur, hv', _, _, hnc, _⟩
    · simp at h0
    · rw [hv] at hv'; injection hv' with _ _ h3; simp at hnc; omega
  have hne : (q.kind == k) = true := by simpa using hk
  clear hbag hv hk hg hg0
  simp only [List.length_cons] at hc0 hl
  have h0 : 0 < r.length + 1 := by omega
  generalize r.length = n at *
  go_enter Tryd.func92, Tryd.ntmps92
  go_wp2_with fail
  go_ret
  exact ⟨by simp [Nat.mul_comm], rfl⟩
/-- the last part's cell n is raised, its text grows -/
theorem merge_fin {T B b : Nat} {v : Value} {ex : List Value} {q p : Part} {r : List Part} {w : World} {g : Nat} (hk : p.kind = q.kind) (hbag : Bag T B b v ex (q :: r).reverse w) (hg : v.ownBlock = some g) :
    ∀ W : World, Touch (fun _ => False) w W →
    ((p.text = q.text → AddPost T B b v ex (p :: r) w (.returned (.tuple #[])) (W.setCell ⟨g, r.length * 3 + 1, none⟩ (.int .i64 p.n))) ∧
     (p.n = q.n → AddPost T B b v ex (p :: r) w (.returned (.tuple #[])) (W.setCell ⟨g, r.length * 3 + 2, none⟩ (.string p.text)))) := by
  intro W hW
  obtain ⟨a, c, hv⟩ := hbag.form
  simp only [List.length_reverse] at hv
  have hbgn : b ≠ g := fun e => hbag.ne (by rw [hg, e])
  have hbW := hbag.touch hW (fun _ _ h => h)
  have hoW := hbW.own
  rw [hv] at hoW hg
  simp only [List.length_reverse, List.length_cons] at hoW
  have hag : a = some ⟨g, 0, none⟩ := by
    rcases hoW.2 with ⟨h1, h2⟩ | ⟨g', cap, cur, h1, _⟩
    · simp at h2
    · injection h1 with h1 _ _
      subst h1
      simp [Value.ownBlock] at hg
      rw [hg]
  subst hag
  have hset := flat_set p q r hk
  have hfl := flat_len (q :: r).reverse
  simp only [List.length_reverse, List.length_cons] at hfl
  have h0 := flat_snoc q r
  have hl0 : (flat r.reverse).length = r.length * 3 := by rw [flat_len, List.length_reverse]
  refine ⟨fun ht => ?_, fun hn => ?_⟩
  · have h1 := (hoW.stored (r.length * 3 + 1) (.int .i64 p.n)).1
    have e : (flat (q :: r).reverse).set (r.length * 3 + 1) (.int .i64 p.n) = flat (p :: r).reverse := by
      rw [← hset]
      symm
      apply List.ext_getElem?
      intro i
      by_cases hi : i = r.length * 3 + 2
      · subst hi
        rw [List.getElem?_set_self (by rw [List.length_set, hfl]; omega), List.getElem?_set_ne (by omega), h0, List.getElem?_append_right (by omega), hl0]
        rw [show r.length * 3 + 2 - r.length * 3 = 2 from by omega, ht]; rfl
      · rw [List.getElem?_set_ne (by omega)]
    rw [e] at h1
    refine ⟨v, rfl, ⟨hbag.base, ?_, ?_, hbag.ne⟩, ?_, .inl rfl⟩
    · rw [Below.heap_setCell _ _ _ _ hbgn]; exact hbW.blk
    · rw [hv]; simpa using h1
    · exact ((hW.mono (fun _ _ h => h.elim)).setCell (p := ⟨g, r.length * 3 + 1, none⟩) (.inl (.inr (by rw [hv]; rfl))) _)
  · have h1 := (hoW.stored (r.length * 3 + 2) (.string p.text)).1
    have e : (flat (q :: r).reverse).set (r.length * 3 + 2) (.string p.text) = flat (p :: r).reverse := by
      rw [← hset]
      symm
      apply List.ext_getElem?
      intro i
      by_cases hi : i = r.length * 3 + 1
      · subst hi
        rw [List.getElem?_set_ne (by omega), List.getElem?_set_self (by omega), List.getElem?_set_ne (by omega), h0, List.getElem?_append_right (by omega), hl0]
        rw [show r.length * 3 + 1 - r.length * 3 = 1 from by omega, hn]; rfl
      · by_cases hi2 : i = r.length * 3 + 2
        · subst hi2; rw [List.getElem?_set_self (by rw [List.length_set, hfl]; omega), List.getElem?_set_self (by omega)]
        · rw [List.getElem?_set_ne (by omega), List.getElem?_set_ne (by omega), List.getElem?_set_ne (by omega)]
    rw [e] at h1
    refine ⟨v, rfl, ⟨hbag.base, ?_, ?_, hbag.ne⟩, ?_, .inl rfl⟩
    · rw [Below.heap_setCell _ _ _ _ hbgn]; exact hbW.blk
    · rw [hv]; simpa using h1
    · exact ((hW.mono (fun _ _ h => h.elim)).setCell (p := ⟨g, r.length * 3 + 2, none⟩) (.inl (.inr (by rw [hv]; rfl))) _)
theorem addR_ge {p : Part} {r : List Part} (ht : triv p = false) (h : ∀ q, r.head? = some q → ¬ q.kind = p.kind ∧ ¬ (p.kind = 2 ∧ q.kind = 3)) : addR r p = p :: r := by
  cases r with
  | nil => exact addR_nil ht
  | cons q r => exact addR_more ht (h q rfl).1 (h q rfl).2
set_option maxRecDepth 100000 in
set_option maxHeartbeats 2000000 in
theorem remove_any (B b : Nat) (v : Value) (n : Int) (r : List Part) (w : World) (hn : 0 ≤ n ∧ n ≤ 1000000000000) (hr : ∀ q ∈ r, Mild q) (hl : r.length ≤ 1000000000000)
    (hbag : Bag 160 B b v [] r.reverse w) :
    Calls Tryd.prog 78 #[.pointer (some ⟨b, 0, none⟩), .int .i64 n] w (AddPost 160 B b v [] (addR r ⟨3, n, noText⟩) w) := by
  by_cases hq : ∃ q r', r = q :: r' ∧ q.kind = 3
  · obtain ⟨q, r', rfl, hk⟩ := hq
    have he : AddPost 160 B b v [] (addR (q :: r') ⟨3, n, noText⟩) w = AddPost 160 B b v [] (⟨q.kind, q.n + n, q.text⟩ :: r') w := by
      by_cases h0 : n = 0
      · subst h0; rw [show addR (q :: r') ⟨3, 0, noText⟩ = q :: r' from by simp [addR, triv]]; congr 2; simp
      · rw [addR_merge (by simp [triv, h0]) hk]; simp only [app_noText]
    rw [he]
    clear he
    obtain ⟨a, c, hv⟩ := hbag.form
    simp only [List.length_reverse] at hv
    obtain ⟨g, rfl, hg, hq0, hq1, hq2⟩ := hbag.last (by rw [hv])
    have hrow := (hbag.rowlt g hg)
    have hown := hbag.own
    rw [hv] at hown
    simp only [List.length_reverse, List.length_cons] at hown
    have hf1 := hown.frozenAt (r'.length * 3 + 1)
    have hfin := fun W (hW : Touch (fun _ => False) w W) => (merge_fin (q := q) (p := ⟨q.kind, q.n + n, q.text⟩) rfl hbag hg W hW).1 rfl
    have Hlast := Lib.hid (last_some B b v 3 q r' w (by simp at hl; omega) hk g hg hbag)
    have Hfin := Lib.hid hfin
    have hmq := (hr q (List.mem_cons_self ..)).n
    have hgl := hrow.2
    clear hfin hown hbag hv hg hrow hr hk
    obtain ⟨qk, qn, qt⟩ := q
    simp only at *
    generalize r'.length * 3 = o at *
    go_enter Tryd.func78, Tryd.ntmps78
    go_wp2_with fail
    refine Hlast.out.mono ?_
    rintro e w1 ⟨rfl, rfl⟩
    go_wp2_with fail
    go_end0
    exact Hfin.out _ (Touch.refl _ _)
  · have hh : ∀ q, r.head? = some q → q.kind ≠ 3 := by
      intro q hq2 hk
      cases r with
      | nil => cases hq2
      | cons x r => simp at hq2; subst hq2; exact hq ⟨x, r, rfl, hk⟩
    have Hlast := Lib.hid (last_none B b v 3 r w hl hh hbag)
    by_cases h0 : n = 0
    · subst h0
      have he : addR r ⟨3, 0, noText⟩ = r := by cases r <;> simp [addR, triv]
      rw [he]
      have Hfin : Hid (AddPost 160 B b v [] r w (.returned (.tuple #[])) w) := ⟨v, rfl, hbag, Touch.refl _ _, .inl rfl⟩
      clear hbag he hr hq hh hn
      go_enter Tryd.func78, Tryd.ntmps78
      go_wp2_with fail
      refine Hlast.out.mono ?_
      rintro e w1 ⟨rfl, rfl⟩
      go_wp2_with fail
      go_end0
      exact Hfin.out
    · obtain ⟨i0, hi, hz0, hz1, hz2⟩ := info_parts infoP
      rw [addR_ge (by simp [triv, h0]) (fun q hq2 => ⟨hh q hq2, by simp⟩)]
      obtain ⟨a, c, hv⟩ := hbag.form
      simp only [List.length_reverse] at hv
      have hown := hbag.own
      rw [hv] at hown
      simp only [List.length_reverse] at hown
      have hc0 := hbag.cell 0
      have hf0 := hbag.frozen 0
      have hlt := hbag.lt
      have hbase := hbag.base
      simp only [List.getElem?_cons_zero] at hc0
      rw [hv] at hc0
      have hne := hbag.ne
      rw [hv] at hne
      have hp : 0 < n := by omega
      have Hne := Lib.hid hne
      have Hv := Lib.hid hv
      have Hbag := Lib.hid hbag
      have Hown := Lib.hid hown
      clear hne hv hbag hown hr hq hh h0
      go_enter Tryd.func78, Tryd.ntmps78
      go_wp2_with fail
      refine Hlast.out.mono ?_
      rintro e w1 ⟨rfl, rfl⟩
      clear Hlast
      go_wp2_with (at_builtin; refine wpList_append_lies _ rfl _ _ _ (by rfl) B 53 i0 _ 3 32 Tryd.underlying42 hi hz0 hz1 hz2 rfl (by omega) (.slice a r.length c) r.length (flat r.reverse) (by rfl) (Hown.out.alloc _) ⟨w.heap.size, 0, none⟩ 1 1 [.int .i64 3, .int .i64 n, .string ⟨#[]⟩] (by rfl) (by rfl) (news_at (heap_new_at _ _ _ (by simp))) (by simp [Value.oneCell']) (by omega) (by unfold maxLen; omega) (by omega) (by simp; omega) (w.heap.size + 1) (by simp) ?_)
      intro gg cap w1 hown1 hgrow hat hlt1
      have hbk1 : w1.heap[b]? = w.heap[b]? := (hgrow.block b (by simp; omega) (Ne.symm Hne.out)).trans (Below.heap_alloc w _ b hlt)
      have hf1 : w1.frozen? ⟨b, 0, none⟩ = false := (World.frozen?_of_block (a := ⟨b, 0, none⟩) hbk1).trans hf0
      have hd1 := (cell_keep (o := 0) hbk1).trans hc0
      have Hown1 := Lib.hid hown1
      have Hgrow := Lib.hid hgrow
      have Hat := Lib.hid hat
      have Hbk1 := Lib.hid hbk1
      clear hown1 hgrow hat hbk1
      go_wp2_with fail
      go_end0
      exact add_fin hbase Hv.out Hbag.out.blk Hbk1.out (by rw [flat_snoc]; simpa [partCells, noText] using Hown1.out) ((Touch.refl _ w).alloc _) Hgrow.out (Hat.out.imp_right (fun h => by omega))
theorem AddPost.from {T B b : Nat} {v v1 : Value} {ex : List Value} {r : List Part} {w w1 w2 : World} {e : Ending} (h1 : Touch (Bag.S b v) w w1) (hv1 : v1.ownBlock = v.ownBlock ∨ ∀ g, v1.ownBlock = some g → w.heap.size ≤ g)
    (h2 : AddPost T B b v1 ex r w1 e w2) : AddPost T B b v ex r w e w2 := by
  obtain ⟨v2, he, hb, ht, hv2⟩ := h2
  have hsub : ∀ k, k < w.heap.size → Bag.S b v1 k → Bag.S b v k := by
    rintro k hk (rfl | h)
    · exact .inl rfl
    · rcases hv1 with h' | h'
      · exact .inr (h' ▸ h)
      · have := h' k h; omega
  refine ⟨v2, he, hb, h1.then_ ht hsub, ?_⟩
  rcases hv2 with h | h
  · rcases hv1 with h' | h'
    · exact .inl (h.trans h')
    · exact .inr fun g hg => h' g (by rw [← h]; exact hg)
  · exact .inr fun g hg => Nat.le_trans h1.size (h g hg)
set_option maxRecDepth 100000 in
set_option maxHeartbeats 2000000 in
theorem insert_top (B b : Nat) (v : Value) (s : Str) (r : List Part) (w : World) (hs : s.size ≤ 1000000000000) (hr : ∀ q ∈ r, Mild q) (hl : r.length ≤ 1000000000000) (hn3 : ∀ q, r.head? = some q → q.kind ≠ 3)
    (hbag : Bag 160 B b v [] r.reverse w) :
    Calls Tryd.prog 79 #[.pointer (some ⟨b, 0, none⟩), .string s] w (AddPost 160 B b v [] (addR r ⟨2, 0, s⟩) w) := by
  cases he : emptyS s with
  | true =>
    have h1 : addR r ⟨2, 0, s⟩ = r := by cases r <;> simp [addR, triv, he]
    rw [h1]
    have Hfin : Hid (AddPost 160 B b v [] r w (.returned (.tuple #[])) w) := ⟨v, rfl, hbag, Touch.refl _ _, .inl rfl⟩
    have h2 : s.toList.isEmpty = true := he
    clear he h1 hbag hr hn3
    go_enter Tryd.func79, Tryd.ntmps79
    go_wp2_with fail
    go_end0
    exact Hfin.out
  | false =>
    have ht : triv ⟨2, 0, s⟩ = false := by simp [triv, he]
    have h2 : s.toList.isEmpty = false := he
    by_cases hq : ∃ q r', r = q :: r' ∧ q.kind = 2
    · obtain ⟨q, r', rfl, hk⟩ := hq
      rw [addR_merge ht hk]
      obtain ⟨a, c, hv⟩ := hbag.form
      simp only [List.length_reverse] at hv
      obtain ⟨g, rfl, hg, hq0, hq1, hq2⟩ := hbag.last (by rw [hv])
      have hrow := (hbag.rowlt g hg)
      have hown := hbag.own
      rw [hv] at hown
      simp only [List.length_reverse, List.length_cons] at hown
      have hf1 := hown.frozenAt (r'.length * 3 + 2)
      have hfin := fun W (hW : Touch (fun _ => False) w W) => (merge_fin (q := q) (p := ⟨q.kind, q.n + 0, q.text ++ s⟩) rfl hbag hg W hW).2 (by simp)
      have Hlast := Lib.hid (last_some B b v 2 q r' w (by simp at hl; omega) hk g hg hbag)
      have Hfin := Lib.hid hfin
      have hadd : ∀ W : World, (Op.stringOp .add q.text s).run Tryd.prog W = .ok (.string (q.text ++ s)) W := fun W => run_string_add_sum W _ _ (by have h1 := (hr q (List.mem_cons_self ..)).t; omega)
      have hgl := hrow.2
      clear hfin hown hbag hv hg hrow hr hk ht he hn3
      obtain ⟨qk, qn, qt⟩ := q
      simp only at *
      generalize r'.length * 3 = o at *
      go_enter Tryd.func79, Tryd.ntmps79
      go_wp2_with fail
      refine Hlast.out.mono ?_
      rintro e w1 ⟨rfl, rfl⟩
      go_wp2_with fail
      go_end0
      exact Hfin.out _ (Touch.refl _ _)
    · have hh : ∀ q, r.head? = some q → q.kind ≠ 2 := by
        intro q hq2 hk
        cases r with
        | nil => cases hq2
        | cons x r => simp at hq2; subst hq2; exact hq ⟨x, r, rfl, hk⟩
      have Hl2 := Lib.hid (last_none B b v 2 r w hl hh hbag)
      have Hl3 := Lib.hid (last_none B b v 3 r w hl hn3 hbag)
      obtain ⟨i0, hi, hz0, hz1, hz2⟩ := info_parts infoP
      rw [addR_ge ht (fun q hq2 => ⟨hh q hq2, fun h => hn3 q hq2 h.2⟩)]
      obtain ⟨a, c, hv⟩ := hbag.form
      simp only [List.length_reverse] at hv
      have hown := hbag.own
      rw [hv] at hown
      simp only [List.length_reverse] at hown
      have hc0 := hbag.cell 0
      have hf0 := hbag.frozen 0
      have hlt := hbag.lt
      have hbase := hbag.base
      simp only [List.getElem?_cons_zero] at hc0
      rw [hv] at hc0
      have hne := hbag.ne
      rw [hv] at hne
      have Hne := Lib.hid hne
      have Hv := Lib.hid hv
      have Hbag := Lib.hid hbag
      have Hown := Lib.hid hown
      clear hne hv hbag hown hr hq hh ht he hn3
      go_enter Tryd.func79, Tryd.ntmps79
      go_wp2_with fail
      refine Hl2.out.mono ?_
      rintro e w1 ⟨rfl, rfl⟩
      clear Hl2
      go_wp2_with fail
      refine Hl3.out.mono ?_
      rintro e w1 ⟨rfl, rfl⟩
      clear Hl3
      go_wp2_with (at_builtin; refine wpList_append_lies _ rfl _ _ _ (by rfl) B 53 i0 _ 3 32 Tryd.underlying42 hi hz0 hz1 hz2 rfl (by omega) (.slice a r.length c) r.length (flat r.reverse) (by rfl) (Hown.out.alloc _) ⟨w.heap.size, 0, none⟩ 1 1 [.int .i64 2, .int .i64 0, .string s] (by rfl) (by rfl) (news_at (heap_new_at _ _ _ (by simp))) (by simp [Value.oneCell']) (by omega) (by unfold maxLen; omega) (by omega) (by simp; omega) (w.heap.size + 1) (by simp) ?_)
      intro gg cap w1 hown1 hgrow hat hlt1
      have hbk1 : w1.heap[b]? = w.heap[b]? := (hgrow.block b (by simp; omega) (Ne.symm Hne.out)).trans (Below.heap_alloc w _ b hlt)
      have hf1 : w1.frozen? ⟨b, 0, none⟩ = false := (World.frozen?_of_block (a := ⟨b, 0, none⟩) hbk1).trans hf0
      have hd1 := (cell_keep (o := 0) hbk1).trans hc0
      have Hown1 := Lib.hid hown1
      have Hgrow := Lib.hid hgrow
      have Hat := Lib.hid hat
      have Hbk1 := Lib.hid hbk1
      clear hown1 hgrow hat hbk1
      go_wp2_with fail
      go_end0
      exact add_fin hbase Hv.out Hbag.out.blk Hbk1.out (by rw [flat_snoc]; simpa [partCells, noText] using Hown1.out) ((Touch.refl _ w).alloc _) Hgrow.out (Hat.out.imp_right (fun h => by omega))
set_option maxRecDepth 100000 in
set_option maxHeartbeats 2000000 in
theorem insert_any (B b : Nat) (v : Value) (s : Str) (r : List Part) (w : World) (hs : s.size ≤ 1000000000000) (hval : valid s = true) (hc : Canon r) (hr0 : ∀ q ∈ r, Mild q ∧ q.text.size + s.size ≤ 1000000000000) (hl : r.length ≤ 100000000000)
    (hbag : Bag 160 B b v [] r.reverse w) :
    Calls Tryd.prog 79 #[.pointer (some ⟨b, 0, none⟩), .string s] w (AddPost 160 B b v [] (addR r ⟨2, 0, s⟩) w) := by
  have hr : ∀ q ∈ r, Mild q := fun q hq => (hr0 q hq).1
  by_cases hq : ∃ q r', r = q :: r' ∧ q.kind = 3 ∧ emptyS s = false
  · obtain ⟨q, r', rfl, hk, he⟩ := hq
    have ht : triv ⟨2, 0, s⟩ = false := by simp [triv, he]
    have h2 : s.toList.isEmpty = false := he
    have hq3 : ∀ x, r'.head? = some x → x.kind ≠ 3 := by
      intro x hx
      cases r' with
      | nil => cases hx
      | cons y r' =>
        simp at hx; subst hx
        have := hc.2.1
        unfold clash at this
        simp at this
        intro h
        exact this.1 (by omega)
    rw [addR_swap ht (by simp [hk]) ⟨rfl, hk⟩]
    have hadd := (addR_canon (proto_ins s hval) hc.tail).2 ht rfl hq3
    have hqs : q = ⟨3, q.n, noText⟩ ∧ 1 ≤ q.n := by
      obtain ⟨qk, qn, qt⟩ := q
      simp only at hk
      subst hk
      rcases hc.head with ⟨_, h1, h3⟩ | ⟨h1, _⟩
      · simp only at h1 h3; subst h3; exact ⟨rfl, h1⟩
      · simp at h1
    have hend : addR (addR r' ⟨2, 0, s⟩) ⟨3, q.n, noText⟩ = q :: addR r' ⟨2, 0, s⟩ := by
      rw [addR_ge (by simp [triv]; have := hqs.2; omega) (fun x hx => ⟨by have := hadd x hx; simp only; omega, by simp⟩), ← hqs.1]
    obtain ⟨a, c, hv⟩ := hbag.form
    simp only [List.length_reverse, List.length_cons] at hv
    obtain ⟨g, rfl, hg, hq0, hq1, hq2⟩ := hbag.last (by rw [hv])
    have hrow := (hbag.rowlt g hg)
    have hcap : r'.length + 1 ≤ c := by
      rcases hbag.own.2 with ⟨_, h0⟩ | ⟨g', cap, cur, hv', _, _, hnc, _⟩
      · simp at h0
      · rw [hv] at hv'; injection hv' with _ _ h3; simp at hnc; omega
    have hc0 := hbag.cell 0
    have hf0 := hbag.frozen 0
    simp only [List.getElem?_cons_zero] at hc0
    rw [hv] at hc0
    have Hl2 := Lib.hid (last_none B b v 2 (q :: r') w (by simp at hl ⊢; omega) (fun x hx => by simp at hx; subst hx; omega) hbag)
    have Hl3 := Lib.hid (last_some B b v 3 q r' w (by simp at hl; omega) hk g hg hbag)
    have hr' : ∀ x ∈ r', Mild x := fun x hx => hr x (List.mem_cons_of_mem _ hx)
    have hl' : r'.length ≤ 100000000000 := by simp at hl; omega
    -- the world in which the inner call begins
    have hcut : ∀ W : World, Touch (fun _ => False) w W → Bag 160 B b (.slice (some ⟨g, 0, none⟩) r'.length c) [] r'.reverse (W.setCell ⟨b, 0, none⟩ (.slice (some ⟨g, 0, none⟩) r'.length c)) := by
      intro W hW
      have hbW := hbag.touch hW (fun _ _ h => h)
      have hoW := hbW.own
      rw [hv] at hoW
      simp only [List.length_reverse, List.length_cons] at hoW
      have h1 := ownsRow_cut hoW r'.length (by omega)
      rw [flat_snoc] at h1
      have h2 : (flat r'.reverse ++ partCells q).take (r'.length * 3) = flat r'.reverse := by
        have := flat_len r'.reverse
        rw [List.length_reverse] at this
        rw [← this, List.take_left]
      rw [h2] at h1
      exact Bag.put hbag.base hbW.blk (by simpa using h1) (by decide)
    have HI := Lib.hid (fun W h => insert_top B b (.slice (some ⟨g, 0, none⟩) r'.length c) s r' W hs hr' (by omega) hq3 h)
    have HR := Lib.hid (fun v W (hm : ∀ x ∈ addR r' ⟨2, 0, s⟩, Mild x) h => remove_any B b v q.n (addR r' ⟨2, 0, s⟩) W ⟨by have := hqs.2; omega, (hr q (List.mem_cons_self ..)).n.2⟩ hm (by have := addR_len r' ⟨2, 0, s⟩; omega) h)
    have Hmild : Hid (∀ x ∈ addR r' ⟨2, 0, s⟩, Mild x) := by
      unfold Hid
      refine addR_each (fun q => Mild q ∧ q.text.size + s.size ≤ 1000000000000) Mild _ ⟨by simp only; omega, by simp only; omega, hs⟩ (fun q h => h.1) (fun q h hk => ⟨h.1.k, by have := h.1.n; simp only; omega, by simp only [size_app]; exact h.2⟩) r' (fun x hx => hr0 x (List.mem_cons_of_mem _ hx))
    rw [hend] at HR
    have Hcut := Lib.hid hcut
    have Hg := Lib.hid hg
    have hlt := hbag.lt
    have hgl := hrow.2
    clear hcut hbag hv hrow hr hr' hr0 hadd hend hc hval hq3 hg
    have hqk := hqs.2
    clear hqs
    obtain ⟨qk, qn, qt⟩ := q
    simp only at *
    have h0 : 0 < r'.length + 1 := by omega
    generalize hF : (⟨qk, qn, qt⟩ :: addR r' ⟨2, 0, s⟩ : List Part) = F at *
    have HF := Lib.hid hF
    clear hF
    generalize addR r' ⟨2, 0, s⟩ = R at *
    go_enter Tryd.func79, Tryd.ntmps79
    go_wp2_with fail
    refine Hl2.out.mono ?_
    rintro e w1 ⟨rfl, rfl⟩
    clear Hl2
    go_wp2_with fail
    refine Hl3.out.mono ?_
    rintro e w1 ⟨rfl, rfl⟩
    clear Hl3
    go_wp2_with fail
    go_region
    go_wp2_with fail
    refine (HI.out _ ((Hcut.out w (Touch.refl _ _)).touch (Touch.refl (fun _ => False) _).drew (fun _ _ h => h))).mono ?_
    rintro e w2 ⟨v2, rfl, hbag2, ht2, hat2⟩
    have Hb2 := Lib.hid hbag2
    have Ht2 := Lib.hid ht2
    have Hat2 := Lib.hid hat2
    clear hbag2 ht2 hat2
    go_wp2_with fail
    refine (HR.out _ _ Hmild.out Hb2.out).mono ?_
    rintro e w3 hpost
    have hpost : AddPost 160 B b v [] F w e w3 := by
      have t0 : Touch (Bag.S b v) w (w.setCell ⟨b, 0, none⟩ (.slice (some ⟨g, 0, none⟩) r'.length c)).drew := ((Touch.refl _ w).setCell (p := ⟨b, 0, none⟩) (.inl (.inl rfl)) _).drew
      refine AddPost.from (v1 := v2) (t0.then_ Ht2.out (fun k _ h => ?_)) ?_ hpost
      · rcases h with rfl | h
        · exact .inl rfl
        · exact .inr (Hg.out.trans h)
      · rcases Hat2.out with h | h
        · exact .inl (by rw [h, Hg.out]; rfl)
        · exact .inr fun k hk => by have := h k hk; simpa using this
    obtain ⟨v3, rfl, h3, h4, h5⟩ := hpost
    have Hfin : Hid (AddPost 160 B b v [] F w (.returned (.tuple #[])) w3) := ⟨v3, rfl, h3, h4, h5⟩
    clear h3 h4 h5
    go_wp2_with fail
    go_end0
    exact Hfin.out
  · cases he : emptyS s with
    | false => exact insert_top B b v s r w hs hr (by omega) (fun x hx hk => by
        cases r with
        | nil => cases hx
        | cons y r => simp at hx; subst hx; exact hq ⟨y, r, rfl, hk, he⟩) hbag
    | true =>
      have h1 : addR r ⟨2, 0, s⟩ = r := by cases r <;> simp [addR, triv, he]
      rw [h1]
      have Hfin : Hid (AddPost 160 B b v [] r w (.returned (.tuple #[])) w) := ⟨v, rfl, hbag, Touch.refl _ _, .inl rfl⟩
      have h2 : s.toList.isEmpty = true := he
      clear he h1 hbag hr hr0 hc hq hval
      go_enter Tryd.func79, Tryd.ntmps79
      go_wp2_with fail
      go_end0
      exact Hfin.out
end Go.Proofs.YtkbfhgcjimfgkaaDoor
set_option linter.unusedSimpArgs false
namespace Go.Proofs.YtkbfhgcjimfgkaaDoor
open Go.RowKit
set_option maxRecDepth 100000 in
set_option maxHeartbeats 2000000 in
theorem keep_any (B b : Nat) (v : Value) (n : Int) (r : List Part) (w : World) (hn : 0 ≤ n ∧ n ≤ 1000000000000) (hr : ∀ q ∈ r, Mild q) (hl : r.length ≤ 1000000000000)
    (hbag : Bag 160 B b v [] r.reverse w) :
    Calls Tryd.prog 77 #[.pointer (some ⟨b, 0, none⟩), .int .i64 n] w (AddPost 160 B b v [] (addR r ⟨1, n, noText⟩) w) := by
  by_cases hq : ∃ q r', r = q :: r' ∧ q.kind = 1
  · obtain ⟨q, r', rfl, hk⟩ := hq
    have he : AddPost 160 B b v [] (addR (q :: r') ⟨1, n, noText⟩) w = AddPost 160 B b v [] (⟨q.kind, q.n + n, q.text⟩ :: r') w := by
      by_cases h0 : n = 0
      · subst h0; rw [show addR (q :: r') ⟨1, 0, noText⟩ = q :: r' from by simp [addR, triv]]; congr 2; simp
      · rw [addR_merge (by simp [triv, h0]) hk]; simp only [app_noText]
    rw [he]
    clear he
    obtain ⟨a, c, hv⟩ := hbag.form
    simp only [List.length_reverse] at hv
    obtain ⟨g, rfl, hg, hq0, hq1, hq2⟩ := hbag.last (by rw [hv])
    have hrow := (hbag.rowlt g hg)
    have hown := hbag.own
    rw [hv] at hown
    simp only [List.length_reverse, List.length_cons] at hown
    have hf1 := hown.frozenAt (r'.length * 3 + 1)
    have hfin := fun W (hW : Touch (fun _ => False) w W) => (merge_fin (q := q) (p := ⟨q.kind, q.n + n, q.text⟩) rfl hbag hg W hW).1 rfl
    have Hlast := Lib.hid (last_some B b v 1 q r' w (by simp at hl; omega) hk g hg hbag)
    have Hfin := Lib.hid hfin
    have hmq := (hr q (List.mem_cons_self ..)).n
    have hgl := hrow.2
    clear hfin hown hbag hv hg hrow hr hk
    obtain ⟨qk, qn, qt⟩ := q
    simp only at *
    generalize r'.length * 3 = o at *
    go_enter Tryd.func77, Tryd.ntmps77
    go_wp2_with fail
    refine Hlast.out.mono ?_
    rintro e w1 ⟨rfl, rfl⟩
    go_wp2_with fail
    go_end0
    exact Hfin.out _ (Touch.refl _ _)
  · have hh : ∀ q, r.head? = some q → q.kind ≠ 1 := by
      intro q hq2 hk
      cases r with
      | nil => cases hq2
      | cons x r => simp at hq2; subst hq2; exact hq ⟨x, r, rfl, hk⟩
    have Hlast := Lib.hid (last_none B b v 1 r w hl hh hbag)
    by_cases h0 : n = 0
    · subst h0
      have he : addR r ⟨1, 0, noText⟩ = r := by cases r <;> simp [addR, triv]
      rw [he]
      have Hfin : Hid (AddPost 160 B b v [] r w (.returned (.tuple #[])) w) := ⟨v, rfl, hbag, Touch.refl _ _, .inl rfl⟩
      clear hbag he hr hq hh hn
      go_enter Tryd.func77, Tryd.ntmps77
      go_wp2_with fail
      refine Hlast.out.mono ?_
      rintro e w1 ⟨rfl, rfl⟩
      go_wp2_with fail
      go_end0
      exact Hfin.out
    · obtain ⟨i0, hi, hz0, hz1, hz2⟩ := info_parts infoP
      rw [addR_ge (by simp [triv, h0]) (fun q hq2 => ⟨hh q hq2, by simp⟩)]
      obtain ⟨a, c, hv⟩ := hbag.form
      simp only [List.length_reverse] at hv
      have hown := hbag.own
      rw [hv] at hown
      simp only [List.length_reverse] at hown
      have hc0 := hbag.cell 0
      have hf0 := hbag.frozen 0
      have hlt := hbag.lt
      have hbase := hbag.base
      simp only [List.getElem?_cons_zero] at hc0
      rw [hv] at hc0
      have hne := hbag.ne
      rw [hv] at hne
      have hp : 0 < n := by omega
      have Hne := Lib.hid hne
      have Hv := Lib.hid hv
      have Hbag := Lib.hid hbag
      have Hown := Lib.hid hown
      clear hne hv hbag hown hr hq hh h0
      go_enter Tryd.func77, Tryd.ntmps77
      go_wp2_with fail
      refine Hlast.out.mono ?_
      rintro e w1 ⟨rfl, rfl⟩
      clear Hlast
      go_wp2_with (at_builtin; refine wpList_append_lies _ rfl _ _ _ (by rfl) B 53 i0 _ 3 32 Tryd.underlying42 hi hz0 hz1 hz2 rfl (by omega) (.slice a r.length c) r.length (flat r.reverse) (by rfl) (Hown.out.alloc _) ⟨w.heap.size, 0, none⟩ 1 1 [.int .i64 1, .int .i64 n, .string ⟨#[]⟩] (by rfl) (by rfl) (news_at (heap_new_at _ _ _ (by simp))) (by simp [Value.oneCell']) (by omega) (by unfold maxLen; omega) (by omega) (by simp; omega) (w.heap.size + 1) (by simp) ?_)
      intro gg cap w1 hown1 hgrow hat hlt1
      have hbk1 : w1.heap[b]? = w.heap[b]? := (hgrow.block b (by simp; omega) (Ne.symm Hne.out)).trans (Below.heap_alloc w _ b hlt)
      have hf1 : w1.frozen? ⟨b, 0, none⟩ = false := (World.frozen?_of_block (a := ⟨b, 0, none⟩) hbk1).trans hf0
      have hd1 := (cell_keep (o := 0) hbk1).trans hc0
      have Hown1 := Lib.hid hown1
      have Hgrow := Lib.hid hgrow
      have Hat := Lib.hid hat
      have Hbk1 := Lib.hid hbk1
      clear hown1 hgrow hat hbk1
      go_wp2_with fail
      go_end0
      exact add_fin hbase Hv.out Hbag.out.blk Hbk1.out (by rw [flat_snoc]; simpa [partCells, noText] using Hown1.out) ((Touch.refl _ w).alloc _) Hgrow.out (Hat.out.imp_right (fun h => by omega))
end Go.Proofs.YtkbfhgcjimfgkaaDoor
set_option linter.unusedSimpArgs false
namespace Go.Proofs.YtkbfhgcjimfgkaaDoor
open Go.RowKit
/-- block b is a builder in which parts stand, the last one first -/
structure Bd (D B b : Nat) (R : List P) (v : Value) (w : World) : Prop where
  bag : Bag 160 D b v [] (R.map P.part).reverse w
  can : Can R
  row : ∀ g, v.ownBlock = some g → B ≤ g
theorem Bd.go {D B b : Nat} {R : List P} {v : Value} {w w' : World} (h : Bd D B b R v w) (hb : Below w.heap.size w w') : Bd D B b R v w' := ⟨h.bag.below hb, h.can, h.row⟩
theorem can_mild {R : List P} (h : Can R) (hs : FS R + TS R ≤ 100000) : ∀ q ∈ R.map P.part, Mild q ∧ q.text.size ≤ 400000 := by
  intro q hq
  obtain ⟨p, hp, rfl⟩ := List.mem_map.1 hq
  have hok := h.all p hp
  have h1 : p.F ≤ FS R ∧ p.T ≤ TS R := by
    clear hok h hs hq
    induction R with
    | nil => cases hp
    | cons x R ih =>
      rcases List.mem_cons.1 hp with rfl | hp
      · simp only [FS, TS]; omega
      · have := ih hp; simp only [FS, TS]; omega
  cases p with
  | k n => simp only [P.F, P.T] at h1; exact ⟨⟨by simp [P.part], by simp only [P.part]; omega, by simp only [P.part, noText_size]; omega⟩, by simp only [P.part, noText_size]; omega⟩
  | d n => simp only [P.F, P.T] at h1; exact ⟨⟨by simp [P.part], by simp only [P.part]; omega, by simp only [P.part, noText_size]; omega⟩, by simp only [P.part, noText_size]; omega⟩
  | i t =>
    simp only [P.F, P.T] at h1
    have := enc_size t hok.2
    exact ⟨⟨by simp [P.part], by simp only [P.part]; omega, by simp only [P.part]; omega⟩, by simp only [P.part]; omega⟩
theorem can_len {R : List P} (h : Can R) (hs : FS R + TS R ≤ 100000) : (R.map P.part).length ≤ 100000 := by
  have := ok_len R h.all
  simp; omega
/-- a part is added -/
def AddB (D B b : Nat) (R : List P) (v : Value) (w : World) (e : Ending) (w' : World) : Prop :=
  ∃ v', e = .returned (.tuple #[]) ∧ Bd D B b R v' w' ∧ Touch (Bag.S b v) w w' ∧ (v'.ownBlock = v.ownBlock ∨ ∀ g, v'.ownBlock = some g → w.heap.size ≤ g)
theorem addB_of {D B b : Nat} {R : List P} {p : P} {v : Value} {w w' : World} {e : Ending} (h : Bd D B b R v w) (hB : B ≤ w.heap.size) (hp : ∀ l, p = .i l → ∀ r ∈ l, Uni.vr r) (h2 : AddPost 160 D b v [] (addR (R.map P.part) p.part) w e w') : AddB D B b (addP R p) v w e w' := by
  obtain ⟨v', he, hb, ht, hv⟩ := h2
  rw [addR_part p hp R h.can.all] at hb
  refine ⟨v', he, ⟨hb, addP_can p hp R h.can, fun g hg => ?_⟩, ht, hv⟩
  rcases hv with hv | hv
  · exact h.row g (by rw [← hv]; exact hg)
  · have := hv g hg; omega
theorem bkeep (D B b : Nat) (R : List P) (v : Value) (n : Nat) (w : World) (h : Bd D B b R v w) (hs : FS R + TS R ≤ 100000) (hn : n ≤ 100000) (hB : B ≤ w.heap.size) :
    Calls Tryd.prog 77 #[.pointer (some ⟨b, 0, none⟩), .int .i64 (n : Int)] w (AddB D B b (addP R (.k n)) v w) :=
  (keep_any D b v (n : Int) (R.map P.part) w (by omega) (fun q hq => (can_mild h.can hs q hq).1) (by have := can_len h.can hs; omega) h.bag).mono fun e w' h2 => addB_of (p := .k n) h hB (fun l hl => by cases hl) h2
theorem bremove (D B b : Nat) (R : List P) (v : Value) (n : Nat) (w : World) (h : Bd D B b R v w) (hs : FS R + TS R ≤ 100000) (hn : n ≤ 100000) (hB : B ≤ w.heap.size) :
    Calls Tryd.prog 78 #[.pointer (some ⟨b, 0, none⟩), .int .i64 (n : Int)] w (AddB D B b (addP R (.d n)) v w) :=
  (remove_any D b v (n : Int) (R.map P.part) w (by omega) (fun q hq => (can_mild h.can hs q hq).1) (by have := can_len h.can hs; omega) h.bag).mono fun e w' h2 => addB_of (p := .d n) h hB (fun l hl => by cases hl) h2
theorem binsert (D B b : Nat) (R : List P) (v : Value) (t : List Nat) (w : World) (h : Bd D B b R v w) (hs : FS R + TS R ≤ 100000) (ht : t.length ≤ 100000) (hv : ∀ r ∈ t, Uni.vr r) (hB : B ≤ w.heap.size) :
    Calls Tryd.prog 79 #[.pointer (some ⟨b, 0, none⟩), .string (Uni.enc t)] w (AddB D B b (addP R (.i t)) v w) := by
  have hz := enc_size t hv
  exact (insert_any D b v (Uni.enc t) (R.map P.part) w (by omega) (valid_enc t hv) (can_canon h.can) (fun q hq => by have := can_mild h.can hs q hq; exact ⟨this.1, by omega⟩) (by have := can_len h.can hs; omega) h.bag).mono fun e w' h2 => addB_of (p := .i t) h hB (fun l hl => by injection hl with hl; subst hl; exact hv) h2
end Go.Proofs.YtkbfhgcjimfgkaaDoor
set_option linter.unusedSimpArgs false
namespace Go.Proofs.YtkbfhgcjimfgkaaDoor
open Go.RowKit
theorem can_fit {R : List P} (h : Can R) (hs : FS R + TS R ≤ 100000) (q : Part) (hq : q ∈ (R.map P.part).reverse) : I64 q.kind ∧ I64 q.n ∧ q.text.size ≤ strMax := by
  obtain ⟨⟨⟨_, _⟩, ⟨_, _⟩, _⟩, h4⟩ := can_mild h hs q (by simpa using hq)
  refine ⟨⟨by omega, by omega⟩, ⟨by omega, by omega⟩, by unfold strMax; omega⟩
end Go.Proofs.YtkbfhgcjimfgkaaDoor
set_option linter.unusedSimpArgs false
namespace Go.Proofs.YtkbfhgcjimfgkaaDoor
open Go.RowKit
theorem iv_sums (a : List P) : ∀ t : List Nat, FS a ≤ t.length → FS (iv t a) = TS a ∧ TS (iv t a) = FS a := by
  induction a with
  | nil => intro t _; simp [iv, FS, TS]
  | cons p a ih =>
    intro t h
    cases p with
    | k n =>
      simp only [FS, P.F] at h
      obtain ⟨i1, i2⟩ := ih (t.drop n) (by rw [List.length_drop]; omega)
      simp only [iv, FS, TS, P.F, P.T]; omega
    | i l =>
      simp only [FS, P.F, Nat.zero_add] at h
      obtain ⟨i1, i2⟩ := ih t h
      simp only [iv, FS, TS, P.F, P.T]; omega
    | d n =>
      simp only [FS, P.F] at h
      obtain ⟨i1, i2⟩ := ih (t.drop n) (by rw [List.length_drop]; omega)
      have hl : (t.take n).length = n := by rw [List.length_take]; omega
      simp only [iv, FS, TS, P.F, P.T, hl]; omega
/-- what the parts up to the k'th are, inverted -/
def ivR (t : List Nat) (l : List P) (k : Nat) : List P := build (iv t (l.take k))
theorem ivR_next (t : List Nat) (l : List P) (k : Nat) (h : k < l.length) : ivR t l (k + 1) = (iv (t.drop (FS (l.take k))) [l[k]]).foldl addP (ivR t l k) := by
  unfold ivR build
  rw [List.take_succ_eq_append_getElem h, iv_app, List.foldl_append]
/-- what stands while an operation is inverted: the builder (block b), the text's runes (block g) -/
structure Ivs (w : World) (b g : Nat) (rs : List Nat) (R : List P) (v : Value) (wr : World) : Prop where
  bd : Bd b (b + 1) b R v wr
  run : RunesAt wr g rs
  gb : g < b
  below : Below w.heap.size w wr
  wb : w.heap.size ≤ b
theorem Ivs.lt {w wr : World} {b g : Nat} {rs : List Nat} {R : List P} {v : Value} (h : Ivs w b g rs R v wr) : b < wr.heap.size := h.bd.bag.lt
theorem Ivs.go {w wr W : World} {b g : Nat} {rs : List Nat} {R : List P} {v : Value} (h : Ivs w b g rs R v wr) (hb : Below wr.heap.size wr W) : Ivs w b g rs R v W :=
  ⟨h.bd.go hb, h.run.below hb h.run.1, h.gb, up h.below hb, h.wb⟩
theorem Ivs.put {w wr W : World} {b g : Nat} {rs : List Nat} {R R' : List P} {v : Value} {cs : Obj} {e : Ending} (h : Ivs w b g rs R v wr) (ha : AddB b (b + 1) b R' v (wr.alloc cs) e W) :
    e = .returned (.tuple #[]) ∧ ∃ v', Ivs w b g rs R' v' W ∧ Blk wr.heap.size cs W := by
  obtain ⟨v', he, hp, ht, hv⟩ := ha
  have hlt := h.lt
  have hS : ∀ z, Bag.S b v z → b ≤ z ∧ z < wr.heap.size := fun z hz => by
    rcases hz with h' | h'
    · omega
    · have := h.bd.bag.rowlt z h'; omega
  have hal : Below wr.heap.size wr (wr.alloc cs) := (Below.refl _ _).alloc (Nat.le_refl _) _
  have hz : (wr.alloc cs).heap.size = wr.heap.size + 1 := by simp
  have hB : Below b (wr.alloc cs) W := ht.toBelow (by omega) (fun k hk => (hS k hk).1)
  have h1 := h.go hal
  refine ⟨he, v', ⟨hp, h1.run.below hB h.gb, h.gb, h1.below.trans (hB.mono h.wb), h.wb⟩, (Blk.new wr cs).touch ht (fun hz => ?_)⟩
  have := hS _ hz; omega
theorem Ivs.put0 {w W0 W : World} {b g : Nat} {rs : List Nat} {R R' : List P} {v : Value} {e : Ending} (h : Ivs w b g rs R v W0) (ha : AddB b (b + 1) b R' v W0 e W) :
    e = .returned (.tuple #[]) ∧ ∃ v', Ivs w b g rs R' v' W := by
  obtain ⟨v', he, hp, ht, hv⟩ := ha
  have hlt := h.lt
  have hS : ∀ z, Bag.S b v z → b ≤ z ∧ z < W0.heap.size := fun z hz => by
    rcases hz with h' | h'
    · omega
    · have := h.bd.bag.rowlt z h'; omega
  have hB : Below b W0 W := ht.toBelow (by omega) (fun k hk => (hS k hk).1)
  exact ⟨he, v', ⟨hp, h.run.below hB h.gb, h.gb, h.below.trans (hB.mono h.wb), h.wb⟩⟩
set_option maxRecDepth 100000 in
set_option maxHeartbeats 4000000 in
theorem invert_new (s : Str) (o : Op) (a : Option Addr) (n c : Nat) (w : World) (hg : Good w) (hr : RdS (· < w.heap.size) w o a n c) (hs : s.size ≤ 70368744177664) (h0 : checkText s = 0) (h1 : check o = 0) (h2 : sumF o = rc s) :
    Calls Tryd.prog 56 #[.string s, .slice a n c] w fun e w' => ∃ (a' : Option Addr) (c' : Nat), e = .returned (.tuple #[.slice a' (invO s o).length c', .int .i64 0]) ∧ RdS (fun z => w.heap.size ≤ z ∧ z < w'.heap.size) w' (invO s o) a' (invO s o).length c' ∧ Below w.heap.size w w' := by
  have HA := Lib.hid (apply_any s o a n c w hg hr hs)
  rw [(apply_good h0 h1 h2).1] at HA
  generalize applyS s o = ss at *
  have hrc := rc_rns s
  obtain ⟨R, hRz, hR, hconv⟩ := runes_of s hs
  have hO := opIs h1
  have hnl : n = (opP o).length := by have h := hr.1; rw [h]; unfold opP; simp
  have hn2 : n ≤ 8001 := by rw [hnl]; exact hO.len
  have hcells := fun h => hO.cells hr h
  have hFl := hO.fl
  have hTl := hO.tl
  have hF : FS (opP o) = (rns s).length := by have := hO.f; omega
  have hok := hO.ok
  have hvr := rns_vr (valid_of h0).1
  obtain ⟨L, HL⟩ : ∃ L, Hid (L = invO s o) := ⟨_, rfl⟩
  rw [← HL.out]
  have Hfin : Hid ((ivR (rns s) (opP o) (opP o).length).reverse.map P.part = L) := by
    unfold Hid
    rw [HL.out]
    unfold ivR invO opOfP
    rw [List.take_length]
  clear hr hO h0 h1 h2 hg hrc HL
  generalize opP o = l at *
  generalize rns s = rs at *
  have Hcells := Lib.hid hcells
  have Hl := Lib.hid hnl
  have HF := Lib.hid hF
  have HR := Lib.hid hR
  have Hvr := Lib.hid hvr
  have Hok := Lib.hid hok
  -- what is built up to k is small
  have Hsm : Hid (∀ k, k ≤ l.length → FS (ivR rs l k) + TS (ivR rs l k) ≤ 100000) := by
    unfold Hid
    intro k hk
    have h3 := FS_take l k
    have h4 := TS_take l k
    obtain ⟨h5, h6⟩ := iv_sums (l.take k) rs (by omega)
    unfold ivR
    rw [build_FS, build_TS]
    omega
  clear hcells hnl hF hRz hR hvr hok
  go_enter Tryd.func56, Tryd.ntmps56
  go_wp2_with fail
  refine HA.out.mono ?_
  rintro e w2 ⟨rfl, hb2⟩
  clear HA
  have hcv := hconv w2
  have hlim : rs.length ≤ 4000 := by have := HF.out; omega
  go_wp2_with fail
  refine abs_w (fun W => ∃ v, Ivs w (w2.heap.size + 1) w2.heap.size rs (ivR rs l 0) v W ∧ v = .slice none 0 0) ?_ ?_
  · have q1 := runesAt_new w2 R (Array.replicate (grownCap w2 rs.length 0 21 - rs.length) (.int .i32 0)) rs HR.out 21
    have hz2 := hb2.size
    have e0 : ivR rs l 0 = [] := by unfold ivR; simp [iv, build]
    rw [e0]
    have q2 : RunesAt ((w2.alloc (.cells (R ++ Array.replicate (grownCap w2 rs.length 0 21 - rs.length) (.int .i32 0)) 21)).drew.alloc (.cells #[.slice none 0 0] 160)) w2.heap.size rs := q1.below ((Below.refl _ _).alloc (Nat.le_refl _) _) q1.1
    exact ⟨_, ⟨⟨⟨Nat.le_refl _, Blk.at _ _ _ (by simp), World.ownsRow_nil _ _ _ _, by simp [Value.ownBlock]⟩, trivial, fun g hg => by cases hg⟩, q2, by omega, by (repeat (first | exact Below.refl _ _ | assumption | (refine Below.drew ?_) | (refine below_drewN ?_ _) | (refine Below.alloc ?_ (by first | (simp; done) | (simp; omega) | omega) _) | (refine Below.setCell ?_ (by first | (simp; done) | (simp; omega) | omega) _) | (refine Below.trans ?_ (Below.mono (by assumption) (by first | (simp; done) | (simp; omega) | omega))))), by have := hb2.size; omega⟩, rfl⟩
  rintro w3 ⟨v0, h3, hv0⟩
  have H3 := Lib.hid h3
  have hcap := grownCap_ge w2 rs.length 0 21
  have hcapm : grownCap w2 rs.length 0 21 ≤ maxLen := grownCap_le_maxLen w2 rs.length 0 21 (by unfold maxLen; omega)
  unfold maxLen at hcapm
  have hz2 := hb2.size
  generalize grownCap w2 rs.length 0 21 = cap at *
  generalize w2.heap.size = g at *
  clear h3 hv0 hcv hconv HR hb2
  go_loopw [10, 28] (fun t i wr => ∃ (k : Nat) (v : Value), k ≤ n ∧ i = .int .i64 k ∧ t = .int .i64 ((FS (l.take k) : Nat) : Int) ∧ Ivs w (g + 1) g rs (ivR rs l k) v wr) (fun _ i _ => n - (intOf i).toNat)
  case atStart => exact ⟨0, v0, by omega, rfl, rfl, H3.out⟩
  case round =>
    obtain ⟨k, v, hk, rfl, rfl, hiv⟩ := hrel
    clear H3 v0
    by_cases hlt : k < n
    · obtain ⟨b, off, rfl, _, hbs, hcs⟩ := Hcells.out (by omega)
      have hkl : k < l.length := by have := Hl.out; omega
      obtain ⟨c0, c1, c2⟩ := hcs k l[k] (List.getElem?_eq_getElem hkl)
      clear hcs
      obtain ⟨hcb, hfb⟩ := bcell hiv.below
      have HFn := Lib.hid (FS_next l k hkl)
      have Hnx := Lib.hid (ivR_next rs l k hkl)
      have hFk := FS_take l (k + 1)
      have hFl2 := HF.out
      have hok := Hok.out l[k] (List.getElem_mem hkl)
      have hsm := Hsm.out k (by omega)
      have hTn := TS_next l k hkl
      have hTt := TS_take l (k + 1)
      rw [hTn] at hTt
      clear hTn
      have hx : FS (l.take (k + 1)) = FS (l.take k) + l[k].F := FS_next l k hkl
      rw [hx] at hFk
      clear hx
      have hlt2 := hiv.lt
      have Hiv := Lib.hid hiv
      clear hiv
      generalize FS (l.take k) = F at *
      generalize l[k] = p at *
      generalize ivR rs l k = RR at *
      cases p with
      | k m =>
        simp only [P.part, P.F, P.ok, P.T] at c0 c1 c2 hFk hok HFn hTt
        simp only [iv, List.foldl_cons, List.foldl_nil] at Hnx
        have hm4 : m ≤ 100000 := by omega
        have hFm : F + m ≤ 4000 := by omega
        have HK := Lib.hid (fun cs => bkeep (g + 1) (g + 1 + 1) (g + 1) RR v m (wr.alloc cs) (Hiv.out.bd.go ((Below.refl _ _).alloc (Nat.le_refl _) _)) hsm (by omega) (by simp; omega))
        clear hFl2 hFl hTl hTt hsm
        go_wp2_with fail
        refine (HK.out _).mono ?_
        intro e w6 hadd
        obtain ⟨rfl, v6, h6, b6⟩ := Hiv.out.put hadd
        rw [← Hnx.out] at h6
        have H6 := Lib.hid h6
        have d1 : w6.cell? ⟨wr.heap.size, 1, none⟩ = some (.int .i64 ((m : Nat) : Int)) := b6.cell 1
        clear hadd h6 b6 HK Hiv hcb hfb Hnx
        go_wp2_with fail
        go_roundw
        case rel => exact ⟨k + 1, v6, by omega, by go_num, by rw [HFn.out]; go_num, H6.out⟩
        case measure => simp [intOf]; omega
      | i t =>
        simp only [P.part, P.F, P.ok, P.T] at c0 c1 c2 hFk hok HFn hTt
        simp only [iv, List.foldl_cons, List.foldl_nil] at Hnx
        have hz := enc_size t hok.2
        have ht4 : t.length ≤ 4000 := by omega
        have hrct := rc_enc t hok.2
        have HC := Lib.hid (fun W : World => rc_any (Uni.enc t) W (by unfold strMax; omega))
        rw [hrct] at HC
        have HK := Lib.hid (fun W (hI : Ivs w (g + 1) g rs RR v W) => bremove (g + 1) (g + 1 + 1) (g + 1) RR v t.length W hI.bd hsm (by omega) (by have := hI.lt; omega))
        have Hal := Lib.hid (Hiv.out.go ((Below.refl _ _).alloc (Nat.le_refl _) (.cells #[.int .i64 2, .int .i64 0, .string (Uni.enc t)] 53)))
        clear hFl2 hFl hTl hTt hsm hrct
        generalize Uni.enc t = T at *
        go_wp2_with fail
        refine (HC.out _).mono ?_
        rintro e w5 ⟨rfl, u5⟩
        have H5 := Lib.hid (Hal.out.go u5)
        clear u5 Hal HC Hiv
        go_wp2_with fail
        refine (HK.out _ H5.out).mono ?_
        intro e w6 hadd
        obtain ⟨rfl, v6, h6⟩ := H5.out.put0 hadd
        rw [← Hnx.out] at h6
        have H6 := Lib.hid h6
        clear hadd h6 HK H5 hcb hfb Hnx
        go_wp2_with fail
        go_roundw
        case rel => exact ⟨k + 1, v6, by omega, by go_num, by rw [HFn.out]; go_num, H6.out⟩
        case measure => simp [intOf]; omega
      | d m =>
        simp only [P.part, P.F, P.ok, P.T] at c0 c1 c2 hFk hok HFn hTt
        simp only [iv, List.foldl_cons, List.foldl_nil] at Hnx
        have hrl : F + m ≤ rs.length := by omega
        have hFm : F + m ≤ 4000 := by omega
        have hvt : ∀ r ∈ (rs.drop F).take m, Uni.vr r := fun r h => Hvr.out r (List.mem_of_mem_drop (List.mem_of_mem_take h))
        have hlt4 : ((rs.drop F).take m).length ≤ 4000 := by rw [List.length_take]; omega
        have HK := Lib.hid (fun cs => binsert (g + 1) (g + 1 + 1) (g + 1) RR v ((rs.drop F).take m) (wr.alloc cs) (Hiv.out.bd.go ((Below.refl _ _).alloc (Nat.le_refl _) _)) hsm (by omega) hvt (by simp; omega))
        have hcv := ((Hiv.out.go ((Below.refl _ _).alloc (Nat.le_refl _) (.cells #[.int .i64 3, .int .i64 ((m : Nat) : Int), .string noText] 53))).run).conv F m (cap - F) hrl
        clear hFl2 hFl hTl hTt hsm hvt hlt4
        generalize (rs.drop F).take m = T at *
        go_wp2_with fail
        refine (HK.out _).mono ?_
        intro e w6 hadd
        obtain ⟨rfl, v6, h6, b6⟩ := Hiv.out.put hadd
        rw [← Hnx.out] at h6
        have H6 := Lib.hid h6
        have d1 : w6.cell? ⟨wr.heap.size, 1, none⟩ = some (.int .i64 ((m : Nat) : Int)) := b6.cell 1
        clear hadd h6 b6 HK Hiv hcb hfb Hnx hcv
        go_wp2_with fail
        go_roundw
        case rel => exact ⟨k + 1, v6, by omega, by go_num, by rw [HFn.out]; go_num, H6.out⟩
        case measure => simp [intOf]; omega
    · have hkn : k = l.length := by have := Hl.out; omega
      subst hkn
      have RX := hiv.bd.bag.rd (can_fit hiv.bd.can (Hsm.out _ (Nat.le_refl _))) (A := fun z => w.heap.size ≤ z ∧ z < wr.heap.size) (fun z hz => ⟨by have := (hiv.bd.bag.rowlt z hz).1; have := hiv.wb; omega, (hiv.bd.bag.rowlt z hz).2⟩)
      rw [← List.map_reverse, Hfin.out] at RX
      obtain ⟨ax, cx, rfl, hrx⟩ := RX
      have c0 : wr.cell? ⟨g + 1, 0, none⟩ = some (.slice ax L.length cx) := (show Blk (g + 1) _ wr from hiv.bd.bag.blk).cell 0
      have HX := Lib.hid hrx
      have HB := Lib.hid hiv.below
      clear hiv hrx
      go_wp2_with fail
      go_ret2
      exact ⟨ax, cx, rfl, HX.out, HB.out⟩
end Go.Proofs.YtkbfhgcjimfgkaaDoor
set_option linter.unusedSimpArgs false
namespace Go.Proofs.YtkbfhgcjimfgkaaDoor
open Go.RowKit
theorem text_small {t : Str} (h : checkText t = 0) : t.size ≤ 70368744177664 := by
  obtain ⟨hv, hr⟩ := valid_of h
  have h2 := enc_size (rns t) (rns_vr hv)
  rw [enc_rns hv] at h2
  have h3 := rc_rns t
  omega
def Tn.setText (t : Tn) (s : Str) : Tn := { t with node := { t.node with text := s } }
/-- an edit that is not refused -/
def Tn.edited (t : Tn) (o : Op) : Tn := (((t.setText (applyS t.node.text o)).move true o)).forward o (-1)
/-- it is refused: too long, or a neighbour has not told for long -/
def Tn.full (t : Tn) (o : Op) : Bool := (o.any isIns && decide (300 < sumT o)) || t.node.sides.any isFull
set_option maxRecDepth 100000 in
set_option maxHeartbeats 8000000 in
theorem ndEdit_ok (base g : Nat) (t : Tn) (vs : Nat → Value) (o : Op) (oa : Option Addr) (oc : Nat) (w : World) (hg : Good w) (h : WkM base g t vs w) (hr : RdS (NM g vs w) w o oa o.length oc) (hy : t.node.ready = true) (h0 : checkText t.node.text = 0) (h1 : check o = 0) (h2 : sumF o = rc t.node.text) (hF : t.full o = false)
    (hk : ∀ v2 W, Good W → WkM base g ((t.setText (applyS t.node.text o)).move true o) v2 W → RdS (NM g v2 W) W o oa o.length oc → Calls Tryd.prog 62 #[.pointer (some ⟨g, 0, none⟩), .slice oa o.length oc, .int .i64 (-1)] W fun e w' => e = .returned (.tuple #[]) ∧ WkS base g (t.edited o) v2 W w') (hml : t.node.marks.length ≤ 1000000) :
    Calls Tryd.prog 34 #[.pointer (some ⟨g, 0, none⟩), .slice oa o.length oc] w fun e w' => ∃ (ba : Option Addr) (bc : Nat), e = .returned (.tuple #[.slice ba (invO t.node.text o).length bc, .int .i64 0]) ∧
      ∃ v2, WkM base g (t.edited o) v2 w' ∧ Touch (Mine g vs) w w' ∧ (∀ z, Mine g v2 z → Mine g vs z ∨ w.heap.size ≤ z) ∧ RdS (fun z => z < w'.heap.size ∧ w.heap.size ≤ z ∧ ¬ Mine g v2 z) w' (invO t.node.text o) ba (invO t.node.text o).length bc := by
  have hts : t.node.text.size ≤ 70368744177664 := by
    exact text_small h0
  have hW : ∀ W, Below w.heap.size w W → RdS (· < W.heap.size) W o oa o.length oc := fun W hW => hr.mono fun z hz => ⟨Nat.lt_of_lt_of_le hz.1 hW.size, hW.block z hz.1⟩
  have HI := Lib.hid (fun W (hB : Below w.heap.size w W) => invert_new t.node.text o oa _ oc W (hg.go hB) (hW W hB) hts h0 h1 h2)
  have HLn := Lib.hid (fun W (hB : Below w.heap.size w W) => lengths_any (· < W.heap.size) o oa _ oc W (hW W hB) (check_small h1))
  have HIn := Lib.hid (fun W (hB : Below w.heap.size w W) => insIn_any o oa _ oc W (hW W hB))
  have HA := Lib.hid (fun W (hB : Below w.heap.size w W) => apply_any t.node.text o oa _ oc W (hg.go hB) (hW W hB) hts)
  obtain ⟨a1, a2, a3, a4, a5, a6⟩ := apply_good h0 h1 h2
  rw [a1] at HA
  obtain ⟨sa, sc, hv0, hrs⟩ : ∃ a c, vs 0 = .slice a t.node.sides.length c ∧ RdS (· < w.heap.size) w t.node.sides a t.node.sides.length c := (h.rows 0 (by omega) : OwnO (WX base g vs) base (vs 0) t.node.sides w).rd (fun b hb _ => hb) (fun k hk => ((h.rows 0 (by omega) : OwnO (WX base g vs) base (vs 0) t.node.sides w).rowlt k hk).2)
  have HFl := Lib.hid (fun W (hB : Below w.heap.size w W) => fullIn_any t.node.sides sa _ sc W (hrs.go hB))
  have HM := Lib.hid h
  have Hg := Lib.hid hg
  have Hr := Lib.hid hr
  have Hk := Lib.hid hk
  have H1 := Lib.hid h1
  have HV0 := Lib.hid hv0
  have Hml := Lib.hid hml
  have HNP := Lib.hid (fun W => node_ptr g W)
  have Ha6 := Lib.hid a6
  unfold Tn.full at hF
  have hF2 : t.node.sides.any isFull = false := by
    cases hq : t.node.sides.any isFull
    · rfl
    · rw [hq] at hF; simp at hF
  rw [hF2, Bool.or_false] at hF
  rw [hF2] at HFl
  have hgl := h.lt
  obtain ⟨-, -, -, p3, p4, p5, -, -, -, -⟩ := blk10_cells h.box
  rw [hy] at p3
  rw [hv0] at p5
  clear hg h hr hk h0 h1 h2 hts hW a1 a2 a3 a4 a5 a6 hv0 hrs hy hml hF2
  go_enter Tryd.func34, Tryd.ntmps34
  go_wp2_with fail
  refine (HNP.out w).mono ?_
  rintro e w1 ⟨rfl, rfl⟩
  go_wp2_with fail
  refine (HI.out w (Below.refl _ _)).mono ?_
  rintro e w2 ⟨ba, bc, rfl, hb, b2⟩
  have B2 := Lib.hid b2
  have HB := Lib.hid hb
  have p5' : w2.cell? ⟨g, 5, none⟩ = some (vs 0) := (HM.out.go b2).box.cell 5
  rw [HV0.out] at p5'
  clear b2 hb HI p3 p4 p5
  go_wp2_with fail
  refine (HLn.out w2 B2.out).mono ?_
  rintro e w3 ⟨rfl, b3⟩
  have B3 := Lib.hid (up B2.out b3)
  have B23 := Lib.hid b3
  clear b3 HLn
  go_wp2_with fail
  refine (HIn.out w3 B3.out).mono ?_
  rintro e w4 ⟨rfl, b4⟩
  have B4 := Lib.hid (up B3.out b4)
  have B24 := Lib.hid (up B23.out b4)
  have p5 : w4.cell? ⟨g, 5, none⟩ = some (vs 0) := (HM.out.go B4.out).box.cell 5
  rw [HV0.out] at p5
  clear b4 HIn B3 B23 p5'
  go_wp2_with fail
  refine (HFl.out w4 B4.out).mono ?_
  rintro e w5 ⟨rfl, b5⟩
  have B5 := Lib.hid (up B4.out b5)
  have B25 := Lib.hid (up B24.out b5)
  have p4 : w5.cell? ⟨g, 4, none⟩ = some (.string t.node.text) := (HM.out.go B5.out).box.cell 4
  have f4 := ((HM.out.go B5.out).box.frozen 4)
  clear b5 HFl B4 B24 p5
  go_upto_region 10 with fail
  go_cut [11, 38, 51] from 44 to 51 (fun _ _ s51 W => s51 = .bool false ∧ w5 = W)
  case first =>
    cases hq : o.any isIns
    · go_wp2_with fail
      go_meet
      case rel => exact ⟨rfl, rfl⟩
    · rw [hq] at hF
      have hs : ¬ (300 : Int) < sumT o := by simpa using hF
      go_wp2_with fail
      go_meet
      case rel => exact ⟨by simp [hs], rfl⟩
  case rest =>
    obtain ⟨rfl, rfl⟩ := hcut
    go_wp2_with fail
    refine (HA.out w5 B5.out).mono ?_
    rintro e w6 ⟨rfl, b6⟩
    have B6 := Lib.hid (up B5.out b6)
    have B26 := Lib.hid (up B25.out b6)
    have M6 := Lib.hid (HM.out.go B6.out)
    have p4' : w6.cell? ⟨g, 4, none⟩ = some (.string t.node.text) := M6.out.box.cell 4
    have f4' := M6.out.box.frozen 4
    have hz6 := B6.out.size
    clear b6 HA B5 B25 p4 f4
    go_upto_region 13 with fail
    have hT := touch1 (w := w6) (g := g) (i := 4) (.string (applyS t.node.text o))
    refine abs_w (fun W => WkM base g (t.setText (applyS t.node.text o)) vs W ∧ Touch (Mine g vs) w6 W) ⟨M6.out.put hT (M6.out.box.set 4 _) (fun i X v W h => h) ⟨M6.out.fit.1, M6.out.fit.2.1, M6.out.fit.2.2.1, by show (applyS t.node.text o).size ≤ strMax; have := Ha6.out; unfold strMax; omega⟩, hT.mono fun z _ hz => .inl hz⟩ ?_
    rintro w7 ⟨m7, t7⟩
    have M7 := Lib.hid m7
    have T7 := Lib.hid t7
    have T07 := Lib.hid ((Touch.of_below B6.out).trans t7)
    clear m7 t7 hT p4' f4'
    go_wp2_with fail
    refine (ndMove_any base g (t.setText (applyS t.node.text o)) vs o oa oc true w7 (Hg.out.wk HM.out T07.out) M7.out (Hr.out.mono fun z hz => ⟨⟨Nat.lt_of_lt_of_le hz.1 T07.out.size, hz.2⟩, T07.out.block z hz.1 hz.2⟩) H1.out Hml.out).mono ?_
    rintro e w8 ⟨rfl, v8, m8, t8, h8⟩
    have M8 := Lib.hid m8
    have T8 := Lib.hid t8
    have H8 := Lib.hid h8
    have T08 := Lib.hid (T07.out.trans t8)
    clear m8 t8 h8
    go_wp2_with fail
    refine (Hk.out v8 w8 (Hg.out.wk HM.out T08.out) M8.out (Hr.out.mono fun z hz => ⟨⟨Nat.lt_of_lt_of_le hz.1 T08.out.size, fun h => by
      rcases H8.out z h with h1 | h1
      · exact hz.2 h1
      · have := T07.out.size; have := hz.1; omega⟩, T08.out.block z hz.1 hz.2⟩)).mono ?_
    rintro e w9 ⟨rfl, v9, m9, t9, h9⟩
    have M9 := Lib.hid m9
    have H9 := Lib.hid h9
    have hm8 : Hid (∀ z, Mine g v8 z → Mine g vs z ∨ w7.heap.size ≤ z) := H8.out
    have T9 := Lib.hid t9
    clear m9 t9 h9
    go_wp2_with fail
    go_ret2
    have hmi := HM.out.mine
    have z67 := T7.out.size
    have z78 := T8.out.size
    have z89 := T9.out.size
    have z26 := B26.out.size
    have z02 := B2.out.size
    refine ⟨ba, bc, rfl, v9, M9.out, T08.out.wk (fun z h => (H8.out z h).imp_right fun h => by omega) T9.out, fun z h => ?_, HB.out.mono fun z hz => ?_⟩
    · rcases H9.out z h with h | h
      · exact (H8.out z h).imp_right fun h => by omega
      · exact .inr (by omega)
    · have n0 : ¬ Mine g vs z := fun h => by have := (hmi z h).2; omega
      have n8 : ¬ Mine g v8 z := fun h => by
        rcases H8.out z h with h | h
        · exact n0 h
        · omega
      have n9 : ¬ Mine g v9 z := fun h => by
        rcases H9.out z h with h | h
        · exact n8 h
        · omega
      exact ⟨⟨by omega, hz.1, n9⟩, (T9.out.block z (by omega) n8).trans ((T8.out.block z (by omega) n0).trans ((T7.out.block z (by omega) n0).trans (B26.out.block z hz.2)))⟩
set_option maxRecDepth 100000 in
set_option maxHeartbeats 8000000 in
theorem ndEdit_full (base g : Nat) (t : Tn) (vs : Nat → Value) (o : Op) (oa : Option Addr) (oc : Nat) (w : World) (hg : Good w) (h : WkM base g t vs w) (hr : RdS (NM g vs w) w o oa o.length oc) (hy : t.node.ready = true) (h0 : checkText t.node.text = 0) (h1 : check o = 0) (h2 : sumF o = rc t.node.text) (hF : t.full o = true) :
    Calls Tryd.prog 34 #[.pointer (some ⟨g, 0, none⟩), .slice oa o.length oc] w fun e w' => e = .returned (.tuple #[.slice none 0 0, .int .i64 8]) ∧ Below w.heap.size w w' := by
  have hts : t.node.text.size ≤ 70368744177664 := by
    exact text_small h0
  have hW : ∀ W, Below w.heap.size w W → RdS (· < W.heap.size) W o oa o.length oc := fun W hW => hr.mono fun z hz => ⟨Nat.lt_of_lt_of_le hz.1 hW.size, hW.block z hz.1⟩
  have HI := Lib.hid (fun W (hB : Below w.heap.size w W) => invert_new t.node.text o oa _ oc W (hg.go hB) (hW W hB) hts h0 h1 h2)
  have HLn := Lib.hid (fun W (hB : Below w.heap.size w W) => lengths_any (· < W.heap.size) o oa _ oc W (hW W hB) (check_small h1))
  have HIn := Lib.hid (fun W (hB : Below w.heap.size w W) => insIn_any o oa _ oc W (hW W hB))
  obtain ⟨a1, a2, a3, a4, a5, a6⟩ := apply_good h0 h1 h2
  obtain ⟨sa, sc, hv0, hrs⟩ : ∃ a c, vs 0 = .slice a t.node.sides.length c ∧ RdS (· < w.heap.size) w t.node.sides a t.node.sides.length c := (h.rows 0 (by omega) : OwnO (WX base g vs) base (vs 0) t.node.sides w).rd (fun b hb _ => hb) (fun k hk => ((h.rows 0 (by omega) : OwnO (WX base g vs) base (vs 0) t.node.sides w).rowlt k hk).2)
  have HFl := Lib.hid (fun W (hB : Below w.heap.size w W) => fullIn_any t.node.sides sa _ sc W (hrs.go hB))
  have HM := Lib.hid h
  have Hg := Lib.hid hg
  have Hr := Lib.hid hr
  have H1 := Lib.hid h1
  have HV0 := Lib.hid hv0
  have HNP := Lib.hid (fun W => node_ptr g W)
  have Ha6 := Lib.hid a6
  unfold Tn.full at hF
  generalize t.node.sides.any isFull = q2 at *
  have hgl := h.lt
  obtain ⟨-, -, -, p3, p4, p5, -, -, -, -⟩ := blk10_cells h.box
  rw [hy] at p3
  rw [hv0] at p5
  clear hg h hr h0 h1 h2 hts hW a1 a2 a3 a4 a5 a6 hv0 hrs hy
  go_enter Tryd.func34, Tryd.ntmps34
  go_wp2_with fail
  refine (HNP.out w).mono ?_
  rintro e w1 ⟨rfl, rfl⟩
  go_wp2_with fail
  refine (HI.out w (Below.refl _ _)).mono ?_
  rintro e w2 ⟨ba, bc, rfl, hb, b2⟩
  have B2 := Lib.hid b2
  have HB := Lib.hid hb
  have p5' : w2.cell? ⟨g, 5, none⟩ = some (vs 0) := (HM.out.go b2).box.cell 5
  rw [HV0.out] at p5'
  clear b2 hb HI p3 p4 p5
  go_wp2_with fail
  refine (HLn.out w2 B2.out).mono ?_
  rintro e w3 ⟨rfl, b3⟩
  have B3 := Lib.hid (up B2.out b3)
  have B23 := Lib.hid b3
  clear b3 HLn
  go_wp2_with fail
  refine (HIn.out w3 B3.out).mono ?_
  rintro e w4 ⟨rfl, b4⟩
  have B4 := Lib.hid (up B3.out b4)
  have B24 := Lib.hid (up B23.out b4)
  have p5 : w4.cell? ⟨g, 5, none⟩ = some (vs 0) := (HM.out.go B4.out).box.cell 5
  rw [HV0.out] at p5
  clear b4 HIn B3 B23 p5'
  go_wp2_with fail
  refine (HFl.out w4 B4.out).mono ?_
  rintro e w5 ⟨rfl, b5⟩
  have B5 := Lib.hid (up B4.out b5)
  have B25 := Lib.hid (up B24.out b5)
  have p4 : w5.cell? ⟨g, 4, none⟩ = some (.string t.node.text) := (HM.out.go B5.out).box.cell 4
  have f4 := ((HM.out.go B5.out).box.frozen 4)
  clear b5 HFl B4 B24 p5
  go_upto_region 10 with fail
  go_cut [11, 12, 38, 43, 51] from 44 to 51 (fun _ _ _ _ s51 W => s51 = .bool true ∧ w5 = W)
  case first =>
    cases hq : o.any isIns
    · rw [hq] at hF
      have h2 : q2 = true := by simpa using hF
      subst h2
      go_wp2_with fail
      go_meet
      case rel => exact ⟨rfl, rfl⟩
    · rw [hq] at hF
      by_cases hs : (300 : Int) < sumT o
      · go_wp2_with fail
        go_meet
        case rel => exact ⟨rfl, rfl⟩
      · have h2 : q2 = true := by simpa [hs] using hF
        subst h2
        go_wp2_with fail
        go_meet
        case rel => exact ⟨rfl, rfl⟩
  case rest =>
    obtain ⟨rfl, rfl⟩ := hcut
    go_wp2_with fail
    go_ret2
    exact ⟨rfl, B5.out⟩
end Go.Proofs.YtkbfhgcjimfgkaaDoor
