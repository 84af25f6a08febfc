/- The walks of text.builder: last, keep, remove, insert: what is built is what parts added one by one make. -/
import Derived.Test.YtkhacogeffidoaaDoorOpLaw
import Derived.Test.YtkhacogeffidoaaDoorMason
set_option linter.unusedVariables false
set_option linter.unusedSimpArgs false
namespace Go.Proofs.YtkhacogeffidoaaDoor
open Go.RowKit

set_option maxRecDepth 100000 in
set_option maxHeartbeats 1000000 in
theorem last_none (B b : Nat) (v : Value) (k : Int) (r : List Part) (w : World) (hl : r.length ≤ 1000000000000) (hk : ∀ q, r.head? = some q → q.kind ≠ k)
    (hbag : Bag 136 B b v [] r.reverse w) :
    Calls Tryd.prog 78 #[.pointer (some ⟨b, 0, none⟩), .int .i64 k] w fun e w' => e = .returned (.pointer none) ∧ w = w' := by
  obtain ⟨a, c, hv⟩ := hbag.form
  have hc0 := hbag.cell 0
  simp only [List.getElem?_cons_zero, List.length_reverse] at hc0 hv
  rw [hv] at hc0
  cases r with
  | nil =>
    clear hbag hv hk
    simp only [List.length_nil] at hc0
    go_enter Tryd.func78, Tryd.ntmps78
    go_wp2_with fail
    go_ret
    exact ⟨rfl, rfl⟩
  | cons q r =>
    obtain ⟨g, rfl, hg, hq0, hq1, hq2⟩ := hbag.last (by rw [hv])
    have hcap : r.length + 1 ≤ c := by
      rcases hbag.own.2 with ⟨_, h0⟩ | ⟨g', cap, cur, hv', _, _, hnc, _⟩
      · simp at h0
      · rw [hv] at hv'; injection hv' with _ _ h3; simp at hnc; omega
    have hne : (q.kind == k) = false := by simpa using hk q rfl
    clear hbag hv hk hg
    simp only [List.length_cons] at hc0 hl
    have h0 : 0 < r.length + 1 := by omega
    generalize r.length = n at *
    go_enter Tryd.func78, Tryd.ntmps78
    go_wp2_with fail
    go_ret
    exact ⟨rfl, rfl⟩
set_option maxRecDepth 100000 in
set_option maxHeartbeats 1000000 in
theorem last_some (B b : Nat) (v : Value) (k : Int) (q : Part) (r : List Part) (w : World) (hl : r.length ≤ 1000000000000) (hk : q.kind = k) (g : Nat) (hg0 : v.ownBlock = some g)
    (hbag : Bag 136 B b v [] (q :: r).reverse w) :
    Calls Tryd.prog 78 #[.pointer (some ⟨b, 0, none⟩), .int .i64 k] w fun e w' => e = .returned (.pointer (some ⟨g, r.length * 3, none⟩)) ∧ w = w' := by
  obtain ⟨a, c, hv⟩ := hbag.form
  have hc0 := hbag.cell 0
  simp only [List.getElem?_cons_zero, List.length_reverse] at hc0 hv
  rw [hv] at hc0
  obtain ⟨g', rfl, hg, hq0, hq1, hq2⟩ := hbag.last (by rw [hv])
  have hgg : g' = g := by rw [hg] at hg0; injection hg0
  subst hgg
  have hcap : r.length + 1 ≤ c := by
    rcases hbag.own.2 with ⟨_, h0⟩ | ⟨g', cap, cur, hv', _, _, hnc, _⟩
    · simp at h0
    · rw [hv] at hv'; injection hv' with _ _ h3; simp at hnc; omega
  have hne : (q.kind == k) = true := by simpa using hk
  clear hbag hv hk hg hg0
  simp only [List.length_cons] at hc0 hl
  have h0 : 0 < r.length + 1 := by omega
  generalize r.length = n at *
  go_enter Tryd.func78, Tryd.ntmps78
  go_wp2_with fail
  go_ret
  exact ⟨by simp [Nat.mul_comm], rfl⟩

/-- the last part's cell n is raised, its text grows -/
theorem merge_fin {T B b : Nat} {v : Value} {ex : List Value} {q p : Part} {r : List Part} {w : World} {g : Nat} (hk : p.kind = q.kind) (hbag : Bag T B b v ex (q :: r).reverse w) (hg : v.ownBlock = some g) :
    ∀ W : World, Touch (fun _ => False) w W →
    ((p.text = q.text → AddPost T B b v ex (p :: r) w (.returned (.tuple #[])) (W.setCell ⟨g, r.length * 3 + 1, none⟩ (.int .i64 p.n))) ∧
     (p.n = q.n → AddPost T B b v ex (p :: r) w (.returned (.tuple #[])) (W.setCell ⟨g, r.length * 3 + 2, none⟩ (.string p.text)))) := by
  intro W hW
  obtain ⟨a, c, hv⟩ := hbag.form
  simp only [List.length_reverse] at hv
  have hbgn : b ≠ g := fun e => hbag.ne (by rw [hg, e])
  have hbW := hbag.touch hW (fun _ _ h => h)
  have hoW := hbW.own
  rw [hv] at hoW hg
  simp only [List.length_reverse, List.length_cons] at hoW
  have hag : a = some ⟨g, 0, none⟩ := by
    rcases hoW.2 with ⟨h1, h2⟩ | ⟨g', cap, cur, h1, _⟩
    · simp at h2
    · injection h1 with h1 _ _
      subst h1
      simp [Value.ownBlock] at hg
      rw [hg]
  subst hag
  have hset := flat_set p q r hk
  have hfl := flat_len (q :: r).reverse
  simp only [List.length_reverse, List.length_cons] at hfl
  have h0 := flat_snoc q r
  have hl0 : (flat r.reverse).length = r.length * 3 := by rw [flat_len, List.length_reverse]
  refine ⟨fun ht => ?_, fun hn => ?_⟩
  · have h1 := (hoW.stored (r.length * 3 + 1) (.int .i64 p.n)).1
    have e : (flat (q :: r).reverse).set (r.length * 3 + 1) (.int .i64 p.n) = flat (p :: r).reverse := by
      rw [← hset]
      symm
      apply List.ext_getElem?
      intro i
      by_cases hi : i = r.length * 3 + 2
      · subst hi
        rw [List.getElem?_set_self (by rw [List.length_set, hfl]; omega), List.getElem?_set_ne (by omega), h0, List.getElem?_append_right (by omega), hl0]
        rw [show r.length * 3 + 2 - r.length * 3 = 2 from by omega, ht]; rfl
      · rw [List.getElem?_set_ne (by omega)]
    rw [e] at h1
    refine ⟨v, rfl, ⟨hbag.base, ?_, ?_, hbag.ne⟩, ?_, .inl rfl⟩
    · rw [Below.heap_setCell _ _ _ _ hbgn]; exact hbW.blk
    · rw [hv]; simpa using h1
    · exact ((hW.mono (fun _ _ h => h.elim)).setCell (p := ⟨g, r.length * 3 + 1, none⟩) (.inl (.inr (by rw [hv]; rfl))) _)
  · have h1 := (hoW.stored (r.length * 3 + 2) (.string p.text)).1
    have e : (flat (q :: r).reverse).set (r.length * 3 + 2) (.string p.text) = flat (p :: r).reverse := by
      rw [← hset]
      symm
      apply List.ext_getElem?
      intro i
      by_cases hi : i = r.length * 3 + 1
      · subst hi
        rw [List.getElem?_set_ne (by omega), List.getElem?_set_self (by omega), List.getElem?_set_ne (by omega), h0, List.getElem?_append_right (by omega), hl0]
        rw [show r.length * 3 + 1 - r.length * 3 = 1 from by omega, hn]; rfl
      · by_cases hi2 : i = r.length * 3 + 2
        · subst hi2; rw [List.getElem?_set_self (by rw [List.length_set, hfl]; omega), List.getElem?_set_self (by omega)]
        · rw [List.getElem?_set_ne (by omega), List.getElem?_set_ne (by omega), List.getElem?_set_ne (by omega)]
    rw [e] at h1
    refine ⟨v, rfl, ⟨hbag.base, ?_, ?_, hbag.ne⟩, ?_, .inl rfl⟩
    · rw [Below.heap_setCell _ _ _ _ hbgn]; exact hbW.blk
    · rw [hv]; simpa using h1
    · exact ((hW.mono (fun _ _ h => h.elim)).setCell (p := ⟨g, r.length * 3 + 2, none⟩) (.inl (.inr (by rw [hv]; rfl))) _)

theorem Bag.hid_row {T B b : Nat} {v : Value} {ex : List Value} {l : Op} {w : World} (h : Bag T B b v ex l w) : ∀ k, v.ownBlock = some k → k < w.heap.size := fun k hk => (h.rowlt k hk).2
theorem addR_ge {p : Part} {r : List Part} (ht : triv p = false) (h : ∀ q, r.head? = some q → ¬ q.kind = p.kind ∧ ¬ (p.kind = 2 ∧ q.kind = 3)) : addR r p = p :: r := by
  cases r with
  | nil => exact addR_nil ht
  | cons q r => exact addR_more ht (h q rfl).1 (h q rfl).2

set_option maxRecDepth 100000 in
set_option maxHeartbeats 2000000 in
theorem remove_any (B b : Nat) (v : Value) (n : Int) (r : List Part) (w : World) (hn : 0 ≤ n ∧ n ≤ 1000000000000) (hr : ∀ q ∈ r, Mild q) (hl : r.length ≤ 1000000000000)
    (hbag : Bag 136 B b v [] r.reverse w) :
    Calls Tryd.prog 73 #[.pointer (some ⟨b, 0, none⟩), .int .i64 n] w (AddPost 136 B b v [] (addR r ⟨3, n, noText⟩) w) := by
  by_cases hq : ∃ q r', r = q :: r' ∧ q.kind = 3
  · obtain ⟨q, r', rfl, hk⟩ := hq
    have he : AddPost 136 B b v [] (addR (q :: r') ⟨3, n, noText⟩) w = AddPost 136 B b v [] (⟨q.kind, q.n + n, q.text⟩ :: r') w := by
      by_cases h0 : n = 0
      · subst h0; rw [show addR (q :: r') ⟨3, 0, noText⟩ = q :: r' from by simp [addR, triv]]; congr 2; simp
      · rw [addR_merge (by simp [triv, h0]) hk]; simp only [app_noText]
    rw [he]
    clear he
    obtain ⟨a, c, hv⟩ := hbag.form
    simp only [List.length_reverse] at hv
    obtain ⟨g, rfl, hg, hq0, hq1, hq2⟩ := hbag.last (by rw [hv])
    have hrow := (hbag.rowlt g hg)
    have hown := hbag.own
    rw [hv] at hown
    simp only [List.length_reverse, List.length_cons] at hown
    have hf1 := hown.frozenAt (r'.length * 3 + 1)
    have hfin := fun W (hW : Touch (fun _ => False) w W) => (merge_fin (q := q) (p := ⟨q.kind, q.n + n, q.text⟩) rfl hbag hg W hW).1 rfl
    have Hlast := Lib.hid (last_some B b v 3 q r' w (by simp at hl; omega) hk g hg hbag)
    have Hfin := Lib.hid hfin
    have hmq := (hr q (List.mem_cons_self ..)).n
    have hgl := hrow.2
    clear hfin hown hbag hv hg hrow hr hk
    obtain ⟨qk, qn, qt⟩ := q
    simp only at *
    generalize r'.length * 3 = o at *
    go_enter Tryd.func73, Tryd.ntmps73
    go_wp2_with fail
    refine Hlast.out.mono ?_
    rintro e w1 ⟨rfl, rfl⟩
    go_wp2_with fail
    go_end0
    exact Hfin.out _ (Touch.refl _ _)
  · have hh : ∀ q, r.head? = some q → q.kind ≠ 3 := by
      intro q hq2 hk
      cases r with
      | nil => cases hq2
      | cons x r => simp at hq2; subst hq2; exact hq ⟨x, r, rfl, hk⟩
    have Hlast := Lib.hid (last_none B b v 3 r w hl hh hbag)
    by_cases h0 : n = 0
    · subst h0
      have he : addR r ⟨3, 0, noText⟩ = r := by cases r <;> simp [addR, triv]
      rw [he]
      have Hfin : Hid (AddPost 136 B b v [] r w (.returned (.tuple #[])) w) := ⟨v, rfl, hbag, Touch.refl _ _, .inl rfl⟩
      clear hbag he hr hq hh hn
      go_enter Tryd.func73, Tryd.ntmps73
      go_wp2_with fail
      refine Hlast.out.mono ?_
      rintro e w1 ⟨rfl, rfl⟩
      go_wp2_with fail
      go_end0
      exact Hfin.out
    · obtain ⟨i0, hi, hz0, hz1, hz2⟩ := info_parts infoP
      rw [addR_ge (by simp [triv, h0]) (fun q hq2 => ⟨hh q hq2, by simp⟩)]
      obtain ⟨a, c, hv⟩ := hbag.form
      simp only [List.length_reverse] at hv
      have hown := hbag.own
      rw [hv] at hown
      simp only [List.length_reverse] at hown
      have hc0 := hbag.cell 0
      have hf0 := hbag.frozen 0
      have hlt := hbag.lt
      have hbase := hbag.base
      simp only [List.getElem?_cons_zero] at hc0
      rw [hv] at hc0
      have hne := hbag.ne
      rw [hv] at hne
      have hp : 0 < n := by omega
      have Hne := Lib.hid hne
      have Hv := Lib.hid hv
      have Hbag := Lib.hid hbag
      have Hown := Lib.hid hown
      clear hne hv hbag hown hr hq hh h0
      go_enter Tryd.func73, Tryd.ntmps73
      go_wp2_with fail
      refine Hlast.out.mono ?_
      rintro e w1 ⟨rfl, rfl⟩
      clear Hlast
      go_wp2_with (at_builtin; refine wpList_append_lies _ rfl _ _ _ (by rfl) B 110 i0 _ 3 32 Tryd.underlying28 hi hz0 hz1 hz2 rfl (by omega) (.slice a r.length c) r.length (flat r.reverse) (by rfl) (Hown.out.alloc _) ⟨w.heap.size, 0, none⟩ 1 1 [.int .i64 3, .int .i64 n, .string ⟨#[]⟩] (by rfl) (by rfl) (news_at (heap_new_at _ _ _ (by simp))) (by simp [Value.oneCell']) (by omega) (by unfold maxLen; omega) (by omega) (by simp; omega) (w.heap.size + 1) (by simp) ?_)
      intro gg cap w1 hown1 hgrow hat hlt1
      have hbk1 : w1.heap[b]? = w.heap[b]? := (hgrow.block b (by simp; omega) (Ne.symm Hne.out)).trans (Below.heap_alloc w _ b hlt)
      have hf1 : w1.frozen? ⟨b, 0, none⟩ = false := (World.frozen?_of_block (a := ⟨b, 0, none⟩) hbk1).trans hf0
      have hd1 := (cell_keep (o := 0) hbk1).trans hc0
      have Hown1 := Lib.hid hown1
      have Hgrow := Lib.hid hgrow
      have Hat := Lib.hid hat
      have Hbk1 := Lib.hid hbk1
      clear hown1 hgrow hat hbk1
      go_wp2_with fail
      go_end0
      exact add_fin hbase Hv.out Hbag.out.blk Hbk1.out (by rw [flat_snoc]; simpa [partCells, noText] using Hown1.out) ((Touch.refl _ w).alloc _) Hgrow.out (Hat.out.imp_right (fun h => by omega))

theorem AddPost.from {T B b : Nat} {v v1 : Value} {ex : List Value} {r : List Part} {w w1 w2 : World} {e : Ending} (h1 : Touch (Bag.S b v) w w1) (hv1 : v1.ownBlock = v.ownBlock ∨ ∀ g, v1.ownBlock = some g → w.heap.size ≤ g)
    (h2 : AddPost T B b v1 ex r w1 e w2) : AddPost T B b v ex r w e w2 := by
  obtain ⟨v2, he, hb, ht, hv2⟩ := h2
  have hsub : ∀ k, k < w.heap.size → Bag.S b v1 k → Bag.S b v k := by
    rintro k hk (rfl | h)
    · exact .inl rfl
    · rcases hv1 with h' | h'
      · exact .inr (h' ▸ h)
      · have := h' k h; omega
  refine ⟨v2, he, hb, h1.then_ ht hsub, ?_⟩
  rcases hv2 with h | h
  · rcases hv1 with h' | h'
    · exact .inl (h.trans h')
    · exact .inr fun g hg => h' g (by rw [← h]; exact hg)
  · exact .inr fun g hg => Nat.le_trans h1.size (h g hg)

set_option maxRecDepth 100000 in
set_option maxHeartbeats 2000000 in
theorem insert_top (B b : Nat) (v : Value) (s : Str) (r : List Part) (w : World) (hs : s.size ≤ 1000000000000) (hr : ∀ q ∈ r, Mild q) (hl : r.length ≤ 1000000000000) (hn3 : ∀ q, r.head? = some q → q.kind ≠ 3)
    (hbag : Bag 136 B b v [] r.reverse w) :
    Calls Tryd.prog 69 #[.pointer (some ⟨b, 0, none⟩), .string s] w (AddPost 136 B b v [] (addR r ⟨2, 0, s⟩) w) := by
  cases he : emptyS s with
  | true =>
    have h1 : addR r ⟨2, 0, s⟩ = r := by cases r <;> simp [addR, triv, he]
    rw [h1]
    have Hfin : Hid (AddPost 136 B b v [] r w (.returned (.tuple #[])) w) := ⟨v, rfl, hbag, Touch.refl _ _, .inl rfl⟩
    have h2 : s.toList.isEmpty = true := he
    clear he h1 hbag hr hn3
    go_enter Tryd.func69, Tryd.ntmps69
    go_wp2_with fail
    go_end0
    exact Hfin.out
  | false =>
    have ht : triv ⟨2, 0, s⟩ = false := by simp [triv, he]
    have h2 : s.toList.isEmpty = false := he
    by_cases hq : ∃ q r', r = q :: r' ∧ q.kind = 2
    · obtain ⟨q, r', rfl, hk⟩ := hq
      rw [addR_merge ht hk]
      obtain ⟨a, c, hv⟩ := hbag.form
      simp only [List.length_reverse] at hv
      obtain ⟨g, rfl, hg, hq0, hq1, hq2⟩ := hbag.last (by rw [hv])
      have hrow := (hbag.rowlt g hg)
      have hown := hbag.own
      rw [hv] at hown
      simp only [List.length_reverse, List.length_cons] at hown
      have hf1 := hown.frozenAt (r'.length * 3 + 2)
      have hfin := fun W (hW : Touch (fun _ => False) w W) => (merge_fin (q := q) (p := ⟨q.kind, q.n + 0, q.text ++ s⟩) rfl hbag hg W hW).2 (by simp)
      have Hlast := Lib.hid (last_some B b v 2 q r' w (by simp at hl; omega) hk g hg hbag)
      have Hfin := Lib.hid hfin
      have hadd : ∀ W : World, (Op.stringOp .add q.text s).run Tryd.prog W = .ok (.string (q.text ++ s)) W := fun W => run_string_add_sum W _ _ (by have h1 := (hr q (List.mem_cons_self ..)).t; omega)
      have hgl := hrow.2
      clear hfin hown hbag hv hg hrow hr hk ht he hn3
      obtain ⟨qk, qn, qt⟩ := q
      simp only at *
      generalize r'.length * 3 = o at *
      go_enter Tryd.func69, Tryd.ntmps69
      go_wp2_with fail
      refine Hlast.out.mono ?_
      rintro e w1 ⟨rfl, rfl⟩
      go_wp2_with fail
      go_end0
      exact Hfin.out _ (Touch.refl _ _)
    · have hh : ∀ q, r.head? = some q → q.kind ≠ 2 := by
        intro q hq2 hk
        cases r with
        | nil => cases hq2
        | cons x r => simp at hq2; subst hq2; exact hq ⟨x, r, rfl, hk⟩
      have Hl2 := Lib.hid (last_none B b v 2 r w hl hh hbag)
      have Hl3 := Lib.hid (last_none B b v 3 r w hl hn3 hbag)
      obtain ⟨i0, hi, hz0, hz1, hz2⟩ := info_parts infoP
      rw [addR_ge ht (fun q hq2 => ⟨hh q hq2, fun h => hn3 q hq2 h.2⟩)]
      obtain ⟨a, c, hv⟩ := hbag.form
      simp only [List.length_reverse] at hv
      have hown := hbag.own
      rw [hv] at hown
      simp only [List.length_reverse] at hown
      have hc0 := hbag.cell 0
      have hf0 := hbag.frozen 0
      have hlt := hbag.lt
      have hbase := hbag.base
      simp only [List.getElem?_cons_zero] at hc0
      rw [hv] at hc0
      have hne := hbag.ne
      rw [hv] at hne
      have Hne := Lib.hid hne
      have Hv := Lib.hid hv
      have Hbag := Lib.hid hbag
      have Hown := Lib.hid hown
      clear hne hv hbag hown hr hq hh ht he hn3
      go_enter Tryd.func69, Tryd.ntmps69
      go_wp2_with fail
      refine Hl2.out.mono ?_
      rintro e w1 ⟨rfl, rfl⟩
      clear Hl2
      go_wp2_with fail
      refine Hl3.out.mono ?_
      rintro e w1 ⟨rfl, rfl⟩
      clear Hl3
      go_wp2_with (at_builtin; refine wpList_append_lies _ rfl _ _ _ (by rfl) B 110 i0 _ 3 32 Tryd.underlying28 hi hz0 hz1 hz2 rfl (by omega) (.slice a r.length c) r.length (flat r.reverse) (by rfl) (Hown.out.alloc _) ⟨w.heap.size, 0, none⟩ 1 1 [.int .i64 2, .int .i64 0, .string s] (by rfl) (by rfl) (news_at (heap_new_at _ _ _ (by simp))) (by simp [Value.oneCell']) (by omega) (by unfold maxLen; omega) (by omega) (by simp; omega) (w.heap.size + 1) (by simp) ?_)
      intro gg cap w1 hown1 hgrow hat hlt1
      have hbk1 : w1.heap[b]? = w.heap[b]? := (hgrow.block b (by simp; omega) (Ne.symm Hne.out)).trans (Below.heap_alloc w _ b hlt)
      have hf1 : w1.frozen? ⟨b, 0, none⟩ = false := (World.frozen?_of_block (a := ⟨b, 0, none⟩) hbk1).trans hf0
      have hd1 := (cell_keep (o := 0) hbk1).trans hc0
      have Hown1 := Lib.hid hown1
      have Hgrow := Lib.hid hgrow
      have Hat := Lib.hid hat
      have Hbk1 := Lib.hid hbk1
      clear hown1 hgrow hat hbk1
      go_wp2_with fail
      go_end0
      exact add_fin hbase Hv.out Hbag.out.blk Hbk1.out (by rw [flat_snoc]; simpa [partCells, noText] using Hown1.out) ((Touch.refl _ w).alloc _) Hgrow.out (Hat.out.imp_right (fun h => by omega))

set_option maxRecDepth 100000 in
set_option maxHeartbeats 2000000 in
theorem insert_any (B b : Nat) (v : Value) (s : Str) (r : List Part) (w : World) (hs : s.size ≤ 1000000000000) (hval : valid s = true) (hc : Canon r) (hr0 : ∀ q ∈ r, Mild q ∧ q.text.size + s.size ≤ 1000000000000) (hl : r.length ≤ 100000000000)
    (hbag : Bag 136 B b v [] r.reverse w) :
    Calls Tryd.prog 69 #[.pointer (some ⟨b, 0, none⟩), .string s] w (AddPost 136 B b v [] (addR r ⟨2, 0, s⟩) w) := by
  have hr : ∀ q ∈ r, Mild q := fun q hq => (hr0 q hq).1
  by_cases hq : ∃ q r', r = q :: r' ∧ q.kind = 3 ∧ emptyS s = false
  · obtain ⟨q, r', rfl, hk, he⟩ := hq
    have ht : triv ⟨2, 0, s⟩ = false := by simp [triv, he]
    have h2 : s.toList.isEmpty = false := he
    have hq3 : ∀ x, r'.head? = some x → x.kind ≠ 3 := by
      intro x hx
      cases r' with
      | nil => cases hx
      | cons y r' =>
        simp at hx; subst hx
        have := hc.2.1
        unfold clash at this
        simp at this
        intro h
        exact this.1 (by omega)
    rw [addR_swap ht (by simp [hk]) ⟨rfl, hk⟩]
    have hadd := (addR_canon (proto_ins s hval) hc.tail).2 ht rfl hq3
    have hqs : q = ⟨3, q.n, noText⟩ ∧ 1 ≤ q.n := by
      obtain ⟨qk, qn, qt⟩ := q
      simp only at hk
      subst hk
      rcases hc.head with ⟨_, h1, h3⟩ | ⟨h1, _⟩
      · simp only at h1 h3; subst h3; exact ⟨rfl, h1⟩
      · simp at h1
    have hend : addR (addR r' ⟨2, 0, s⟩) ⟨3, q.n, noText⟩ = q :: addR r' ⟨2, 0, s⟩ := by
      rw [addR_ge (by simp [triv]; have := hqs.2; omega) (fun x hx => ⟨by have := hadd x hx; simp only; omega, by simp⟩), ← hqs.1]
    obtain ⟨a, c, hv⟩ := hbag.form
    simp only [List.length_reverse, List.length_cons] at hv
    obtain ⟨g, rfl, hg, hq0, hq1, hq2⟩ := hbag.last (by rw [hv])
    have hrow := (hbag.rowlt g hg)
    have hcap : r'.length + 1 ≤ c := by
      rcases hbag.own.2 with ⟨_, h0⟩ | ⟨g', cap, cur, hv', _, _, hnc, _⟩
      · simp at h0
      · rw [hv] at hv'; injection hv' with _ _ h3; simp at hnc; omega
    have hc0 := hbag.cell 0
    have hf0 := hbag.frozen 0
    simp only [List.getElem?_cons_zero] at hc0
    rw [hv] at hc0
    have Hl2 := Lib.hid (last_none B b v 2 (q :: r') w (by simp at hl ⊢; omega) (fun x hx => by simp at hx; subst hx; omega) hbag)
    have Hl3 := Lib.hid (last_some B b v 3 q r' w (by simp at hl; omega) hk g hg hbag)
    have hr' : ∀ x ∈ r', Mild x := fun x hx => hr x (List.mem_cons_of_mem _ hx)
    have hl' : r'.length ≤ 100000000000 := by simp at hl; omega
    -- the world in which the inner call begins
    have hcut : ∀ W : World, Touch (fun _ => False) w W → Bag 136 B b (.slice (some ⟨g, 0, none⟩) r'.length c) [] r'.reverse (W.setCell ⟨b, 0, none⟩ (.slice (some ⟨g, 0, none⟩) r'.length c)) := by
      intro W hW
      have hbW := hbag.touch hW (fun _ _ h => h)
      have hoW := hbW.own
      rw [hv] at hoW
      simp only [List.length_reverse, List.length_cons] at hoW
      have h1 := ownsRow_cut hoW r'.length (by omega)
      rw [flat_snoc] at h1
      have h2 : (flat r'.reverse ++ partCells q).take (r'.length * 3) = flat r'.reverse := by
        have := flat_len r'.reverse
        rw [List.length_reverse] at this
        rw [← this, List.take_left]
      rw [h2] at h1
      exact Bag.put hbag.base hbW.blk (by simpa using h1) (by decide)
    have HI := Lib.hid (fun W h => insert_top B b (.slice (some ⟨g, 0, none⟩) r'.length c) s r' W hs hr' (by omega) hq3 h)
    have HR := Lib.hid (fun v W (hm : ∀ x ∈ addR r' ⟨2, 0, s⟩, Mild x) h => remove_any B b v q.n (addR r' ⟨2, 0, s⟩) W ⟨by have := hqs.2; omega, (hr q (List.mem_cons_self ..)).n.2⟩ hm (by have := addR_len r' ⟨2, 0, s⟩; omega) h)
    have Hmild : Hid (∀ x ∈ addR r' ⟨2, 0, s⟩, Mild x) := by
      unfold Hid
      refine addR_each (fun q => Mild q ∧ q.text.size + s.size ≤ 1000000000000) Mild _ ⟨by simp only; omega, by simp only; omega, hs⟩ (fun q h => h.1) (fun q h hk => ⟨h.1.k, by have := h.1.n; simp only; omega, by simp only [size_app]; exact h.2⟩) r' (fun x hx => hr0 x (List.mem_cons_of_mem _ hx))
    rw [hend] at HR
    have Hcut := Lib.hid hcut
    have Hg := Lib.hid hg
    have hlt := hbag.lt
    have hgl := hrow.2
    clear hcut hbag hv hrow hr hr' hr0 hadd hend hc hval hq3 hg
    have hqk := hqs.2
    clear hqs
    obtain ⟨qk, qn, qt⟩ := q
    simp only at *
    have h0 : 0 < r'.length + 1 := by omega
    generalize hF : (⟨qk, qn, qt⟩ :: addR r' ⟨2, 0, s⟩ : List Part) = F at *
    have HF := Lib.hid hF
    clear hF
    generalize addR r' ⟨2, 0, s⟩ = R at *
    go_enter Tryd.func69, Tryd.ntmps69
    go_wp2_with fail
    refine Hl2.out.mono ?_
    rintro e w1 ⟨rfl, rfl⟩
    clear Hl2
    go_wp2_with fail
    refine Hl3.out.mono ?_
    rintro e w1 ⟨rfl, rfl⟩
    clear Hl3
    go_wp2_with fail
    go_region
    go_wp2_with fail
    refine (HI.out _ ((Hcut.out w (Touch.refl _ _)).touch (Touch.refl (fun _ => False) _).drew (fun _ _ h => h))).mono ?_
    rintro e w2 ⟨v2, rfl, hbag2, ht2, hat2⟩
    have Hb2 := Lib.hid hbag2
    have Ht2 := Lib.hid ht2
    have Hat2 := Lib.hid hat2
    clear hbag2 ht2 hat2
    go_wp2_with fail
    refine (HR.out _ _ Hmild.out Hb2.out).mono ?_
    rintro e w3 hpost
    have hpost : AddPost 136 B b v [] F w e w3 := by
      have t0 : Touch (Bag.S b v) w (w.setCell ⟨b, 0, none⟩ (.slice (some ⟨g, 0, none⟩) r'.length c)).drew := ((Touch.refl _ w).setCell (p := ⟨b, 0, none⟩) (.inl (.inl rfl)) _).drew
      refine AddPost.from (v1 := v2) (t0.then_ Ht2.out (fun k _ h => ?_)) ?_ hpost
      · rcases h with rfl | h
        · exact .inl rfl
        · exact .inr (Hg.out.trans h)
      · rcases Hat2.out with h | h
        · exact .inl (by rw [h, Hg.out]; rfl)
        · exact .inr fun k hk => by have := h k hk; simpa using this
    obtain ⟨v3, rfl, h3, h4, h5⟩ := hpost
    have Hfin : Hid (AddPost 136 B b v [] F w (.returned (.tuple #[])) w3) := ⟨v3, rfl, h3, h4, h5⟩
    clear h3 h4 h5
    go_wp2_with fail
    go_end0
    exact Hfin.out
  · cases he : emptyS s with
    | false => exact insert_top B b v s r w hs hr (by omega) (fun x hx hk => by
        cases r with
        | nil => cases hx
        | cons y r => simp at hx; subst hx; exact hq ⟨y, r, rfl, hk, he⟩) hbag
    | true =>
      have h1 : addR r ⟨2, 0, s⟩ = r := by cases r <;> simp [addR, triv, he]
      rw [h1]
      have Hfin : Hid (AddPost 136 B b v [] r w (.returned (.tuple #[])) w) := ⟨v, rfl, hbag, Touch.refl _ _, .inl rfl⟩
      have h2 : s.toList.isEmpty = true := he
      clear he h1 hbag hr hr0 hc hq hval
      go_enter Tryd.func69, Tryd.ntmps69
      go_wp2_with fail
      go_end0
      exact Hfin.out
end Go.Proofs.YtkhacogeffidoaaDoor
