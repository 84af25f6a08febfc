/- The walk of (*text.builder).keep. -/
import Derived.Test.YtkhacogeffidoaaDoorBuilder
set_option linter.unusedVariables false
set_option linter.unusedSimpArgs false
namespace Go.Proofs.YtkhacogeffidoaaDoor
open Go.RowKit

set_option maxRecDepth 100000 in
set_option maxHeartbeats 2000000 in
theorem keep_any (B b : Nat) (v : Value) (n : Int) (r : List Part) (w : World) (hn : 0 ≤ n ∧ n ≤ 1000000000000) (hr : ∀ q ∈ r, Mild q) (hl : r.length ≤ 1000000000000)
    (hbag : Bag 136 B b v [] r.reverse w) :
    Calls Tryd.prog 70 #[.pointer (some ⟨b, 0, none⟩), .int .i64 n] w (AddPost 136 B b v [] (addR r ⟨1, n, noText⟩) w) := by
  by_cases hq : ∃ q r', r = q :: r' ∧ q.kind = 1
  · obtain ⟨q, r', rfl, hk⟩ := hq
    have he : AddPost 136 B b v [] (addR (q :: r') ⟨1, n, noText⟩) w = AddPost 136 B b v [] (⟨q.kind, q.n + n, q.text⟩ :: r') w := by
      by_cases h0 : n = 0
      · subst h0; rw [show addR (q :: r') ⟨1, 0, noText⟩ = q :: r' from by simp [addR, triv]]; congr 2; simp
      · rw [addR_merge (by simp [triv, h0]) hk]; simp only [app_noText]
    rw [he]
    clear he
    obtain ⟨a, c, hv⟩ := hbag.form
    simp only [List.length_reverse] at hv
    obtain ⟨g, rfl, hg, hq0, hq1, hq2⟩ := hbag.last (by rw [hv])
    have hrow := (hbag.rowlt g hg)
    have hown := hbag.own
    rw [hv] at hown
    simp only [List.length_reverse, List.length_cons] at hown
    have hf1 := hown.frozenAt (r'.length * 3 + 1)
    have hfin := fun W (hW : Touch (fun _ => False) w W) => (merge_fin (q := q) (p := ⟨q.kind, q.n + n, q.text⟩) rfl hbag hg W hW).1 rfl
    have Hlast := Lib.hid (last_some B b v 1 q r' w (by simp at hl; omega) hk g hg hbag)
    have Hfin := Lib.hid hfin
    have hmq := (hr q (List.mem_cons_self ..)).n
    have hgl := hrow.2
    clear hfin hown hbag hv hg hrow hr hk
    obtain ⟨qk, qn, qt⟩ := q
    simp only at *
    generalize r'.length * 3 = o at *
    go_enter Tryd.func70, Tryd.ntmps70
    go_wp2_with fail
    refine Hlast.out.mono ?_
    rintro e w1 ⟨rfl, rfl⟩
    go_wp2_with fail
    go_end0
    exact Hfin.out _ (Touch.refl _ _)
  · have hh : ∀ q, r.head? = some q → q.kind ≠ 1 := by
      intro q hq2 hk
      cases r with
      | nil => cases hq2
      | cons x r => simp at hq2; subst hq2; exact hq ⟨x, r, rfl, hk⟩
    have Hlast := Lib.hid (last_none B b v 1 r w hl hh hbag)
    by_cases h0 : n = 0
    · subst h0
      have he : addR r ⟨1, 0, noText⟩ = r := by cases r <;> simp [addR, triv]
      rw [he]
      have Hfin : Hid (AddPost 136 B b v [] r w (.returned (.tuple #[])) w) := ⟨v, rfl, hbag, Touch.refl _ _, .inl rfl⟩
      clear hbag he hr hq hh hn
      go_enter Tryd.func70, Tryd.ntmps70
      go_wp2_with fail
      refine Hlast.out.mono ?_
      rintro e w1 ⟨rfl, rfl⟩
      go_wp2_with fail
      go_end0
      exact Hfin.out
    · obtain ⟨i0, hi, hz0, hz1, hz2⟩ := info_parts infoP
      rw [addR_ge (by simp [triv, h0]) (fun q hq2 => ⟨hh q hq2, by simp⟩)]
      obtain ⟨a, c, hv⟩ := hbag.form
      simp only [List.length_reverse] at hv
      have hown := hbag.own
      rw [hv] at hown
      simp only [List.length_reverse] at hown
      have hc0 := hbag.cell 0
      have hf0 := hbag.frozen 0
      have hlt := hbag.lt
      have hbase := hbag.base
      simp only [List.getElem?_cons_zero] at hc0
      rw [hv] at hc0
      have hne := hbag.ne
      rw [hv] at hne
      have hp : 0 < n := by omega
      have Hne := Lib.hid hne
      have Hv := Lib.hid hv
      have Hbag := Lib.hid hbag
      have Hown := Lib.hid hown
      clear hne hv hbag hown hr hq hh h0
      go_enter Tryd.func70, Tryd.ntmps70
      go_wp2_with fail
      refine Hlast.out.mono ?_
      rintro e w1 ⟨rfl, rfl⟩
      clear Hlast
      go_wp2_with (at_builtin; refine wpList_append_lies _ rfl _ _ _ (by rfl) B 110 i0 _ 3 32 Tryd.underlying28 hi hz0 hz1 hz2 rfl (by omega) (.slice a r.length c) r.length (flat r.reverse) (by rfl) (Hown.out.alloc _) ⟨w.heap.size, 0, none⟩ 1 1 [.int .i64 1, .int .i64 n, .string ⟨#[]⟩] (by rfl) (by rfl) (news_at (heap_new_at _ _ _ (by simp))) (by simp [Value.oneCell']) (by omega) (by unfold maxLen; omega) (by omega) (by simp; omega) (w.heap.size + 1) (by simp) ?_)
      intro gg cap w1 hown1 hgrow hat hlt1
      have hbk1 : w1.heap[b]? = w.heap[b]? := (hgrow.block b (by simp; omega) (Ne.symm Hne.out)).trans (Below.heap_alloc w _ b hlt)
      have hf1 : w1.frozen? ⟨b, 0, none⟩ = false := (World.frozen?_of_block (a := ⟨b, 0, none⟩) hbk1).trans hf0
      have hd1 := (cell_keep (o := 0) hbk1).trans hc0
      have Hown1 := Lib.hid hown1
      have Hgrow := Lib.hid hgrow
      have Hat := Lib.hid hat
      have Hbk1 := Lib.hid hbk1
      clear hown1 hgrow hat hbk1
      go_wp2_with fail
      go_end0
      exact add_fin hbase Hv.out Hbag.out.blk Hbk1.out (by rw [flat_snoc]; simpa [partCells, noText] using Hown1.out) ((Touch.refl _ w).alloc _) Hgrow.out (Hat.out.imp_right (fun h => by omega))

end Go.Proofs.YtkhacogeffidoaaDoor
