/- Bytes are appended to bytes of the call's own. -/
import Derived.Test.YtdbdhpjjndhjiaaDoorRecLaw
set_option linter.unusedSimpArgs false
namespace Go.Proofs.YtdbdhpjjndhjiaaDoor
open Go.RowKit

theorem own_form {w : World} {base e size n : Nat} {v : Value} {xs : List Value} (h : w.ownsRow base e size v n xs) : ∃ a c, v = .slice a n c ∧ Flat a := by
  rcases h.2 with ⟨hv, h0⟩ | ⟨g, cap, cur, hv, _⟩
  · exact ⟨none, 0, by rw [hv, h0], .inl rfl⟩
  · exact ⟨_, _, hv, .inr ⟨_, _, rfl⟩⟩
theorem RdS.news_b {w : World} {l : Bs} {a : Option Addr} {n c : Nat} (hr : RdS (· < w.heap.size) w l a n c) (h0 : 0 < n) : ∃ b off, a = some ⟨b, off, none⟩ ∧ ∀ j u, (bb l)[j]? = some u → w.cell? ((⟨b, off, none⟩ : Addr).add j) = some u := by
  obtain ⟨b, off, e, _, _, hcs⟩ := hr.byte h0
  exact ⟨b, off, e, news_bytes hcs⟩
theorem wpList_append_bytes {w : World} {ops : Array Oper} {rest : List Oper} {o : Oper} {a : Act} {Q : Exit → Act → World → Prop} (hgd : o.guard = none) (s x : Operand)
    (ho : o.op = .call { callee := .builtin .append, args := #[s, x], argTypes := #[25, 25] }) (base : Nat) (v : Value) (l l2 : Bs) (hs : a.eval s = v) (hown : w.ownsRow base 5 1 v l.length (bb l))
    (ax : Option Addr) (m cx : Nat) (hx : a.eval x = .slice ax m cx) (hr : RdS (· < w.heap.size) w l2 ax m cx) (h0 : m = 0 → l = []) (hz : l.length + m ≤ 140737488355328) (hbase : base ≤ w.heap.size)
    (h : ∀ a' c' w', w'.ownsRow base 5 1 (.slice a' (l ++ l2).length c') (l ++ l2).length (bb (l ++ l2)) → Flat a' → w.grownBy w' v.ownBlock → wpList Tryd.prog ops Q rest (a.put o.dst (.slice a' (l ++ l2).length c')) w') : wpList Tryd.prog ops Q (o :: rest) a w := by
  obtain ⟨i0, hi, hz0, hz1, hz2⟩ := info_parts infoU8
  have hm := hr.1
  by_cases hm0 : m = 0
  · have hl := h0 hm0
    subst hl
    have hl2 : l2 = [] := List.eq_nil_of_length_eq_zero (by omega)
    subst hl2 hm0
    obtain ⟨a0, c0, hv, hf⟩ := own_form hown
    refine wpList_append_empty hgd s x 25 ho 5 i0 Tryd.underlying25 hi a0 c0 (by rw [hs, hv]; rfl) ax cx hx ?_
    exact h a0 c0 w (by rw [hv] at hown; exact hown) hf (World.grownBy.refl _ _)
  · obtain ⟨b, off, rfl, hnews⟩ := hr.news_b (by omega)
    refine wpList_append_own w hgd s x 25 ho base 5 i0 (.int .u8 0) 1 1 Tryd.underlying25 hi hz0 hz1 hz2 rfl (by decide) v l.length (bb l) hs hown ⟨b, off, none⟩ m cx (bb l2) hx (by rw [bb_len]; omega) hnews (bb_one l2) (by unfold maxLen; omega) (by omega) hbase ?_
    intro v' w' hown' hgrow _
    have hlen : (l ++ l2).length = l.length + m := by rw [List.length_append]; omega
    rw [← bb_app, ← hlen] at hown'
    obtain ⟨a', c', rfl, hf⟩ := own_form hown'
    exact h a' c' w' hown' hf hgrow
theorem encRecord_go (r : Rec) (a : Option Addr) (n c : Nat) (w : World) (hg : Good w) (hr : RdS (· < w.heap.size) w r.op a n c) (he : I64 r.epoch) (hc : checkRecord r = 0) :
    Calls Tryd.prog 16 #[.agg #[.int .i64 r.epoch, .slice a n c]] w fun e w' => ∃ (a' : Option Addr) (c' : Nat), e = .returned (.tuple #[.slice a' (recB r).length c', .int .i64 0]) ∧ RdS (· < w'.heap.size) w' (recB r) a' (recB r).length c' ∧ Below w.heap.size w w' :=
  (encRecord_ok r a n c w hg hr he hc).mono fun e w' ⟨a', c', h1, _, h3, h4⟩ => ⟨a', c', h1, h3.wide fun k hk => hk.2, h4⟩
theorem decRecord_go (b : Bs) (a : Option Addr) (n c : Nat) (w : World) (hg : Good w) (hr : RdS (· < w.heap.size) w b a n c) :
    Calls Tryd.prog 21 #[.slice a n c] w fun e w' => ∃ (a' : Option Addr) (c' : Nat), e = .returned (.tuple #[.agg #[.int .i64 (decRec b).1.epoch, .slice a' (decRec b).1.op.length c'], .int .i64 (decRec b).2]) ∧ RdS (· < w'.heap.size) w' (decRec b).1.op a' (decRec b).1.op.length c' ∧ Below w.heap.size w w' ∧ I64 (decRec b).1.epoch :=
  (decRecord_any b a n c w hg hr).mono fun e w' ⟨a', c', h1, h2, h3, h4⟩ => ⟨a', c', h1, h2.wide fun k hk => hk.2, h3, h4⟩
theorem record_go (r : Raw) (l : List Raw) (a : Option Addr) (n c : Nat) (w : World) (hr : RdS (· < w.heap.size) w l a n c) (hk : r.ok) :
    Calls Tryd.prog 20 #[rawV r, .slice a n c] w fun e w' => ∃ (a' : Option Addr) (c' : Nat), e = .returned (.agg #[.int .i64 (recOf r l).epoch, .slice a' (recOf r l).op.length c']) ∧ RdS (· < w'.heap.size) w' (recOf r l).op a' (recOf r l).op.length c' ∧ Below w.heap.size w w' :=
  (record_any r l a n c w hr hk).mono fun e w' ⟨a', c', h1, h2, h3⟩ => ⟨a', c', h1, h2.wide fun k hk => hk.2, h3⟩
end Go.Proofs.YtdbdhpjjndhjiaaDoor
