/- The walk of TransformMeets. -/
import Derived.Test.YtajijhnnnekhmaaDoorTrLaw
import Derived.Test.YtajijhnnnekhmaaDoorCopyP
set_option linter.unusedSimpArgs false
namespace Go.Proofs.YtajijhnnnekhmaaDoor
open Go.RowKit

/-- a part of no kind may not be -/
theorem none_bad (o q : Op) (h : check o = 0) : bothE o (q ++ [⟨0, 0, noText⟩]) ≠ 0 := by
  intro h0
  have := (check_zero (bothE_zero.1 h0).2.1).2.1 ⟨0, 0, noText⟩ (by simp)
  revert this
  decide
theorem flat_back (q : Op) (p : Part) : flat q ++ partCells p = flat (q ++ [p]) := by simp [flat]

/-- an operation is copied: appended to nothing -/
theorem append_first {ops : Array Oper} {rest : List Oper} {o : Oper} {a : Act} {Q : Exit → Act → World → Prop} {w : World} (hgd : o.guard = none) (s x : Operand)
    (ho : o.op = .call { callee := .builtin .append, args := #[s, x], argTypes := #[25, 25] }) (hs : a.eval s = .slice none 0 0) (q : Op) (ax : Option Addr) (cx : Nat) (hx : a.eval x = .slice ax q.length cx)
    (hr : RdS (· < w.heap.size) w q ax q.length cx) (hl : q.length ≤ 1000000)
    (h : ∀ V w', w'.ownsRow w.heap.size 45 3 V q.length (flat q) → Below w.heap.size w w' → wpList Tryd.prog ops Q rest (a.put o.dst V) w') : wpList Tryd.prog ops Q (o :: rest) a w := by
  obtain ⟨i0, hi, hz0, hz1, hz2⟩ := info_parts infoP
  by_cases h0 : q.length = 0
  · have hq : q = [] := List.eq_nil_of_length_eq_zero h0
    subst hq
    exact wpList_append_empty hgd s x _ ho 45 i0 Tryd.underlying25 hi none 0 hs ax cx hx (h _ _ (World.ownsRow_nil _ _ _ _) (Below.refl _ _))
  · obtain ⟨b, off, rfl, _, hbs, _⟩ := hr.part (by omega)
    refine wpList_append_lies w hgd s x _ ho w.heap.size 45 i0 _ 3 32 Tryd.underlying25 hi hz0 hz1 hz2 rfl (by omega) (.slice none 0 0) 0 [] hs (World.ownsRow_nil _ _ _ _) ⟨b, off, none⟩ q.length cx (flat q) hx (by rw [flat_len]) (hr.news (by omega)) (flat_one' q) (by omega) (by unfold maxLen; omega) (by omega) (Nat.le_refl _) w.heap.size rfl ?_
    intro g cap w' hown hgrow _ _
    have e1 : 0 + q.length = q.length := Nat.zero_add _
    have e2 : [] ++ flat q = flat q := rfl
    rw [e1, e2] at hown
    have h5 := h _ _ hown ((Below.refl _ _).grown hgrow (Nat.le_refl _) (fun g hg => by simp [Value.ownBlock] at hg))
    rw [e1]
    exact h5

set_option maxRecDepth 100000 in
set_option maxHeartbeats 3000000 in
theorem transformMeets_walk (w : World) (hg : Good w) (s : Str) (hs : s.size ≤ maxLen) (a1 : Option Addr) (n1 c1 : Nat) (l1 : List Raw) (r1 : RdS (· < w.heap.size) w l1 a1 n1 c1) (a2 : Option Addr) (n2 c2 : Nat) (l2 : List Raw) (r2 : RdS (· < w.heap.size) w l2 a2 n2 c2) :
    Calls Tryd.prog 9 #[.string s, .slice a1 n1 c1, .slice a2 n2 c2] w fun e w' => e = .returned (.bool true) ∧ Below w.heap.size w w' := by
  obtain ⟨i0, hi, hz0, hz1, hz2⟩ := info_parts infoP
  have HL := Lib.hid (letters_any s 30 w hs (by omega))
  obtain ⟨t0, t1, t2, t3⟩ := letters_ok s 30 (by omega)
  generalize letters s 30 = T at *
  have hT70 : T.size ≤ 70368744177664 := by omega
  have HR := Lib.hid (fun W => runes_any T W hT70)
  have hrT := rc_rns T
  obtain ⟨o0, o1, o2, o3⟩ := mkOp_ok (rc T) l1 t1 (by omega)
  have HO := Lib.hid (fun W (h : RdS (· < W.heap.size) W l1 a1 n1 c1) => mkOp_go (rc T) l1 a1 n1 c1 W h t1 (by omega))
  generalize mkOp (rc T) l1 = o at *
  obtain ⟨q0, q1, q2, q3⟩ := mkOp_ok (rc T) l2 t1 (by omega)
  have HQ := Lib.hid (fun W (h : RdS (· < W.heap.size) W l2 a2 n2 c2) => mkOp_go (rc T) l2 a2 n2 c2 W h t1 (by omega))
  generalize mkOp (rc T) l2 = q at *
  have e3 : sumF o = sumF q := by omega
  have e4 : sumT o + sumT q ≤ 4000 := by omega
  obtain ⟨x0, y0, x1, y1, xy, x2, x3, hmeet, -⟩ := tr_laws o0 q0 e3 e4
  have HT := Lib.hid (fun W a n c b m d hg h1 h2 => transform_go o q a b n c m d W hg h1 h2 o0 q0 e3 e4)
  have HB := Lib.hid (fun W a n c b m d hg h1 h2 => transform_bad o (q ++ [⟨0, 0, noText⟩]) a b n c m d W hg h1 h2 (none_bad o q o0))
  have hbad : (bothE o (q ++ [⟨0, 0, noText⟩]) != 0) = true := bne_iff_ne.2 (none_bad o q o0)
  generalize trX o q = X at *
  generalize trY o q = Y at *
  obtain ⟨A1, A2, A3, A4, A5, A6⟩ := apply_good t0 o0 o1
  obtain ⟨B1, B2, B3, B4, B5, B6⟩ := apply_good t0 q0 q1
  obtain ⟨C1, C2, C3, C4, C5, C6⟩ := apply_good A5 y0 (by omega)
  obtain ⟨D1, D2, D3, D4, D5, D6⟩ := apply_good B5 x0 (by omega)
  have heq : applyS (applyS T o) Y = applyS (applyS T q) X := by
    rw [C2, D2, rns_apply t0 o0 o1, rns_apply t0 q0 q1, hmeet (rns T) (by omega)]
  have HA1 := Lib.hid (fun a n c W hg hr => apply_any T o a n c W hg hr hT70)
  have HA2 := Lib.hid (fun a n c W hg hr => apply_any (applyS T o) Y a n c W hg hr (by omega))
  have HA3 := Lib.hid (fun a n c W hg hr => apply_any T q a n c W hg hr hT70)
  have HA4 := Lib.hid (fun a n c W hg hr => apply_any (applyS T q) X a n c W hg hr (by omega))
  rw [A1] at HA1
  rw [C1, heq] at HA2
  rw [B1] at HA3
  rw [D1] at HA4
  have hql : q.length ≤ 10000 := by have := (check_zero q0).1; omega
  have g0 := Lib.hid hg
  have B0 := Lib.hid (Below.refl w.heap.size w)
  have ra0 := Lib.hid r1
  have rb0 := Lib.hid r2
  generalize hZ : bothE o (q ++ [⟨0, 0, noText⟩]) = Z at *
  clear hZ t0 t1 t2 t3 o0 o1 o2 o3 q0 q1 q2 q3 e3 e4 x0 y0 x1 y1 xy x2 x3 hmeet A1 A2 A3 A4 A5 A6 B1 B2 B3 B4 B5 B6 C1 C2 C3 C4 C5 C6 D1 D2 D3 D4 D5 D6 heq r1 r2 hg hs hrT hT70
  generalize applyS (applyS T q) X = U4 at *
  generalize applyS T o = U1 at *
  generalize applyS T q = U3 at *
  generalize rc T = R at *
  generalize o.length = lo at *
  generalize X.length = lX at *
  generalize Y.length = lY at *
  go_enter Tryd.func9, Tryd.ntmps9
  go_wp2_with fail
  refine (HL.out).mono ?_
  rintro e w1 ⟨rfl, hb⟩
  have B1 := Lib.hid (up B0.out hb)
  have g1 := Lib.hid (g0.out.below' hb)
  have ra1 := Lib.hid (ra0.out.go hb)
  have rb1 := Lib.hid (rb0.out.go hb)
  clear B0 g0 ra0 rb0 hb
  go_wp2_with fail
  refine (HR.out _).mono ?_
  rintro e w2 ⟨rfl, hb⟩
  have B2 := Lib.hid (up B1.out hb)
  have g2 := Lib.hid (g1.out.below' hb)
  have ra2 := Lib.hid (ra1.out.go hb)
  have rb2 := Lib.hid (rb1.out.go hb)
  clear B1 g1 ra1 rb1 hb
  go_wp2_with fail
  refine (HO.out _ ra2.out).mono ?_
  rintro e w3 ⟨ao, co, rfl, ro, hb⟩
  have B3 := Lib.hid (up B2.out hb)
  have g3 := Lib.hid (g2.out.below' hb)
  have ra3 := Lib.hid (ra2.out.go hb)
  have rb3 := Lib.hid (rb2.out.go hb)
  have ro3 := Lib.hid ro
  clear B2 g2 ra2 rb2 hb ro
  clear ra3
  go_wp2_with fail
  refine (HR.out _).mono ?_
  rintro e w4 ⟨rfl, hb⟩
  have B4 := Lib.hid (up B3.out hb)
  have g4 := Lib.hid (g3.out.below' hb)
  have rb4 := Lib.hid (rb3.out.go hb)
  have ro4 := Lib.hid (ro3.out.go hb)
  clear B3 g3 rb3 ro3 hb
  go_wp2_with fail
  refine (HQ.out _ rb4.out).mono ?_
  rintro e w5 ⟨aq, cq, rfl, rq, hb⟩
  have B5 := Lib.hid (up B4.out hb)
  have g5 := Lib.hid (g4.out.below' hb)
  have rb5 := Lib.hid (rb4.out.go hb)
  have ro5 := Lib.hid (ro4.out.go hb)
  have rq5 := Lib.hid rq
  clear B4 g4 rb4 ro4 hb rq
  clear rb5
  go_wp2_with fail
  refine (HT.out _ _ _ _ _ _ _ g5.out ro5.out rq5.out).mono ?_
  rintro e w6 ⟨ax, cx, ay, cy, rfl, rx, ry, hb⟩
  have B6 := Lib.hid (up B5.out hb)
  have g6 := Lib.hid (g5.out.below' hb)
  have ro6 := Lib.hid (ro5.out.go hb)
  have rq6 := Lib.hid (rq5.out.go hb)
  have rx6 := Lib.hid rx
  have ry6 := Lib.hid ry
  clear B5 g5 ro5 rq5 hb rx ry
  go_wp2_with fail
  refine (HA1.out _ _ _ _ g6.out ro6.out).mono ?_
  rintro e w7 ⟨rfl, hb⟩
  have B7 := Lib.hid (up B6.out hb)
  have g7 := Lib.hid (g6.out.below' hb)
  have ro7 := Lib.hid (ro6.out.go hb)
  have rq7 := Lib.hid (rq6.out.go hb)
  have rx7 := Lib.hid (rx6.out.go hb)
  have ry7 := Lib.hid (ry6.out.go hb)
  clear B6 g6 ro6 rq6 rx6 ry6 hb
  go_wp2_with fail
  refine (HA2.out _ _ _ _ g7.out ry7.out).mono ?_
  rintro e w8 ⟨rfl, hb⟩
  have B8 := Lib.hid (up B7.out hb)
  have g8 := Lib.hid (g7.out.below' hb)
  have ro8 := Lib.hid (ro7.out.go hb)
  have rq8 := Lib.hid (rq7.out.go hb)
  have rx8 := Lib.hid (rx7.out.go hb)
  have ry8 := Lib.hid (ry7.out.go hb)
  clear B7 g7 ro7 rq7 rx7 ry7 hb
  clear ry8
  go_wp2_with fail
  refine (HA3.out _ _ _ _ g8.out rq8.out).mono ?_
  rintro e w9 ⟨rfl, hb⟩
  have B9 := Lib.hid (up B8.out hb)
  have g9 := Lib.hid (g8.out.below' hb)
  have ro9 := Lib.hid (ro8.out.go hb)
  have rq9 := Lib.hid (rq8.out.go hb)
  have rx9 := Lib.hid (rx8.out.go hb)
  clear B8 g8 ro8 rq8 rx8 hb
  go_wp2_with fail
  refine (HA4.out _ _ _ _ g9.out rx9.out).mono ?_
  rintro e w10 ⟨rfl, hb⟩
  have B10 := Lib.hid (up B9.out hb)
  have g10 := Lib.hid (g9.out.below' hb)
  have ro10 := Lib.hid (ro9.out.go hb)
  have rq10 := Lib.hid (rq9.out.go hb)
  have rx10 := Lib.hid (rx9.out.go hb)
  clear B9 g9 ro9 rq9 rx9 hb
  clear rx10
  have hfit := rq10.out.fits
  have Hfit : Hid (Fits (q ++ [⟨0, 0, noText⟩])) := by
    intro p hp
    rcases List.mem_append.1 hp with hp | hp
    · exact hfit p hp
    · simp at hp; subst hp; exact ⟨⟨by simp, by simp⟩, ⟨by simp, by simp⟩, by simp only [noText_size]; unfold strMax; omega⟩
  clear hfit
  have Hend : Hid (∀ W v xs, W.ownsRow w10.heap.size 45 3 v (q.length + 1) xs → xs = flat q ++ [.int .i64 0, .int .i64 0, .string noText] → Below w10.heap.size w10 W → Calls Tryd.prog 22 #[.slice ao lo co, v] W fun e w' => e = .returned (.tuple #[.slice none 0 0, .slice none 0 0, .int .i64 Z]) ∧ Below w.heap.size w w') := by
    rintro W v xs hown rfl hbw
    rw [show flat q ++ [Value.int .i64 0, .int .i64 0, .string noText] = flat (q ++ [⟨0, 0, noText⟩]) from flat_back q ⟨0, 0, noText⟩] at hown
    obtain ⟨a, c, rfl, hr⟩ := RdS.of_own (l := q ++ [⟨0, 0, noText⟩]) (by rw [List.length_append]; exact hown) Hfit.out
    refine (HB.out W ao lo co a _ c (g10.out.below' hbw) (ro10.out.go hbw) (hr.wide fun b hb => hb.2)).mono ?_
    rintro e W' ⟨rfl, hb⟩
    exact ⟨rfl, up (up B10.out hbw) hb⟩
  have Hrq : Hid (RdS (· < w10.heap.size) w10 q aq q.length cq) := rq10
  clear Hfit g10 ro10 rq10 HB
  go_wp2_with (at_builtin; refine append_first rfl _ _ (by rfl) (by rfl) q aq cq (by rfl) Hrq.out (by omega) ?_)
  intro V w11 hown1 u11
  have hz11 : w10.heap.size ≤ w11.heap.size := u11.size
  have hgg : ∀ g, V.ownBlock = some g → w10.heap.size ≤ g := fun g hg => (hown1.lt g hg).1
  have Hown1 := Lib.hid hown1
  have U11 := Lib.hid u11
  have Hgg := Lib.hid hgg
  clear hown1 u11 hgg Hrq
  go_wp2_with (at_builtin; refine wpList_append_lies _ rfl _ _ _ (by rfl) w10.heap.size 45 i0 _ 3 32 Tryd.underlying25 hi hz0 hz1 hz2 rfl (by omega) V q.length (flat q) (by rfl) (Hown1.out.alloc _) ⟨w11.heap.size, 0, none⟩ 1 1 [.int .i64 0, .int .i64 0, .string noText] (by rfl) (by rfl) (news_at (heap_new_at _ _ _ (by simp))) (by simp [Value.oneCell']) (by omega) (by unfold maxLen; omega) (by omega) (by simp; omega) (w11.heap.size + 1) (by simp) ?_)
  intro g2 cap2 w12 hown2 hgrow2 hat2 hlt2
  have hbw : Below w10.heap.size w10 w12 := (U11.out.alloc hz11 _).grown hgrow2 (by simp; omega) Hgg.out
  have HC := Lib.hid (Hend.out w12 _ _ hown2 rfl hbw)
  clear Hend hown2 hgrow2 hat2 Hown1 U11 hbw Hgg
  go_wp2_with fail
  refine HC.out.mono ?_
  rintro e w13 ⟨rfl, hb⟩
  have B13 := Lib.hid hb
  clear hb HC
  go_wp2_with fail
  go_ret
  exact ⟨rfl, B13.out⟩
end Go.Proofs.YtajijhnnnekhmaaDoor
