/- The walk of edge.Check. -/
import Derived.Test.YtkbfhgcjimfgkaaDoorPartB3
import Derived.Deep.MidRow
import Derived.Test.YtkbfhgcjimfgkaaDoorPartA5
import Derived.Test.YtkbfhgcjimfgkaaDoorPartA6
import Derived.Outline
set_option linter.unusedVariables false
set_option linter.unusedSimpArgs false
set_option linter.unusedSimpArgs false
namespace Go.Proofs.YtkbfhgcjimfgkaaDoor
open Go.RowKit
/-- an element of a slice of the call's own, written in part -/
theorem OwnO.upd {α : Type} [Rep α] {X : Nat → Prop} {base r o n c : Nat} {l : List α} {w : World} (h : OwnO X base (.slice (some ⟨r, o, none⟩) n c) l w) (i : Nat) (hi : i < l.length) (d : Nat) (cs : List Value) (hd : d + cs.length ≤ Rep.n α) (y : α)
    (hy : ∀ xs, Rep.rd (fun b => b < w.heap.size ∧ ¬ X b ∧ b ≠ r) w l[i] xs → ∃ ys, Rep.rd (fun b => b < w.heap.size ∧ ¬ X b ∧ b ≠ r) w y ys ∧ ∀ j v, ys[j]? = some v → if d ≤ j ∧ j < d + cs.length then cs[j - d]? = some v else xs[j]? = some v) :
    OwnO X base (.slice (some ⟨r, o, none⟩) n c) (l.set i y) (w.setCells r (o + i * Rep.n α + d) cs) := by
  have hT := touch_setCells w r (o + i * Rep.n α + d) cs
  rcases h.row with ⟨a, hv, hl, h2⟩ | ⟨g', off', cap, hv, h1, h2, h3, h4, h5, h6⟩
  · subst hl; simp at hi
  · injection hv with e1 e2 e3
    injection e1 with e1
    injection e1 with e4 e5
    subst e2 e3 e4 e5
    have hA : ∀ b, (b < w.heap.size ∧ ¬ X b ∧ b ≠ r) → (b < (w.setCells r (o + i * Rep.n α + d) cs).heap.size ∧ ¬ X b ∧ b ≠ r) ∧ (w.setCells r (o + i * Rep.n α + d) cs).heap[b]? = w.heap[b]? := fun b hb => ⟨⟨Nat.lt_of_lt_of_le hb.1 hT.size, hb.2⟩, hT.block b hb.1 hb.2.2⟩
    have hmul : ∀ {a b : Nat}, a < b → a * Rep.n α + Rep.n α ≤ b * Rep.n α := fun {a b} hab => by
      have := Nat.mul_le_mul_right (Rep.n α) (Nat.succ_le_of_lt hab)
      rwa [Nat.succ_mul] at this
    have hic : i * Rep.n α + Rep.n α ≤ c * Rep.n α := hmul (by omega)
    have hin : ∀ j, j < cs.length → (w.cell? ⟨r, o + i * Rep.n α + d + j, none⟩).isSome = true := fun j hj => by
      have := (h5 (i * Rep.n α + d + j) (by omega)).1
      rwa [← Nat.add_assoc, ← Nat.add_assoc] at this
    refine ⟨.inr ⟨r, o, c, by rw [List.length_set], h1, Nat.lt_of_lt_of_le h2 hT.size, by rw [List.length_set]; exact h3, h4, fun j hj => ⟨World.isSome_setCells r cs _ w _ (h5 j hj).1, by rw [World.frozen?_setCells]; exact (h5 j hj).2⟩, fun j x hx => ?_⟩⟩
    by_cases hji : j = i
    · subst hji
      rw [List.getElem?_set_self hi] at hx
      injection hx with hx
      subst hx
      obtain ⟨xs, r1, r2⟩ := h6 j l[j] (List.getElem?_eq_getElem hi)
      obtain ⟨ys, q1, q2⟩ := hy xs r1
      refine ⟨ys, Rep.mono hA q1, fun k v hk => ?_⟩
      have hq := q2 k v hk
      by_cases hkd : d ≤ k ∧ k < d + cs.length
      · rw [if_pos hkd] at hq
        have e : o + j * Rep.n α + k = o + j * Rep.n α + d + (k - d) := by omega
        rw [e, World.cell?_setCells_in r cs _ w hin (k - d) (by omega), ← hq, List.getElem?_eq_getElem (by omega)]
      · rw [if_neg hkd] at hq
        rw [World.cell?_setCells_out r cs _ w _ (fun _ _ => by show o + j * Rep.n α + k < _ ∨ _ ≤ o + j * Rep.n α + k; omega)]
        exact r2 k v hq
    · rw [List.getElem?_set_ne (by omega)] at hx
      obtain ⟨xs, r1, r2⟩ := h6 j x hx
      have hlen := Rep.len r1
      refine ⟨xs, Rep.mono hA r1, fun k v hk => ?_⟩
      have hkl := (List.getElem?_eq_some_iff.1 hk).1
      rw [World.cell?_setCells_out r cs _ w _ (fun _ _ => by
        show o + j * Rep.n α + k < _ ∨ _ ≤ o + j * Rep.n α + k
        rcases Nat.lt_or_gt_of_ne hji with hlt | hgt
        · have := hmul hlt; omega
        · have := hmul hgt; omega)]
      exact r2 k v hk
def Tn.setSide (t : Tn) (s : Nat) (y : Sd) : Tn := { t with node := { t.node with sides := t.node.sides.set s y } }
theorem WkG.upd {base g r o c : Nat} {t : Tn} {vs : Nat → Value} {w : World} (h : WkM base g t vs w) (s : Nat) (hs : s < t.node.sides.length) (hv : vs 0 = .slice (some ⟨r, o, none⟩) t.node.sides.length c) (d : Nat) (cs : List Value) (hd : d + cs.length ≤ 10) (y : Sd)
    (hy : ∀ xs, Rep.rd (fun b => b < w.heap.size ∧ ¬ WX base g vs b ∧ b ≠ r) w t.node.sides[s] xs → ∃ ys, Rep.rd (fun b => b < w.heap.size ∧ ¬ WX base g vs b ∧ b ≠ r) w y ys ∧ ∀ j v, ys[j]? = some v → if d ≤ j ∧ j < d + cs.length then cs[j - d]? = some v else xs[j]? = some v) :
    WkM base g (t.setSide s y) vs (w.setCells r (o + s * 10 + d) cs) ∧ Touch (Mine g vs) w (w.setCells r (o + s * 10 + d) cs) := by
  have h0 : OwnO (WX base g vs) base (vs 0) t.node.sides w := h.rows 0 (by omega)
  rw [hv] at h0
  have hr : (vs 0).ownBlock = some r := by rw [hv]; rfl
  have hn := h0.upd s hs d cs hd y hy
  have hg := grownBy_setCells w r (o + s * 10 + d) cs
  have k := h.grow (t' := t.setSide s y) (j := 0) (v' := vs 0) (by omega) (by rw [hr]; exact hg) (fun k hk => .inl hk) (by rw [hv]; exact hn) (fun i hi X v W h => by
    match i, hi with
    | 0, hi => exact absurd rfl hi
    | 1, _ => exact h
    | 2, _ => exact h
    | 3, _ => exact h
    | 4, _ => exact h
    | i + 5, _ => trivial) rfl h.fit
  have e : (fun q => if q = 0 then vs 0 else vs q) = vs := by
    funext q
    by_cases e : q = 0
    · rw [if_pos e, e]
    · rw [if_neg e]
  rw [e] at k
  exact ⟨k, (touch_setCells w r (o + s * 10 + d) cs).mono fun z _ hz => .inr ⟨0, by omega, by rw [hr, hz]⟩⟩
def noSd : Sd := ⟨0, false, ⟨0, 0, []⟩, ⟨0, 0, [], [], 0⟩⟩
def Tn.side (t : Tn) (s : Nat) : Sd := t.node.sides.getD s noSd
theorem Tn.side_get (t : Tn) (s : Nat) (hs : s < t.node.sides.length) : t.side s = t.node.sides[s] := by
  unfold Tn.side
  rw [List.getD_eq_getElem?_getD, List.getElem?_eq_getElem hs]
  rfl
/-- the link of a side -/
theorem WkG.updLink {base g r o c : Nat} {t : Tn} {vs : Nat → Value} {w : World} (h : WkM base g t vs w) (s : Nat) (hs : s < t.node.sides.length) (hv : vs 0 = .slice (some ⟨r, o, none⟩) t.node.sides.length c) (l : Lk) (hl : l.fits) (sa : Option Addr) (sc : Nat) (qa : Option Addr) (qc : Nat)
    (h1 : RdS (fun b => b < w.heap.size ∧ ¬ WX base g vs b ∧ b ≠ r) w l.sent sa l.sent.length sc) (h2 : RdS (fun b => b < w.heap.size ∧ ¬ WX base g vs b ∧ b ≠ r) w l.queue qa l.queue.length qc) :
    WkM base g (t.setSide s { t.side s with l := l }) vs (w.setCells r (o + s * 10 + 5) [.int .i64 l.epoch, .int .i64 l.next, .slice sa l.sent.length sc, .slice qa l.queue.length qc, .int .i64 l.heard]) ∧ Touch (Mine g vs) w (w.setCells r (o + s * 10 + 5) [.int .i64 l.epoch, .int .i64 l.next, .slice sa l.sent.length sc, .slice qa l.queue.length qc, .int .i64 l.heard]) := by
  refine h.upd s hs hv 5 _ (by simp) _ fun xs hx => ?_
  obtain ⟨a, ac, _, _, _, _, rfl, p1, -, -, p4, p5, -⟩ := hx
  rw [t.side_get s hs]
  refine ⟨_, ⟨a, ac, sa, sc, qa, qc, rfl, p1, h1, h2, p4, p5, hl⟩, fun j v hj => ?_⟩
  match j with
  | 0 | 1 | 2 | 3 | 4 | 5 | 6 | 7 | 8 | 9 => exact hj
  | j + 10 => cases hj
end Go.Proofs.YtkbfhgcjimfgkaaDoor
set_option linter.unusedSimpArgs false
namespace Go.Proofs.YtkbfhgcjimfgkaaDoor
open Go.RowKit
set_option maxRecDepth 100000 in
set_option maxHeartbeats 2000000 in
theorem move_any (A : Nat → Prop) (x : Int) (l : Op) (push : Bool) (a : Option Addr) (n c : Nat) (w : World) (hg : Good w) (hA : ∀ b, A b → b < w.heap.size) (hr : RdS A w l a n c) (hx : I64 x) (hc : check l = 0) :
    Calls Tryd.prog 81 #[.int .i64 x, .slice a n c, .bool push] w fun e w' => e = .returned (.tuple #[.int .i64 (if x < 0 ∨ sumF l < x then 0 else mv push l x 0 0), .int .i64 (if x < 0 ∨ sumF l < x then 2 else 0)]) ∧ Below w.heap.size w w' := by
  have hnl : n = l.length := hr.1
  obtain ⟨hlen, hok, hF, hT⟩ := check_zero hc
  have hF0 := sumF_nonneg l hok
  have hn2 : n ≤ 8001 := by omega
  have Hck := Lib.hid (by have := check_any A l a n c w hg hA hr; rw [hc] at this; exact this)
  have Hlen := Lib.hid (fun W (hb : Below w.heap.size w W) => lengths_any A l a n c W (hr.below hA hb) (check_small hc))
  have Hp : Hid (0 < n → ∃ b off, a = some ⟨b, off, none⟩ ∧ A b ∧ b < w.heap.size ∧ ∀ i (h : i < l.length), I64 l[i].kind ∧ I64 l[i].n ∧ l[i].text.size ≤ strMax ∧
      w.cell? ⟨b, off + i * 3, none⟩ = some (.int .i64 l[i].kind) ∧ w.cell? ⟨b, off + i * 3 + 1, none⟩ = some (.int .i64 l[i].n) ∧ w.cell? ⟨b, off + i * 3 + 2, none⟩ = some (.string l[i].text)) := fun h => hr.part h
  have Hbd : Hid (∀ k, k ≤ l.length → 0 ≤ sumF (l.take k) ∧ sumF (l.take k) ≤ 4000 ∧ 0 ≤ sumT (l.take k) ∧ sumT (l.take k) ≤ 4000) := fun k _ => by
    have h1 := sum_parts lenF l k (fun p hp => (partOk_small (hok p hp)).1)
    have h2 := sum_parts lenT l k (fun p hp => (partOk_small (hok p hp)).2.2.1)
    unfold sumF sumT at *
    omega
  have Hl := Lib.hid hnl
  have Hok := Lib.hid hok
  have Hc := Lib.hid hc
  clear hnl hok hc hr hlen hT
  unfold I64 at hx
  generalize hu : (if x < 0 ∨ sumF l < x then (0 : Int) else mv push l x 0 0) = u
  generalize hv : (if x < 0 ∨ sumF l < x then (2 : Int) else 0) = v
  have Hu := Lib.hid hu
  have Hv := Lib.hid hv
  clear hu hv
  go_enter Tryd.func81, Tryd.ntmps81
  go_wp2_with fail
  refine Hck.out.mono ?_
  rintro e w1 ⟨rfl, hb1⟩
  go_wp2_with fail
  refine (Hlen.out _ (by (repeat (first | exact Below.refl _ _ | assumption | (refine Below.drew ?_) | (refine below_drewN ?_ _) | (refine Below.alloc ?_ (by first | (simp; done) | (simp; omega) | omega) _) | (refine Below.setCell ?_ (by first | (simp; done) | (simp; omega) | omega) _) | (refine Below.trans ?_ (Below.mono (by assumption) (by first | (simp; done) | (simp; omega) | omega))))))).mono ?_
  rintro e w2 ⟨rfl, hb2⟩
  have Hb2 := Lib.hid (hb1.trans (hb2.mono hb1.size))
  clear hb1 hb2
  by_cases h0 : x < 0
  · have hu := Hu.out
    have hv := Hv.out
    rw [if_pos (.inl h0)] at hu hv
    subst hu hv
    clear Hu Hv
    clear Hck Hlen
    go_wp2_with fail
    go_ret2
    exact ⟨rfl, Hb2.out⟩
  by_cases h1 : sumF l < x
  · have hu := Hu.out
    have hv := Hv.out
    rw [if_pos (.inr h1)] at hu hv
    subst hu hv
    clear Hu Hv
    clear Hck Hlen
    generalize sumF l = z at *
    go_wp2_with fail
    go_ret2
    exact ⟨rfl, Hb2.out⟩
  have hu := Hu.out
  have hv := Hv.out
  rw [if_neg (by omega)] at hu hv
  clear Hu Hv
  subst hv
  have Hm := Lib.hid hu
  clear hu
  clear Hck Hlen
  have hx4 : x ≤ 4000 := by omega
  have h1' : x ≤ sumF l := by omega
  clear h1
  have Hx := Lib.hid h1'
  generalize sumF l = z at h1' hF hF0
  go_wp2_with fail
  generalize sumT l = z2
  go_loopw [0, 11, 12, 34] (fun a o m i wr => ∃ (k : Nat) (X : Int), k ≤ n ∧ i = .int .i64 k ∧ a = .int .i64 X ∧ o = .int .i64 (sumF (l.take k)) ∧ m = .int .i64 (sumT (l.take k)) ∧ sumF (l.take k) ≤ X ∧ X ≤ 4000 ∧ mv push (l.drop k) X (sumF (l.take k)) (sumT (l.take k)) = u ∧ Below w.heap.size w wr) (fun _ _ _ i _ => n - (intOf i).toNat)
  case atStart => exact ⟨0, x, by omega, rfl, rfl, rfl, rfl, by simp [sumF]; omega, hx4, by simpa [sumF, sumT] using Hm.out, Hb2.out⟩
  case round =>
    obtain ⟨k, X, hk, rfl, rfl, rfl, rfl, hX0, hX4, hmv, hb⟩ := hrel
    clear Hm Hx h1' hF hF0 hx4 h0 hx
    by_cases hlt : k < n
    · obtain ⟨b, off, rfl, _, hbs, hcs⟩ := Hp.out (by omega)
      have hkl : k < l.length := by have := Hl.out; omega
      obtain ⟨_, hn64, ht, c0, c1, c2⟩ := hcs k hkl
      clear hcs
      have hbk := Hbd.out k (by omega)
      have hbk1 := Hbd.out (k + 1) (by omega)
      have hpk := partOk_kind (Hok.out l[k] (List.getElem_mem hkl))
      have hFn := sumF_next l k hkl
      have hTn := sumT_next l k hkl
      rw [hFn, hTn] at hbk1
      have HF := Lib.hid hFn
      have HT := Lib.hid hTn
      rw [List.drop_eq_getElem_cons hkl] at hmv
      have hz := hb.size
      obtain ⟨hcb, hfb⟩ := bcell hb
      clear hFn hTn
      have hSz := fun W : World => size_any l[k] W hn64 ht
      generalize sumF (l.take k) = O at *
      generalize sumT (l.take k) = N at *
      generalize l[k] = p at *
      obtain ⟨pk, pn, pt⟩ := p
      simp only at *
      rcases hpk with ⟨rfl, n1, n2⟩ | ⟨rfl, rfl, n2⟩ | ⟨rfl, n1, n2⟩
      · have e1 : lenF ⟨1, pn, pt⟩ = pn := by simp [lenF]
        have e2 : lenT ⟨1, pn, pt⟩ = pn := by simp [lenT]
        rw [e1] at HF hbk1; rw [e2] at HT hbk1
        simp only [mv, i12, i32, i31, if_false, if_true] at hmv
        clear e1 e2 hSz hn64 ht
        by_cases h1 : X < O + pn
        · rw [if_pos h1] at hmv
          have d : decide (X < O + pn) = true := by simpa using h1
          have Hmv := Lib.hid hmv
          clear hmv h1
          go_wp2_with fail
          go_ret2
          exact ⟨by have h := Hmv.out; subst h; rfl, by (repeat (first | exact Below.refl _ _ | assumption | (refine Below.drew ?_) | (refine below_drewN ?_ _) | (refine Below.alloc ?_ (by first | (simp; done) | (simp; omega) | omega) _) | (refine Below.setCell ?_ (by first | (simp; done) | (simp; omega) | omega) _) | (refine Below.trans ?_ (Below.mono (by assumption) (by first | (simp; done) | (simp; omega) | omega)))))⟩
        · rw [if_neg h1] at hmv
          have d : decide (X < O + pn) = false := by simpa using h1
          have Hmv := Lib.hid hmv
          have h2 : O + pn ≤ X := by omega
          clear hmv h1
          go_wp2_with fail
          go_quiet (fail)
          go_wp2_with fail
          go_roundw
          case rel => exact ⟨k + 1, X, by omega, by go_num, rfl, by rw [HF.out], by rw [HT.out], by rw [HF.out]; exact h2, hX4, by rw [HF.out, HT.out]; exact Hmv.out, by (repeat (first | exact Below.refl _ _ | assumption | (refine Below.drew ?_) | (refine below_drewN ?_ _) | (refine Below.alloc ?_ (by first | (simp; done) | (simp; omega) | omega) _) | (refine Below.setCell ?_ (by first | (simp; done) | (simp; omega) | omega) _) | (refine Below.trans ?_ (Below.mono (by assumption) (by first | (simp; done) | (simp; omega) | omega)))))⟩
          case measure => simp [intOf]; omega
      · have e1 : lenF ⟨2, 0, pt⟩ = 0 := by simp [lenF]
        have e2 : lenT ⟨2, 0, pt⟩ = rc pt := by simp [lenT]
        rw [e1] at HF hbk1; rw [e2] at HT hbk1
        simp only [mv, if_true] at hmv
        simp only [if_true] at hSz
        have HSz := Lib.hid hSz
        clear e1 e2 hSz hn64 ht
        generalize rc pt = R at *
        have d0 : decide (X < O) = false := by simp; omega
        by_cases h1 : O = X
        · subst h1
          cases push with
          | false =>
            rw [if_pos ⟨rfl, rfl⟩] at hmv
            have Hmv := Lib.hid hmv
            clear hmv
            go_wp2_with fail
            go_ret2
            exact ⟨by have h := Hmv.out; rw [← h, show N + O - O = N by omega]; rfl, by (repeat (first | exact Below.refl _ _ | assumption | (refine Below.drew ?_) | (refine below_drewN ?_ _) | (refine Below.alloc ?_ (by first | (simp; done) | (simp; omega) | omega) _) | (refine Below.setCell ?_ (by first | (simp; done) | (simp; omega) | omega) _) | (refine Below.trans ?_ (Below.mono (by assumption) (by first | (simp; done) | (simp; omega) | omega)))))⟩
          | true =>
            rw [if_neg (by rintro ⟨_, h⟩; cases h)] at hmv
            have Hmv := Lib.hid hmv
            clear hmv
            go_wp2_with (go_at_call 93; refine (HSz.out _).mono ?_; rintro e w3 ⟨rfl, hb3⟩; obtain ⟨hc3, hf3⟩ := bcell hb3)
            go_roundw
            case rel => exact ⟨k + 1, O, by omega, by go_num, rfl, by rw [HF.out]; go_num, by rw [HT.out], by rw [HF.out]; omega, hX4, by rw [HF.out, HT.out, Int.add_zero]; exact Hmv.out, by (repeat (first | exact Below.refl _ _ | assumption | (refine Below.drew ?_) | (refine below_drewN ?_ _) | (refine Below.alloc ?_ (by first | (simp; done) | (simp; omega) | omega) _) | (refine Below.setCell ?_ (by first | (simp; done) | (simp; omega) | omega) _) | (refine Below.trans ?_ (Below.mono (by assumption) (by first | (simp; done) | (simp; omega) | omega)))))⟩
            case measure => simp [intOf]; omega
        · rw [if_neg (fun h => h1 h.1)] at hmv
          have d1 : (O == X) = false := by simpa using h1
          have Hmv := Lib.hid hmv
          clear hmv h1
          go_wp2_with (go_at_call 93; refine (HSz.out _).mono ?_; rintro e w3 ⟨rfl, hb3⟩; obtain ⟨hc3, hf3⟩ := bcell hb3)
          go_roundw
          case rel => exact ⟨k + 1, X, by omega, by go_num, rfl, by rw [HF.out]; go_num, by rw [HT.out], by rw [HF.out]; omega, hX4, by rw [HF.out, HT.out, Int.add_zero]; exact Hmv.out, by (repeat (first | exact Below.refl _ _ | assumption | (refine Below.drew ?_) | (refine below_drewN ?_ _) | (refine Below.alloc ?_ (by first | (simp; done) | (simp; omega) | omega) _) | (refine Below.setCell ?_ (by first | (simp; done) | (simp; omega) | omega) _) | (refine Below.trans ?_ (Below.mono (by assumption) (by first | (simp; done) | (simp; omega) | omega)))))⟩
          case measure => simp [intOf]; omega
      · have e1 : lenF ⟨3, pn, pt⟩ = pn := by simp [lenF]
        have e2 : lenT ⟨3, pn, pt⟩ = 0 := by simp [lenT]
        rw [e1] at HF hbk1; rw [e2] at HT hbk1
        simp only [mv, i12, i32, i31, if_false, if_true] at hmv
        clear e1 e2 hSz hn64 ht
        by_cases h1 : X < O + pn
        · rw [if_pos h1] at hmv
          have d : decide (X < O + pn) = true := by simpa using h1
          have Hmv := Lib.hid hmv
          clear hmv h1
          go_wp2_with fail
          go_roundw
          case rel => exact ⟨k + 1, O + pn, by omega, by go_num, rfl, by rw [HF.out], by rw [HT.out]; go_num, by rw [HF.out]; omega, by omega, by rw [HF.out, HT.out, Int.add_zero]; exact Hmv.out, by (repeat (first | exact Below.refl _ _ | assumption | (refine Below.drew ?_) | (refine below_drewN ?_ _) | (refine Below.alloc ?_ (by first | (simp; done) | (simp; omega) | omega) _) | (refine Below.setCell ?_ (by first | (simp; done) | (simp; omega) | omega) _) | (refine Below.trans ?_ (Below.mono (by assumption) (by first | (simp; done) | (simp; omega) | omega)))))⟩
          case measure => simp [intOf]; omega
        · rw [if_neg h1] at hmv
          have d : decide (X < O + pn) = false := by simpa using h1
          have Hmv := Lib.hid hmv
          have h2 : O + pn ≤ X := by omega
          clear hmv h1
          go_wp2_with fail
          go_roundw
          case rel => exact ⟨k + 1, X, by omega, by go_num, rfl, by rw [HF.out], by rw [HT.out]; go_num, by rw [HF.out]; exact h2, hX4, by rw [HF.out, HT.out, Int.add_zero]; exact Hmv.out, by (repeat (first | exact Below.refl _ _ | assumption | (refine Below.drew ?_) | (refine below_drewN ?_ _) | (refine Below.alloc ?_ (by first | (simp; done) | (simp; omega) | omega) _) | (refine Below.setCell ?_ (by first | (simp; done) | (simp; omega) | omega) _) | (refine Below.trans ?_ (Below.mono (by assumption) (by first | (simp; done) | (simp; omega) | omega)))))⟩
          case measure => simp [intOf]; omega
    · have hkn : k = l.length := by have := Hl.out; omega
      subst hkn
      rw [List.drop_length] at hmv
      simp only [mv] at hmv
      subst hmv
      clear Hp
      go_wp2_with fail
      go_ret2
      exact ⟨rfl, hb⟩
end Go.Proofs.YtkbfhgcjimfgkaaDoor
set_option linter.unusedSimpArgs false
namespace Go.Proofs.YtkbfhgcjimfgkaaDoor
open Go.RowKit
/-- one element of a slice of slices -/
theorem RdS.row {α : Type} [Rep α] {A : Nat → Prop} {w : World} {ls : List (List α)} {a : Option Addr} {n c : Nat} (hr : RdS A w ls a n c) (hn : 0 < n) :
    ∃ b off, a = some ⟨b, off, none⟩ ∧ A b ∧ b < w.heap.size ∧ ∀ i (h : i < ls.length), ∃ a' n' c', RdS A w ls[i] a' n' c' ∧ w.cell? ⟨b, off + i, none⟩ = some (.slice a' n' c') := by
  obtain ⟨b, off, e, hA, hb, he⟩ := hr.2.2.2.2 hn
  refine ⟨b, off, e, hA, hb, fun i h => ?_⟩
  obtain ⟨xs, ⟨a', n', c', rfl, h1⟩, h4⟩ := he i ls[i] (List.getElem?_eq_getElem h)
  have h5 := h4 0 _ rfl
  refine ⟨a', n', c', h1, ?_⟩
  have e1 : off + i * Rep.n (List α) + 0 = off + i := by show off + i * 1 + 0 = off + i; omega
  rw [e1] at h5
  exact h5
def chainFrom : Option Int → List Op → Bool
  | _, [] => true
  | q, o :: r => decide (check o = 0) && (match q with | some t => decide (sumF o = t) | none => true) && chainFrom (some (sumT o)) r
def edgeOdd (s h : Int) (l : List Op) : Prop := s < 0 ∨ 1048576 < s ∨ h < 0 ∨ 1048576 < h ∨ s < l.length
instance (s h : Int) (l : List Op) : Decidable (edgeOdd s h l) := by unfold edgeOdd; infer_instance
def edgeCheck (s h : Int) (l : List Op) : Int := if edgeOdd s h l then 9 else if chainFrom none l = true then 0 else 9
def aheadT (l : List Op) : Nat → Option Int
  | 0 => none
  | k + 1 => (l[k]?).map sumT
theorem chain_bad {q : Option Int} {o : Op} {r : List Op} (h : check o ≠ 0) : chainFrom q (o :: r) = false := by simp [chainFrom, h]
theorem chain_off {t : Int} {o : Op} {r : List Op} (h : sumF o ≠ t) : chainFrom (some t) (o :: r) = false := by simp [chainFrom, h]
theorem chain_none {o : Op} {r : List Op} (h : check o = 0) : chainFrom none (o :: r) = chainFrom (some (sumT o)) r := by simp [chainFrom, h]
theorem chain_on {t : Int} {o : Op} {r : List Op} (h : check o = 0) (h2 : sumF o = t) : chainFrom (some t) (o :: r) = chainFrom (some (sumT o)) r := by simp [chainFrom, h, h2]
theorem edge_odd (s h : Int) (l : List Op) (a : Option Addr) (n c : Nat) (w : World) (hr : RdS (· < w.heap.size) w l a n c) (hs : I64 s) (hh : I64 h) (ho : edgeOdd s h l) :
    Calls Tryd.prog 53 #[.agg #[.int .i64 s, .int .i64 h, .slice a n c]] w fun e w' => e = .returned (.int .i64 9) ∧ Below w.heap.size w w' := by
  have hn := hr.1
  have hnm : n ≤ maxLen := by have h1 := hr.2.1; have h2 := hr.2.2.1; omega
  unfold maxLen at hnm
  unfold I64 at hs hh
  clear hr
  unfold edgeOdd at ho
  rw [← hn] at ho
  clear hn
  by_cases h1 : s < 0
  · clear ho
    go_enter Tryd.func53, Tryd.ntmps53
    go_wp2_with fail
    go_ret
    exact ⟨rfl, by (repeat (first | exact Below.refl _ _ | assumption | (refine Below.drew ?_) | (refine below_drewN ?_ _) | (refine Below.alloc ?_ (by first | (simp; done) | (simp; omega) | omega) _) | (refine Below.setCell ?_ (by first | (simp; done) | (simp; omega) | omega) _) | (refine Below.trans ?_ (Below.mono (by assumption) (by first | (simp; done) | (simp; omega) | omega)))))⟩
  by_cases h2 : 1048576 < s
  · clear ho
    go_enter Tryd.func53, Tryd.ntmps53
    go_wp2_with fail
    go_ret
    exact ⟨rfl, by (repeat (first | exact Below.refl _ _ | assumption | (refine Below.drew ?_) | (refine below_drewN ?_ _) | (refine Below.alloc ?_ (by first | (simp; done) | (simp; omega) | omega) _) | (refine Below.setCell ?_ (by first | (simp; done) | (simp; omega) | omega) _) | (refine Below.trans ?_ (Below.mono (by assumption) (by first | (simp; done) | (simp; omega) | omega)))))⟩
  by_cases h3 : h < 0
  · clear ho
    go_enter Tryd.func53, Tryd.ntmps53
    go_wp2_with fail
    go_ret
    exact ⟨rfl, by (repeat (first | exact Below.refl _ _ | assumption | (refine Below.drew ?_) | (refine below_drewN ?_ _) | (refine Below.alloc ?_ (by first | (simp; done) | (simp; omega) | omega) _) | (refine Below.setCell ?_ (by first | (simp; done) | (simp; omega) | omega) _) | (refine Below.trans ?_ (Below.mono (by assumption) (by first | (simp; done) | (simp; omega) | omega)))))⟩
  by_cases h4 : 1048576 < h
  · clear ho
    go_enter Tryd.func53, Tryd.ntmps53
    go_wp2_with fail
    go_ret
    exact ⟨rfl, by (repeat (first | exact Below.refl _ _ | assumption | (refine Below.drew ?_) | (refine below_drewN ?_ _) | (refine Below.alloc ?_ (by first | (simp; done) | (simp; omega) | omega) _) | (refine Below.setCell ?_ (by first | (simp; done) | (simp; omega) | omega) _) | (refine Below.trans ?_ (Below.mono (by assumption) (by first | (simp; done) | (simp; omega) | omega)))))⟩
  have h5 : s < n := by omega
  clear ho
  go_enter Tryd.func53, Tryd.ntmps53
  go_wp2_with fail
  go_ret
  exact ⟨rfl, by (repeat (first | exact Below.refl _ _ | assumption | (refine Below.drew ?_) | (refine below_drewN ?_ _) | (refine Below.alloc ?_ (by first | (simp; done) | (simp; omega) | omega) _) | (refine Below.setCell ?_ (by first | (simp; done) | (simp; omega) | omega) _) | (refine Below.trans ?_ (Below.mono (by assumption) (by first | (simp; done) | (simp; omega) | omega)))))⟩
set_option maxHeartbeats 2000000 in
theorem edge_any (s h : Int) (l : List Op) (a : Option Addr) (n c : Nat) (w : World) (hg : Good w) (hr : RdS (· < w.heap.size) w l a n c) (hs : I64 s) (hh : I64 h) :
    Calls Tryd.prog 53 #[.agg #[.int .i64 s, .int .i64 h, .slice a n c]] w fun e w' => e = .returned (.int .i64 (edgeCheck s h l)) ∧ Below w.heap.size w w' := by
  by_cases ho : edgeOdd s h l
  · unfold edgeCheck
    rw [if_pos ho]
    exact edge_odd s h l a n c w hr hs hh ho
  · unfold edgeCheck
    rw [if_neg ho]
    generalize hR : (if chainFrom none l = true then (0 : Int) else 9) = R
    have HR := Lib.hid hR
    clear hR
    unfold edgeOdd at ho
    have hn := hr.1
    have h1 : ¬ s < 0 := by omega
    have h2 : ¬ 1048576 < s := by omega
    have h3 : ¬ h < 0 := by omega
    have h4 : ¬ 1048576 < h := by omega
    have h5 : ¬ s < n := by omega
    have h6 : n ≤ 1048576 := by omega
    have Hl := Lib.hid hn
    have Hr := Lib.hid hr
    clear hn hr ho hs hh
    go_enter Tryd.func53, Tryd.ntmps53
    go_wp2_with fail
    have hz : w.heap.size < (w.alloc (.cells #[.int .i64 s, .int .i64 h, .slice a n c] 67)).heap.size := by simp
    have hbx : (w.alloc (.cells #[.int .i64 s, .int .i64 h, .slice a n c] 67)).cell? ⟨w.heap.size, 2, none⟩ = some (.slice a n c) := by rw [cell_of_row _ _ _ _ _ _ (heap_alloc_new w _)]; rfl
    have Hbw := Lib.hid (p := Below w.heap.size w (w.alloc (.cells #[.int .i64 s, .int .i64 h, .slice a n c] 67))) ((Below.refl _ _).alloc (Nat.le_refl _) _)
    have Hr1 := Lib.hid (Hr.out.go Hbw.out)
    have hg1 := hg.below' Hbw.out
    generalize (w.alloc (.cells #[.int .i64 s, .int .i64 h, .slice a n c] 67)) = w1 at *
    clear Hr h1 h2 h3 h4 h5
    go_loopw [38] (fun i wr => ∃ k : Nat, k ≤ n ∧ i = .int .i64 k ∧ chainFrom none l = chainFrom (aheadT l k) (l.drop k) ∧ (∀ o ∈ l.take k, check o = 0) ∧ Below w1.heap.size w1 wr) (fun i _ => n - (intOf i).toNat)
    case atStart => exact ⟨0, by omega, rfl, rfl, by simp, Below.refl _ _⟩
    case round =>
      obtain ⟨k, hk, rfl, hcf, hall, hb⟩ := hrel
      have Hcf := Lib.hid hcf
      have Hall := Lib.hid hall
      clear hcf hall
      have hzr := hb.size
      have hbr : wr.cell? ⟨w.heap.size, 2, none⟩ = some (.slice a n c) := (hb.cell (p := ⟨w.heap.size, 2, none⟩) hz).trans hbx
      have hgr := hg1.below' hb
      have Hb := Lib.hid hb
      by_cases hlt : k < n
      · have hrr := Hr1.out.go hb
        obtain ⟨b, off, rfl, hAb, hbs, hcs⟩ := hrr.row (by omega)
        have hkl : k < l.length := by have := Hl.out; omega
        obtain ⟨ak, nk, ck, hrk, dk⟩ := hcs k hkl
        have Hd := Lib.hid (List.drop_eq_getElem_cons hkl)
        have Htk := Lib.hid (take_next l k hkl)
        have Hck := Lib.hid (check_go l[k] ak nk ck _ hgr hrk)
        have Hrk := Lib.hid hrk
        by_cases hc : check l[k] = 0
        · have Hall2 : Hid (∀ o ∈ l.take (k + 1), check o = 0) := by
            unfold Hid; rw [Htk.out]; intro o ho
            rcases List.mem_append.1 ho with h | h
            · exact Hall.out o h
            · simp at h; rw [h]; exact hc
          have Hah : Hid (aheadT l (k + 1) = some (sumT l[k])) := by unfold Hid; simp only [aheadT]; rw [List.getElem?_eq_getElem hkl]; rfl
          rw [hc] at Hck
          cases k with
          | zero =>
            have Hst : Hid (chainFrom none l = chainFrom (aheadT l (0 + 1)) (l.drop (0 + 1))) := by
              unfold Hid; rw [Hcf.out, Hd.out]; rw [Hah.out]; exact chain_none hc
            clear Hd Htk Hah Hcf Hall hc hcs hrk hrr hb
            simp only [Nat.add_zero] at dk
            go_wp2_with fail
            refine Hck.out.mono ?_
            rintro e w2 ⟨rfl, hb2⟩
            have Hb2 := Lib.hid (Hb.out.trans (hb2.mono hzr))
            clear hb2 Hb
            go_wp2_with fail
            go_roundw
            case rel => exact ⟨1, by omega, by go_num, Hst.out, Hall2.out, Hb2.out⟩
            case measure => simp [intOf]; omega
          | succ j =>
            obtain ⟨aj, nj, cj, hrj, dj⟩ := hcs j (by omega)
            have hah : aheadT l (j + 1) = some (sumT l[j]) := by simp only [aheadT]; rw [List.getElem?_eq_getElem (by omega)]; rfl
            have hcj : check l[j] = 0 := Hall.out l[j] (by rw [List.mem_take_iff_getElem]; exact ⟨j, by omega, rfl⟩)
            have Hlj := Lib.hid (fun W (hW : Below wr.heap.size wr W) => lengths_go l[j] aj nj cj W (hrj.go hW) hcj)
            have Hlk := Lib.hid (fun W (hW : Below wr.heap.size wr W) => lengths_go l[j + 1] ak nk ck W (hrk.go hW) hc)
            have hbj : ∀ W, Below wr.heap.size wr W → W.cell? ⟨w.heap.size, 2, none⟩ = some (.slice (some ⟨b, off, none⟩) n c) ∧ W.cell? ⟨b, off + j, none⟩ = some (.slice aj nj cj) := fun W hW =>
              ⟨(hW.cell (p := ⟨w.heap.size, 2, none⟩) (show w.heap.size < wr.heap.size by omega)).trans hbr, (hW.cell (p := ⟨b, off + j, none⟩) hbs).trans dj⟩
            have Hbj := Lib.hid hbj
            by_cases heq : sumF l[j + 1] = sumT l[j]
            · have Hst : Hid (chainFrom none l = chainFrom (aheadT l (j + 1 + 1)) (l.drop (j + 1 + 1))) := by
                unfold Hid; rw [Hcf.out, Hd.out]; rw [Hah.out, hah]; exact chain_on hc heq
              have hne : (sumF l[j + 1] != sumT l[j]) = false := by simp [heq]
              clear Hd Htk Hah Hcf Hall hc hcs hrk hrr hb hah hcj hrj dj hbj heq
              have hp0 : 0 < j + 1 := by omega
              have hjn : j < n := by omega
              go_wp2_with fail
              refine Hck.out.mono ?_
              rintro e w2 ⟨rfl, hb2⟩
              have Hb2 := Lib.hid hb2
              obtain ⟨e2, ej⟩ := Hbj.out _ hb2
              clear hb2
              go_wp2_with fail
              refine (Hlj.out _ Hb2.out).mono ?_
              rintro e w3 ⟨rfl, hb3⟩
              have Hb3 := Lib.hid (Hb2.out.trans (hb3.mono Hb2.out.size))
              clear hb3 Hb2
              go_wp2_with fail
              refine (Hlk.out _ Hb3.out).mono ?_
              rintro e w4 ⟨rfl, hb4⟩
              have Hb4 := Lib.hid (Hb.out.trans ((Hb3.out.trans (hb4.mono Hb3.out.size)).mono hzr))
              clear hb4 Hb3
              go_wp2_with fail
              go_roundw
              case rel => exact ⟨j + 1 + 1, by omega, by go_num, Hst.out, Hall2.out, Hb4.out⟩
              case measure => simp [intOf]; omega
            · have Hst : Hid (chainFrom none l = false) := by
                unfold Hid; rw [Hcf.out, Hd.out]; rw [hah]; exact chain_off heq
              have hne : (sumF l[j + 1] != sumT l[j]) = true := by simpa using heq
              clear Hd Htk Hah Hcf Hall hc hcs hrk hrr hb hah hcj hrj dj hbj heq
              have hp0 : 0 < j + 1 := by omega
              have hjn : j < n := by omega
              go_wp2_with fail
              refine Hck.out.mono ?_
              rintro e w2 ⟨rfl, hb2⟩
              have Hb2 := Lib.hid hb2
              obtain ⟨e2, ej⟩ := Hbj.out _ hb2
              clear hb2
              go_wp2_with fail
              refine (Hlj.out _ Hb2.out).mono ?_
              rintro e w3 ⟨rfl, hb3⟩
              have Hb3 := Lib.hid (Hb2.out.trans (hb3.mono Hb2.out.size))
              clear hb3 Hb2
              go_wp2_with fail
              refine (Hlk.out _ Hb3.out).mono ?_
              rintro e w4 ⟨rfl, hb4⟩
              have Hb4 := Lib.hid (Hbw.out.trans ((Hb.out.trans ((Hb3.out.trans (hb4.mono Hb3.out.size)).mono hzr)).mono Hbw.out.size))
              clear hb4 Hb3
              go_wp2_with fail
              go_ret
              exact ⟨ret_int (by rw [← HR.out, Hst.out]; rfl), Hb4.out⟩
        · have Hst : Hid (chainFrom none l = false) := by
            unfold Hid; rw [Hcf.out, Hd.out]; exact chain_bad hc
          have hne : (check l[k] != 0) = true := by simpa using hc
          clear Hd Htk Hcf Hall hc hcs hrk hrr hb
          go_wp2_with fail
          refine Hck.out.mono ?_
          rintro e w2 ⟨rfl, hb2⟩
          have Hb2 := Lib.hid (Hbw.out.trans ((Hb.out.trans (hb2.mono hzr)).mono Hbw.out.size))
          clear hb2
          go_wp2_with fail
          go_ret
          exact ⟨ret_int (by rw [← HR.out, Hst.out]; rfl), Hb2.out⟩
      · have hkn : k = l.length := by have := Hl.out; omega
        have Hst : Hid (chainFrom none l = true) := by
          unfold Hid; rw [Hcf.out, hkn, List.drop_length]; cases aheadT l l.length <;> rfl
        have Hb2 := Lib.hid (Hbw.out.trans (hb.mono Hbw.out.size))
        clear Hcf Hall hkn hb
        go_wp2_with fail
        go_ret
        exact ⟨ret_int (by rw [← HR.out, Hst.out]; rfl), Hb2.out⟩
end Go.Proofs.YtkbfhgcjimfgkaaDoor
