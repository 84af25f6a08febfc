/- The walk of tape.open at a fine tape. -/
import Derived.Test.YtdbdhpjjndhjiaaDoorConcat
import Derived.Test.YtdbdhpjjndhjiaaDoorRecMake
set_option linter.unusedSimpArgs false
namespace Go.Proofs.YtdbdhpjjndhjiaaDoor
open Go.RowKit

/-- bytes of the call's own, behind block B -/
def CpV (B : Nat) (W : World) (l : Bs) (v : Value) : Prop := ∃ a c, v = .slice a l.length c ∧ Flat a ∧ RdS (fun k => B < k ∧ k < W.heap.size) W l a l.length c
theorem CpV.go {B : Nat} {W W' : World} {l : Bs} {v : Value} (h : CpV B W l v) (hb : Below W.heap.size W W') : CpV B W' l v := by
  obtain ⟨a, c, e, f, r⟩ := h
  exact ⟨a, c, e, f, r.mono fun k hk => ⟨⟨hk.1, Nat.lt_of_lt_of_le hk.2 hb.size⟩, hb.block k hk.2⟩⟩
theorem CpV.touch {B : Nat} {W W' : World} {l : Bs} {v : Value} (h : CpV B W l v) (hb : Touch (fun z => z = B) W W') : CpV B W' l v := by
  obtain ⟨a, c, e, f, r⟩ := h
  exact ⟨a, c, e, f, r.mono fun k hk => ⟨⟨hk.1, Nat.lt_of_lt_of_le hk.2 hb.size⟩, hb.block k hk.2 (by show ¬ (k = B); have := hk.1; omega)⟩⟩
theorem CpV.cell {B : Nat} {W : World} {l : Bs} {v : Value} (h : CpV B W l v) : v.oneCell' = true := by
  obtain ⟨a, c, rfl, _⟩ := h; rfl
def TpV (B : Nat) (W : World) (l : Bs) (s : Int) (v : Value) : Prop := ∃ u, v = .agg #[u, .int .i64 s] ∧ CpV B W l u
/-- what stands in the two boxes -/
def OpI (w : World) (l : Bs) (a : Option Addr) (c : Nat) (s : Int) (b : Bool) (W : World) : Prop :=
  Blk w.heap.size (.cells #[.slice a l.length c, .int .i64 s] 27 (0, 0)) W ∧ Below w.heap.size w W ∧
  ∃ u s', Blk (w.heap.size + 1) (.cells #[u, .int .i64 s'] 27 (0, 0)) W ∧ (b = true → s' = s ∧ CpV (w.heap.size + 1) W l u)
theorem OpI.go {w : World} {l : Bs} {a : Option Addr} {c : Nat} {s : Int} {b : Bool} {W W' : World} (h : OpI w l a c s b W) (hb : Below W.heap.size W W') : OpI w l a c s b W' := by
  obtain ⟨h1, h2, u, s', h3, h4⟩ := h
  exact ⟨h1.go hb, h2.trans (hb.mono h2.size), u, s', h3.go hb, fun h => ⟨(h4 h).1, (h4 h).2.go hb⟩⟩
/-- a tape of the call's own -/
def TapeP (w : World) (l : Bs) (s : Int) (v : Value) (w' : World) : Prop :=
  ∃ a c, v = .agg #[.slice a l.length c, .int .i64 s] ∧ Flat a ∧ RdS (fun b => w.heap.size ≤ b ∧ b < w'.heap.size) w' l a l.length c ∧ Below w.heap.size w w'
set_option maxRecDepth 100000 in
set_option maxHeartbeats 2000000 in
theorem open_ok (l : Bs) (s : Int) (a : Option Addr) (c : Nat) (w : World) (hr : RdS (· < w.heap.size) w l a l.length c) (h0 : 0 ≤ s) (h1 : s ≤ l.length) (h2 : l.length ≤ 8388608) :
    Calls Tryd.prog 38 #[.agg #[.slice a l.length c, .int .i64 s]] w fun e w' => ∃ v, e = .returned (.tuple #[v, .bool true]) ∧ TapeP w l s v w' := by
  have HC := Lib.hid (fun W (hW : Below w.heap.size w W) => cloneB_any l a l.length c W (hr.go hW) (by omega))
  have d1 : decide (s < 0) = false := by simp; omega
  have d2 : decide ((l.length : Int) < s) = false := by simp; omega
  have d3 : decide ((8388608 : Int) < (l.length : Int)) = false := by simp; omega
  have HR := Lib.hid hr
  clear hr
  go_enter Tryd.func38, Tryd.ntmps38
  go_wp2_with fail
  obtain ⟨Vp, HV⟩ : ∃ Vp : Nat → Value → World → Prop, Hid (Vp = fun i v W => match i with
      | 0 => v = .pointer (some ⟨w.heap.size, 0, none⟩)
      | 1 => v = .slice a l.length c
      | 2 => CpV (w.heap.size + 1) W l v
      | 3 => v = .pointer (some ⟨w.heap.size, 1, none⟩)
      | 4 => v = .int .i64 s
      | 5 => TpV (w.heap.size + 1) W l s v
      | 6 => v = undef
      | _ => v = .bool true) := ⟨_, rfl⟩
  obtain ⟨Ip, HIp⟩ : ∃ Ip : (Nat → Bool) → (Nat → Value) → World → Prop, Hid (Ip = fun L x W => (OpI w l a c s (L 6) W)) := ⟨_, rfl⟩
  refine region_lit3 (by kernel_rfl) (by kernel_rfl) (by kernel_rfl) [[], [0], [0, 1], [], [3], [0, 1, 2, 3, 4], [0, 1, 2, 3, 4, 5], []] (by kernel_rfl) [some 22, some 23, some 24, some 25, some 26, some 27, none, some 3] (by kernel_rfl) [[0, 1, 2, 5, 6], [1, 2, 5, 6], [2, 5, 6], [3, 4, 5, 6], [4, 5, 6], [5, 6], [6], [7]] (by kernel_rfl) [[], [], [], [], [], [], [], []] [[], [0], [1], [], [3], [2, 4], [5], []] (by kernel_rfl)
    Ip
    Vp
    (fun j W W' => match j with
      | 6 => Touch (fun z => z = w.heap.size + 1) W W'
      | _ => Below W.heap.size W W')
    [fun x => ⟨#[undef, .pointer (some ⟨w.heap.size, 0, none⟩), undef, undef, undef, undef, undef, undef, undef, undef, undef, undef, undef, undef, undef, undef, undef, undef, undef, undef, undef, undef, undef], []⟩,
   fun x => ⟨#[undef, undef, undef, undef, undef, undef, undef, undef, undef, undef, undef, undef, undef, undef, undef, undef, undef, undef, undef, undef, undef, undef, x 0, undef], []⟩,
   fun x => ⟨#[undef, undef, undef, undef, undef, undef, undef, undef, undef, undef, undef, undef, undef, undef, undef, undef, undef, undef, undef, undef, undef, undef, undef, x 1, undef], []⟩,
   fun x => ⟨#[undef, .pointer (some ⟨w.heap.size, 0, none⟩), undef, undef, undef, undef, undef, undef, undef, undef, undef, undef, undef, undef, undef, undef, undef, undef, undef, undef, undef, undef, undef, undef, undef, undef], []⟩,
   fun x => ⟨#[undef, undef, undef, undef, undef, undef, undef, undef, undef, undef, undef, undef, undef, undef, undef, undef, undef, undef, undef, undef, undef, undef, undef, undef, undef, x 3, undef], []⟩,
   fun x => ⟨#[undef, undef, undef, undef, undef, undef, undef, undef, undef, undef, undef, undef, undef, undef, undef, undef, undef, undef, undef, undef, undef, undef, undef, undef, x 2, undef, x 4, undef], []⟩,
   fun x => ⟨#[undef, undef, .pointer (some ⟨w.heap.size + 1, 0, none⟩), undef, undef, undef, undef, undef, undef, undef, undef, undef, undef, undef, undef, undef, undef, undef, undef, undef, undef, undef, undef, undef, undef, undef, undef, x 5], []⟩,
   fun x => ⟨#[undef, undef, undef, undef], []⟩]
    ?hF ?mono ?h0 ?step [0, 1, 2, 3, 4, 5, 6, 7] (by kernel_rfl) ?fin
  case hF =>
    exact ⟨fun x => ⟨by kernel_rfl, by kernel_rfl⟩, fun x => ⟨by kernel_rfl, by kernel_rfl⟩, fun x => ⟨by kernel_rfl, by kernel_rfl⟩, fun x => ⟨by kernel_rfl, by kernel_rfl⟩, fun x => ⟨by kernel_rfl, by kernel_rfl⟩, fun x => ⟨by kernel_rfl, by kernel_rfl⟩, fun x => ⟨by kernel_rfl, by kernel_rfl⟩, fun x => ⟨by kernel_rfl, by kernel_rfl⟩, trivial⟩
  case mono =>
    intro i j hi hj hne hna hnk v W W' hE hv
    rw [HV.out] at hv ⊢
    simp only [List.length_cons, List.length_nil] at hi hj
    match i, hi with
    | 0, _ | 1, _ | 3, _ | 4, _ | 6, _ | 7, _ => exact hv
    | 2, _ =>
      match j, hj with
      | 2, _ => exact absurd rfl hne
      | 0, _ => exact absurd (by simp) hna
      | 1, _ => exact absurd (by simp) hna
      | 3, _ => exact hv.go hE
      | 4, _ => exact hv.go hE
      | 5, _ => exact hv.go hE
      | 6, _ => exact hv.touch hE
      | 7, _ => exact hv.go hE
      | m + 8, h => exact absurd h (by omega)
    | 5, _ =>
      match j, hj with
      | 5, _ => exact absurd rfl hne
      | 0, _ => exact absurd (by simp) hna
      | 1, _ => exact absurd (by simp) hna
      | 2, _ => exact absurd (by simp) hna
      | 3, _ => exact absurd (by simp) hna
      | 4, _ => exact absurd (by simp) hna
      | 6, _ => exact hv.imp fun u h => ⟨h.1, h.2.touch hE⟩
      | 7, _ => exact hv.imp fun u h => ⟨h.1, h.2.go hE⟩
      | m + 8, h => exact absurd h (by omega)
    | m + 8, h => exact absurd h (by omega)
  case h0 => intro x; exact toI HIp ⟨((Blk.new w _).alloc _), by (repeat (first | exact Below.refl _ _ | assumption | (refine Below.drew ?_) | (refine below_drewN ?_ _) | (refine Below.alloc ?_ (by first | (simp; done) | (simp; omega) | omega) _) | (refine Below.setCell ?_ (by first | (simp; done) | (simp; omega) | omega) _) | (refine Below.trans ?_ (Below.mono (by assumption) (by first | (simp; done) | (simp; omega) | omega))))), _, _, Blk.at (w.alloc _) _ (w.heap.size + 1) (by simp), fun h => by cases h⟩
  case step =>
    refine ⟨?_, ?_, ?_, ?_, ?_, ?_, ?_, ?_, trivial⟩
    all_goals
      intro x W L hI hL hV
      replace hI : (OpI w l a c s (L 6) W) := ofI HIp hI
      rw [HV.out] at hV
      simp only [AllV, and_true] at hV
    · clear hV
      (try dsimp only)
      have HI := Lib.hid hI
      clear hI
      go_wp2_with fail
      refine step3_done rfl ?_ ?_ ?_
      · exact (toI HIp HI.out)
      · exact (Below.refl _ _)
      · exact (toV HV rfl)
    · have u0 := hV
      clear hV
      simp only [u0]
      clear u0
      have e1 : W.cell? ⟨w.heap.size, 0, none⟩ = some (.slice a l.length c) := hI.1.cell 0
      have HI := Lib.hid hI
      clear hI
      go_wp2_with fail
      refine step3_done rfl ?_ ?_ ?_
      · exact (toI HIp HI.out)
      · exact (Below.refl _ _)
      · exact (toV HV rfl)
    · have u1 := hV
      clear hV
      simp only [u1]
      clear u1
      have HI := Lib.hid hI
      clear hI
      go_wp2_with fail
      refine (HC.out W HI.out.2.1).mono ?_
      rintro e W' ⟨a2, c2, rfl, f2, r2, uW⟩
      have hlt := HI.out.2.2
      have HU := Lib.hid uW
      have HO := Lib.hid (HI.out.go uW)
      have HP : Hid (CpV (w.heap.size + 1) W' l (.slice a2 l.length c2)) := by
        obtain ⟨_, _, hb, _⟩ := hlt
        have := hb.lt
        exact ⟨a2, c2, rfl, f2, r2.mono fun k hk => ⟨⟨by have := hk.1; omega, hk.2⟩, rfl⟩⟩
      clear hlt r2 uW HI
      go_wp2_with fail
      refine step3_done rfl ?_ ?_ ?_
      · exact (toI HIp HO.out)
      · exact HU.out
      · exact (toV HV HP.out)
    · clear hV
      (try dsimp only)
      have HI := Lib.hid hI
      clear hI
      go_wp2_with fail
      refine step3_done rfl ?_ ?_ ?_
      · exact (toI HIp HI.out)
      · exact (Below.refl _ _)
      · exact (toV HV rfl)
    · have u3 := hV
      clear hV
      simp only [u3]
      clear u3
      have e1 : W.cell? ⟨w.heap.size, 1, none⟩ = some (.int .i64 s) := hI.1.cell 1
      have HI := Lib.hid hI
      clear hI
      go_wp2_with fail
      refine step3_done rfl ?_ ?_ ?_
      · exact (toI HIp HI.out)
      · exact (Below.refl _ _)
      · exact (toV HV rfl)
    · obtain ⟨⟨a2, c2, u2, f2, r2⟩, u4⟩ := hV
      simp only [u2, u4]
      have U2 := Lib.hid u2
      clear u2 u4
      have HI := Lib.hid hI
      have HP : Hid (TpV (w.heap.size + 1) W l s (.agg #[.slice a2 l.length c2, .int .i64 s])) := ⟨_, rfl, a2, c2, rfl, f2, r2⟩
      clear hI r2
      go_wp2_with fail
      refine step3_done rfl ?_ ?_ ?_
      · exact (toI HIp HI.out)
      · exact (Below.refl _ _)
      · exact (toV HV HP.out)
    · obtain ⟨_, u5, a5, c5, rfl, f5, r5⟩ := hV
      simp only [u5]
      have U5 := Lib.hid u5
      clear u5
      obtain ⟨b1, b2, u, s', b3, _⟩ := hI
      have e1 : W.cell? ⟨w.heap.size + 1, 0, none⟩ = some u := b3.cell 0
      have e2 : W.cell? ⟨w.heap.size + 1, 1, none⟩ = some (.int .i64 s') := b3.cell 1
      have e3 : ∀ i, W.frozen? ⟨w.heap.size + 1, i, none⟩ = false := b3.frozen
      have HT : Hid (Touch (fun z => z = w.heap.size + 1) W ((W.setCell ⟨w.heap.size + 1, 0, none⟩ (.slice a5 l.length c5)).setCell ⟨w.heap.size + 1, 1, none⟩ (.int .i64 s))) := ((Touch.refl (fun z => z = w.heap.size + 1) W).setCell (p := ⟨w.heap.size + 1, 0, none⟩) (.inl rfl) _).setCell (p := ⟨w.heap.size + 1, 1, none⟩) (.inl rfl) _
      have HO : Hid (OpI w l a c s true ((W.setCell ⟨w.heap.size + 1, 0, none⟩ (.slice a5 l.length c5)).setCell ⟨w.heap.size + 1, 1, none⟩ (.int .i64 s))) := by
        refine ⟨b1.touch HT.out (by omega), b2.trans (HT.out.toBelow b2.size (fun k hk => by subst hk; omega)), _, _, (b3.set 0 _).set 1 _, fun _ => ⟨rfl, ?_⟩⟩
        exact CpV.touch ⟨a5, c5, rfl, f5, r5⟩ HT.out
      clear r5 b1 b2 b3 U5
      go_wp2_with fail
      exact step3_done (v := undef) rfl (toI HIp HO.out) HT.out (toV HV rfl)
    · clear hV
      (try dsimp only)
      have HI := Lib.hid hI
      clear hI
      go_wp2_with fail
      refine step3_done rfl ?_ ?_ ?_
      · exact (toI HIp HI.out)
      · exact (Below.refl _ _)
      · exact (toV HV rfl)
  case fin =>
    intro x W L hL hI hV
    replace hI : (OpI w l a c s (L 6) W) := ofI HIp hI
    rw [HV.out] at hV
    simp only [AllV, and_true] at hV
    obtain ⟨u0, u1, ⟨a2, c2, u2, f2, r2⟩, u3, u4, ⟨_, u5, a5, c5, rfl, f5, r5⟩, u6, u7⟩ := hV
    simp only [getsD, List.getD_cons_succ, List.getD_cons_zero, List.length_cons, List.length_nil, List.range, List.range.loop, u0, u1, u2, u3, u4, u5, u6, u7, Act.put, List.setIfInBounds_toArray, List.set_cons_succ, List.set_cons_zero]
    clear u0 u1 u2 u3 u4 u5 u6 u7
    rw [hL 6 (by simp)] at hI
    obtain ⟨_, b2, u, s', b3, b4⟩ := hI
    obtain ⟨hs, a2, c2, hu, f2, r2⟩ := b4 rfl
    subst hs hu
    have e1 : W.cell? ⟨w.heap.size + 1, 0, none⟩ = some (.slice a2 l.length c2) := b3.cell 0
    have e2 : W.cell? ⟨w.heap.size + 1, 1, none⟩ = some (.int .i64 s') := b3.cell 1
    have G : Hid (TapeP w l s' (.agg #[.slice a2 l.length c2, .int .i64 s']) W) := ⟨a2, c2, rfl, f2, r2.mono fun k hk => ⟨⟨by have := hk.1; omega, hk.2⟩, rfl⟩, b2⟩
    clear b2 b3 r2 HR HC
    go_wp2_with fail
    refine bodyPost_ret (v := .tuple #[.agg #[.slice a2 l.length c2, .int .i64 s'], .bool true]) (by simp [results, Tryd.results38, go_sem, e1, e2]) rfl ?_
    exact ⟨_, rfl, G.out⟩
end Go.Proofs.YtdbdhpjjndhjiaaDoor
