/- The first texts of this claim, one behind the other. -/
import Derived.Test.YtkhacogeffidoaaDoorSubP
import Derived.BigQuiet
import Derived.Test.YtkhacogeffidoaaDoorSame
import Derived.Test.YtkhacogeffidoaaDoorTrLaw
import Derived.Test.YtkhacogeffidoaaDoorHere
import Derived.Test.YtkhacogeffidoaaDoorReg2
import Derived.Test.YtkhacogeffidoaaDoorEhBad
set_option linter.unusedVariables false
set_option linter.unusedSimpArgs false
namespace Go.Proofs.YtkhacogeffidoaaDoor
open Go.RowKit

set_option maxRecDepth 100000 in
set_option maxHeartbeats 2000000 in
theorem sameOp_ok (o : Op) (a b : Option Addr) (n c m d : Nat) (w : World) (h1 : RdS (· < w.heap.size) w o a n c) (h2 : RdS (· < w.heap.size) w o b m d) :
    Calls Tryd.prog 33 #[.slice a n c, .slice b m d] w fun e w' => e = .returned (.bool true) ∧ Below w.heap.size w w' := by
  obtain rfl : n = m := h1.1.trans h2.1.symm
  have hnl : n = o.length := h1.1
  have hnm : n ≤ maxLen := by have h3 := h1.2.1; have h4 := h1.2.2.1; omega
  unfold maxLen at hnm
  have hne : ((n : Int) != (n : Int)) = false := by simp
  have H1 := Lib.hid h1
  have H2 := Lib.hid h2
  have Hl := Lib.hid hnl
  clear h1 h2 hnl
  go_enter Tryd.func33, Tryd.ntmps33
  go_wp2_with fail
  go_loopw [13] (fun i wr => ∃ k : Nat, k ≤ n ∧ i = .int .i64 k ∧ Below w.heap.size w wr) (fun i _ => n - (intOf i).toNat)
  case atStart => exact ⟨0, by omega, rfl, Below.refl _ _⟩
  case round =>
    obtain ⟨k, hk, rfl, hb⟩ := hrel
    by_cases hlt : k < n
    · have r1 := H1.out.go hb
      have r2 := H2.out.go hb
      obtain ⟨b1, off1, rfl, _, hbs1, hcs1⟩ := r1.part (by omega)
      obtain ⟨b2, off2, rfl, _, hbs2, hcs2⟩ := r2.part (by omega)
      have hkl : k < o.length := by have := Hl.out; omega
      obtain ⟨hk64, hn64, ht, c0, c1, c2⟩ := hcs1 k hkl
      obtain ⟨-, -, -, d0, d1, d2⟩ := hcs2 k hkl
      generalize o[k] = p at *
      obtain ⟨pk, pn, pt⟩ := p
      simp only at c0 c1 c2 d0 d1 d2 hk64 hn64 ht
      have HB := Lib.hid hb
      clear r1 r2 hcs1 hcs2 hb hkl
      have hkn : (k : Int) < (n : Int) := by omega
      go_wp2_with fail
      go_quiet (fail)
      go_wp2_with fail
      go_roundw
      case rel => exact ⟨k + 1, by omega, by go_num, by first | exact HB.out | exact HB.out.drew | exact below_drewN HB.out _⟩
      case measure => simp [intOf]; omega
    · have hkn : k = n := by omega
      subst hkn
      have HB := Lib.hid hb
      clear hb
      go_wp2_with fail
      go_ret
      exact ⟨rfl, HB.out⟩
end Go.Proofs.YtkhacogeffidoaaDoor

set_option linter.unusedVariables false
set_option linter.unusedSimpArgs false
namespace Go.Proofs.YtkhacogeffidoaaDoor
open Go.RowKit

theorem kp_rev (n : Nat) : (kp n).reverse = kp n := by unfold kp; split <;> rfl
theorem kp_F (n : Nat) : FS (kp n) = n ∧ TS (kp n) = n ∧ ZS (kp n) = n := by
  unfold kp
  split
  · rename_i h; subst h; exact ⟨rfl, rfl, rfl⟩
  · simp [FS, TS, ZS, P.F, P.T, P.z]
theorem kp_opP (n : Nat) (h : n ≤ 4000) : opP (mkOp (n : Int) []) = kp n := by
  obtain ⟨h1, h2, -⟩ := kp_F n
  have := (opIs_of (kp_can n) (by omega) (by omega)).opP
  rw [kp_rev] at this
  rw [mkOp_nil]
  exact this
theorem tr_same {o : Op} (h : check o = 0) (n : Nat) (hn : (n : Int) = sumF o) (m : Nat) (hm : (m : Int) = sumT o) :
    trX o (mkOp n []) = o ∧ trY o (mkOp n []) = mkOp m [] ∧ trX (mkOp n []) o = mkOp m [] ∧ trY (mkOp n []) o = o := by
  have hI := opIs h
  have hf := hI.f
  have ht := hI.t
  have hfl := hI.fl
  have e1 : n = FS (opP o) := by omega
  have e2 : m = TS (opP o) := by omega
  have hk : opP (mkOp (n : Int) []) = kp (FS (opP o)) := by rw [kp_opP n (by omega), e1]
  obtain ⟨-, -, k3⟩ := kp_F (FS (opP o))
  have hx := xf_keep (opP o) (ZS (opP o) + FS (opP o)) hI.ok (Nat.le_refl _)
  have hkb : opOfP (keeps (opP o)) = mkOp (m : Int) [] := by
    unfold opOfP
    rw [keeps_build, kp_rev, mkOp_nil, e2]
  unfold trX trY
  rw [hk, k3, Nat.add_comm (FS (opP o)), hx.1, hx.2, hkb]
  exact ⟨opOfP_self h, rfl, rfl, opOfP_self h⟩

end Go.Proofs.YtkhacogeffidoaaDoor

set_option linter.unusedVariables false
set_option linter.unusedSimpArgs false
namespace Go.Proofs.YtkhacogeffidoaaDoor
open Go.RowKit

theorem kp_app (k : Nat) (t : List Nat) : app t (kp k) = t.take k := by
  unfold kp
  split
  · rename_i h; subst h; simp [app]
  · simp [app]
theorem keeps_kp (m : Nat) : keeps (kp m) = kp m := by unfold kp; split <;> rfl
theorem kp_kp (m f : Nat) (h : m + m ≤ f) : xf f (kp m) (kp m) = (kp m, kp m) := by
  obtain ⟨h1, h2, h3⟩ := kp_F m
  have := (xf_keep (kp m) f (fun p hp => (kp_can m).all p hp) (by omega)).1
  rw [h1, keeps_kp] at this
  exact this
theorem kp_noins (m : Nat) : ∀ u r, kp m ≠ .i u :: r := by
  intro u r h; unfold kp at h; split at h <;> cases h
/-- the parts of here -/
theorem here_build (k m : Nat) (x : List Nat) (hx : x ≠ []) : build [.k k, .i x, .k m] = kp m ++ .i x :: kp k := by
  have h1 := addP_kp 0 k
  rw [Nat.zero_add, kp_zero] at h1
  have h2 : addP (kp k) (.i x) = .i x :: kp k := by
    unfold kp; split <;> simp [addP, hx]
  have h3 : addP (.i x :: kp k) (.k m) = kp m ++ .i x :: kp k := by
    by_cases hm : m = 0
    · subst hm; rfl
    · rw [kp_pos hm]; simp [addP, hm]
  show addP (addP (addP [] (.k k)) (.i x)) (.k m) = _
  rw [h1, h2, h3]
theorem here_laws (n k : Nat) (x : List Nat) (hk : k ≤ n) (hn : n ≤ 2000) (hx : x ≠ []) (hv : ∀ r ∈ x, Uni.vr r) (hl : x.length ≤ 1000) :
    check (hereO n k x) = 0 ∧ sumF (hereO n k x) = n ∧ sumT (hereO n k x) = n + x.length ∧ opP (hereO n k x) = kp k ++ .i x :: kp (n - k) := by
  have hc : Can (build [.k k, .i x, .k (n - k)]) := foldl_can _ _ trivial (fun p hp t ht => by
    subst ht
    simp only [List.mem_cons, List.not_mem_nil, or_false] at hp
    rcases hp with h | h | h
    · cases h
    · cases h; exact hv
    · cases h)
  have hF : FS (build [.k k, .i x, .k (n - k)]) = n := by rw [build_FS]; simp only [FS, P.F]; omega
  have hT : TS (build [.k k, .i x, .k (n - k)]) = n + x.length := by rw [build_TS]; simp only [TS, P.T]; omega
  have hI := opIs_of hc (by omega) (by omega)
  have h1 := hI.check
  have h2 := hI.f
  have h3 := hI.t
  have h4 := hI.opP
  rw [FS_rev, hF] at h2
  rw [TS_rev, hT] at h3
  unfold hereO opOfP
  refine ⟨h1, h2, by rw [h3]; omega, ?_⟩
  rw [h4, here_build _ _ _ hx, List.reverse_append, List.reverse_cons, kp_rev', kp_rev']
  simp
where kp_rev' (n : Nat) : (kp n).reverse = kp n := by unfold kp; split <;> rfl
theorem xf_first (f k m : Nat) (x y : List Nat) (hx : x ≠ []) (hy : y ≠ []) (hf : (k + x.length + m) + (k + y.length + m) ≤ f) :
    (xf f (kp k ++ .i x :: kp m) (kp k ++ .i y :: kp m)).2 = kp k ++ (.k x.length :: .i y :: kp m) := by
  have lx := List.length_pos_iff.2 hx
  have ly := List.length_pos_iff.2 hy
  have key : ∀ g, m + m + 2 ≤ g → (xf g (.i x :: kp m) (.i y :: kp m)).2 = .k x.length :: .i y :: kp m := by
    intro g hg
    obtain ⟨g, rfl⟩ : ∃ h, g = h + 2 := ⟨g - 2, by omega⟩
    rw [show g + 2 = (g + 1) + 1 from rfl, xf_i1, xf_i2 _ _ _ _ (kp_noins m), kp_kp m g (by omega)]
  by_cases hk : k = 0
  · subst hk
    exact key f (by omega)
  · obtain ⟨f, rfl⟩ : ∃ g, f = g + 1 := ⟨f - 1, by omega⟩
    rw [kp_pos hk]
    simp only [List.cons_append, List.nil_append]
    rw [xf_2 _ _ _ _ _ rfl rfl]
    simp only [P.z, Nat.min_self, xe2, pass_eq (p := .k k) (n := k) rfl]
    rw [key f (by omega)]
    rfl
theorem first_app (n k : Nat) (x y t : List Nat) (hk : k ≤ n) (ht : t.length = n) (hx : x ≠ []) :
    app (app t (kp k ++ .i x :: kp (n - k))) (kp k ++ (.k x.length :: .i y :: kp (n - k))) = t.take k ++ x ++ y ++ t.drop k := by
  obtain ⟨k1, k2, k3⟩ := kp_F k
  have e0 : (t.drop k).take (n - k) = t.drop k := List.take_of_length_le (by rw [List.length_drop]; omega)
  have e1 : app t (kp k ++ .i x :: kp (n - k)) = t.take k ++ (x ++ t.drop k) := by
    rw [app_app, kp_app, k1]
    simp only [app, kp_app]
    rw [e0]
  have hl : (t.take k).length = k := by rw [List.length_take]; omega
  rw [e1, app_app, kp_app, k1, List.take_append_of_le_length (by omega), List.take_of_length_le (by omega : (t.take k).length ≤ k)]
  have e2 : (t.take k ++ (x ++ t.drop k)).drop k = x ++ t.drop k := by rw [List.drop_append_of_le_length (by omega), List.drop_of_length_le (by omega)]; rfl
  rw [e2]
  simp only [app, kp_app]
  rw [List.take_left, List.drop_left, e0]
  simp [List.append_assoc]
theorem trY_app {o q : Op} (h1 : check o = 0) (h2 : check q = 0) (h3 : sumF o = sumF q) (h4 : sumT o + sumT q ≤ 4000) (t : List Nat) :
    app t (opP (trY o q)) = app t (xf (ZS (opP o) + ZS (opP q)) (opP o) (opP q)).2 := by
  have hI1 := opIs h1
  have hI2 := opIs h2
  have hFF : FS (opP o) = FS (opP q) := by have := hI1.f; have := hI2.f; omega
  obtain ⟨l1, l2, l3, l4, l5, l6⟩ := xf_laws _ _ _ hI1.ok hI2.ok hFF (Nat.le_refl _)
  have lT := xf_TS (ZS (opP o) + ZS (opP q)) _ _ hI1.ok hI2.ok hFF
  have e1 := hI1.t
  have e2 := hI2.t
  have e3 := hI1.f
  unfold trY
  rw [opOfP_app l2 (by omega) (by omega)]
end Go.Proofs.YtkhacogeffidoaaDoor

set_option linter.unusedVariables false
set_option linter.unusedSimpArgs false
namespace Go.Proofs.YtkhacogeffidoaaDoor
open Go.RowKit

theorem one_text (s : Str) : (⟨#[49]⟩ : ByteArray) ++ letters s 3 = Uni.enc (49 :: lets s 3) := by
  have e : (⟨#[49]⟩ : ByteArray) = Uni.enc [49] := by kernel_rfl
  unfold letters
  rw [e, ← enc_append]
  rfl
theorem two_text (s : Str) : (⟨#[50]⟩ : ByteArray) ++ letters s 3 = Uni.enc (50 :: lets s 3) := by
  have e : (⟨#[50]⟩ : ByteArray) = Uni.enc [50] := by kernel_rfl
  unfold letters
  rw [e, ← enc_append]
  rfl
theorem here_go (n k : Nat) (t : List Nat) (w : World) (hv : ∀ r ∈ t, Uni.vr r) (hk : k ≤ n) (hn : n ≤ 4000) (ht : t.length ≤ 4000) :
    Calls Tryd.prog 35 #[.int .i64 (n : Int), .int .i64 (k : Int), .string (Uni.enc t)] w fun e w' => ∃ a c, e = .returned (.slice a (hereO n k t).length c) ∧
      RdS (· < w'.heap.size) w' (hereO n k t) a (hereO n k t).length c ∧ Below w.heap.size w w' :=
  (here_any n k t w hv hk hn ht).mono fun e w' ⟨a, c, he, hr, hb⟩ => ⟨a, c, he, hr.wide fun b hb => hb.2, hb⟩
/-- the two texts: what they make -/
theorem first_law {T : Str} (h0 : checkText T = 0) (N k : Nat) (hN : (N : Int) = rc T) (hk : k ≤ N) (hN2 : N ≤ 1000) (x y : List Nat) (hx : x ≠ []) (hy : y ≠ []) (vx : ∀ r ∈ x, Uni.vr r) (vy : ∀ r ∈ y, Uni.vr r) (lx : x.length ≤ 100) (ly : y.length ≤ 100) :
    check (hereO N k x) = 0 ∧ check (hereO N k y) = 0 ∧ sumF (hereO N k x) = sumF (hereO N k y) ∧ sumT (hereO N k x) + sumT (hereO N k y) ≤ 4000 ∧ applyE T (hereO N k x) = 0 ∧
    applyE (applyS T (hereO N k x)) (trY (hereO N k x) (hereO N k y)) = 0 ∧ check (trX (hereO N k x) (hereO N k y)) = 0 ∧ (applyS T (hereO N k x)).size ≤ 16000 ∧
    applyS (applyS T (hereO N k x)) (trY (hereO N k x) (hereO N k y)) = Uni.enc ((rns T).take k) ++ Uni.enc x ++ Uni.enc y ++ Uni.enc ((rns T).drop k) := by
  obtain ⟨o0, o1, o2, o3⟩ := here_laws N k x hk (by omega) hx vx (by omega)
  obtain ⟨q0, q1, q2, q3⟩ := here_laws N k y hk (by omega) hy vy (by omega)
  have e3 : sumF (hereO N k x) = sumF (hereO N k y) := by omega
  have e4 : sumT (hereO N k x) + sumT (hereO N k y) ≤ 4000 := by omega
  obtain ⟨x0, y0, x1, y1, xy, x2, x3, hmeet, -⟩ := tr_laws o0 q0 e3 e4
  have hY := trY_app o0 q0 e3 e4
  have hrT := rc_rns T
  obtain ⟨A1, A2, A3, A4, A5, A6⟩ := apply_good h0 o0 (by omega)
  obtain ⟨C1, C2, C3, C4, C5, C6⟩ := apply_good A5 y0 (by omega)
  refine ⟨o0, q0, e3, e4, A1, C1, x0, A6, ?_⟩
  rw [C2, rns_apply h0 o0 (by omega), hY]
  obtain ⟨k1, k2, k3⟩ := kp_F k
  have hz : ∀ z : List Nat, ZS (kp k ++ .i z :: kp (N - k)) = k + z.length + (N - k) := by
    intro z
    have h5 : ∀ a b : List P, ZS (a ++ b) = ZS a + ZS b := by
      intro a b
      induction a with
      | nil => simp [ZS]
      | cons p a ih => simp only [List.cons_append, ZS, ih]; omega
    rw [h5]
    simp only [ZS, P.z, k3, (kp_F (N - k)).2.2]; omega
  rw [o3, q3, xf_first _ _ _ _ _ hx hy (by rw [hz, hz]; omega), first_app N k x y (rns T) hk (by omega) hx]
  simp only [enc_append]
end Go.Proofs.YtkhacogeffidoaaDoor

set_option linter.unusedVariables false
set_option linter.unusedSimpArgs false
namespace Go.Proofs.YtkhacogeffidoaaDoor
open Go.RowKit

abbrev zeroEd : Array Value := #[.int .i64 0, .int .i64 0, .slice none 0 0]
theorem ed_parts_off {A : Nat → Prop} {w : World} {o : Op} {a : Option Addr} {n c g : Nat} (h : RdS A w o a n c) (hg : ∀ j s, w.cell? ⟨g, j, none⟩ ≠ some (.string s)) : RdS (fun z => A z ∧ z ≠ g) w o a n c := by
  obtain ⟨h1, h2, h3, h4, h5⟩ := h
  refine ⟨h1, h2, h3, h4, fun hn => ?_⟩
  obtain ⟨b, off, e, hA, hb, he⟩ := h5 hn
  refine ⟨b, off, e, ⟨hA, ?_⟩, hb, he⟩
  rintro rfl
  cases o with
  | nil => simp at h1; omega
  | cons x o =>
    obtain ⟨xs, ⟨rfl, -⟩, h6⟩ := he 0 x rfl
    exact hg _ _ (h6 2 _ rfl)
theorem zeroEd_nostr {g : Nat} {w : World} (h : Blk g (.cells zeroEd 71 (0, 0)) w) : ∀ j s, w.cell? ⟨g, j, none⟩ ≠ some (.string s) := by
  intro j s
  rw [h.cell j]
  match j with
  | 0 => simp
  | 1 => simp
  | 2 => simp
  | j + 3 => simp
/-- an operation stands behind a store into a new side's box -/
theorem RdS.offE {o : Op} {a : Option Addr} {n c g : Nat} {w w' : World} (h : RdS (· < w.heap.size) w o a n c) (hz : Blk g (.cells zeroEd 71 (0, 0)) w) (ht : Touch (fun z => z = g) w w') : RdS (· < w'.heap.size) w' o a n c :=
  (ed_parts_off h (zeroEd_nostr hz)).mono fun z hz => ⟨Nat.lt_of_lt_of_le hz.1 ht.size, ht.block z hz.1 hz.2⟩
/-- what edge.Send makes stands behind such a store, too -/
theorem Own.offE {X : Nat → Prop} {base : Nat} {v : Value} {l : List Op} {g : Nat} {w w' : World} (h : Own X base 28 v l w) (hz : Blk g (.cells zeroEd 71 (0, 0)) w) (ht : Touch (fun z => z = g) w w') : Own X base 28 v l w' := by
  obtain ⟨xs, h1, h2⟩ := h.row
  have hr : ∀ k, v.ownBlock = some k → k ≠ g := by
    rcases h1.2 with ⟨hv, _⟩ | ⟨k, cap, cur, hv, hb, hk, _⟩
    · intro k hk; rw [hv] at hk; cases hk
    · intro k' hk' e
      rw [hv] at hk'
      have : k = k' := by simpa [Value.ownBlock] using hk'
      subst this e
      have e2 := Option.some.inj (hk.symm.trans hz)
      injection e2 with e3 e4
      exact absurd e4 (by decide)
  refine ⟨xs, ⟨h1.1, ?_⟩, ?_⟩
  · rcases h1.2 with hn | ⟨k, cap, cur, hv, hb, hk, rest⟩
    · exact .inl hn
    · exact .inr ⟨k, cap, cur, hv, hb, (ht.block k (Array.getElem?_eq_some_iff.1 hk).1 (hr k (by rw [hv]; rfl))).trans hk, rest⟩
  · intro i x hi
    obtain ⟨ys, ⟨a, n, c, e, hrd⟩, h3⟩ := h2 i x hi
    exact ⟨ys, ⟨a, n, c, e, (ed_parts_off hrd (zeroEd_nostr hz)).mono fun z hz => ⟨⟨Nat.lt_of_lt_of_le hz.1.1 ht.size, hz.1.2⟩, ht.block z hz.1.1 hz.2⟩⟩, h3⟩
/-- edge.Send, where nothing is refused -/
theorem send_rd (s h : Int) (l : List Op) (o : Op) (a ao : Option Addr) (n c no co : Nat) (w : World) (hg : Good w) (hr : RdS (· < w.heap.size) w l a n c) (hro : RdS (· < w.heap.size) w o ao no co) (hs : I64 s) (hh : I64 h) (hE : sendE s h l o = 0) :
    Calls Tryd.prog 34 #[.agg #[.int .i64 s, .int .i64 h, .slice a n c], .slice ao no co] w fun e w' => ∃ a' c', e = .returned (.tuple #[.agg #[.int .i64 (s + 1), .int .i64 h, .slice a' (l.length + 1) c'], .int .i64 0]) ∧ RdS (· < w'.heap.size) w' (l ++ [o]) a' (l.length + 1) c' ∧ Below w.heap.size w w' := by
  refine (send_ok s h l o a ao n c no co w hg hr hro hs hh hE).mono ?_
  rintro e w' ⟨v, rfl, ho, hb⟩
  obtain ⟨a', c', rfl, hr'⟩ := ho.rdw
  have hl : (l ++ [o]).length = l.length + 1 := by simp
  rw [hl] at hr' ⊢
  exact ⟨a', c', rfl, hr', hb⟩
/-- edge.Hear, where nothing is refused -/
theorem hear_rd (s h : Int) (l : List Op) (o : Op) (k : Int) (u : Bool) (a ao : Option Addr) (n c no co : Nat) (w : World) (hg : Good w) (hr : RdS (· < w.heap.size) w l a n c) (hro : RdS (· < w.heap.size) w o ao no co) (hs : I64 s) (hh : I64 h) (hE : ehE s h l o k u = 0) :
    Calls Tryd.prog 32 #[.agg #[.int .i64 s, .int .i64 h, .slice a n c], .slice ao no co, .int .i64 k, .bool u] w fun e w' => ∃ a c b d, e = .returned (.tuple #[.agg #[.int .i64 s, .int .i64 (h + 1), .slice a (foldL u (ehD s l k) o).length c], .slice b (foldO u (ehD s l k) o).length d, .int .i64 0]) ∧
      RdS (· < w'.heap.size) w' (foldL u (ehD s l k) o) a (foldL u (ehD s l k) o).length c ∧ RdS (· < w'.heap.size) w' (foldO u (ehD s l k) o) b (foldO u (ehD s l k) o).length d ∧ Below w.heap.size w w' := by
  refine (eh_any s h l o k u a ao n c no co w hg hr hro hs hh).mono ?_
  rintro e w' ⟨h1, -⟩
  obtain ⟨a, c, b, d, h2, h3, h4, h5⟩ := h1 hE
  exact ⟨a, c, b, d, h2, h3.wide fun z hz => hz.2, h4.wide fun z hz => hz.2, h5⟩
theorem edgeCheck_one {o : Op} (h : check o = 0) {s hd : Int} (h1 : 1 ≤ s) (h2 : s ≤ 1048576) (h3 : 0 ≤ hd) (h4 : hd ≤ 1048576) : edgeCheck s hd [o] = 0 := by
  have ho : ¬ edgeOdd s hd [o] := by unfold edgeOdd; simp only [List.length_singleton]; omega
  unfold edgeCheck
  rw [if_neg ho, if_pos (by simp [chainFrom, h])]
theorem sendE_first {o : Op} (h : check o = 0) : sendE 0 0 [] o = 0 := by
  have e : edgeCheck 0 0 [] = 0 := by decide
  unfold sendE
  rw [if_neg (by rw [e]; simp), if_neg (by rw [h]; simp)]
  simp [lastT]
/-- one that is pending, and one that is heard -/
theorem ehE_one {p o : Op} (hp : check p = 0) (ho : check o = 0) (u : Bool) (hs : stepE u p o = 0) : ehE 1 0 [p] o 0 u = 0 ∧ ehD 1 [p] 0 = [p] ∧ foldL u [p] o = [stepP u p o] ∧ foldO u [p] o = stepO u p o := by
  have e1 : edgeCheck 1 0 [p] = 0 := edgeCheck_one hp (by omega) (by omega) (by omega) (by omega)
  have e2 : ehE0 1 0 [p] o 0 = 0 := by
    unfold ehE0
    rw [if_neg (by rw [e1]; simp), if_neg (by rw [ho]; simp), if_neg (by simp), if_neg (by omega)]
  have e3 : ehD 1 [p] 0 = [p] := by simp [ehD]
  refine ⟨?_, e3, rfl, rfl⟩
  unfold ehE
  rw [if_neg (by rw [e2]; simp), e3]
  simp [foldE, hs]
end Go.Proofs.YtkhacogeffidoaaDoor

set_option linter.unusedVariables false
set_option linter.unusedSimpArgs false
namespace Go.Proofs.YtkhacogeffidoaaDoor
open Go.RowKit

theorem one_app (n k : Nat) (x t : List Nat) (hk : k ≤ n) (ht : t.length = n) : app t (kp k ++ .i x :: kp (n - k)) = t.take k ++ x ++ t.drop k := by
  obtain ⟨k1, k2, k3⟩ := kp_F k
  have e0 : (t.drop k).take (n - k) = t.drop k := List.take_of_length_le (by rw [List.length_drop]; omega)
  rw [app_app, kp_app, k1]
  simp only [app, kp_app]
  rw [e0, List.append_assoc]
theorem here_apply {T : Str} (h0 : checkText T = 0) (N k : Nat) (hN : (N : Int) = rc T) (hk : k ≤ N) (hN2 : N ≤ 1000) (x : List Nat) (hx : x ≠ []) (vx : ∀ r ∈ x, Uni.vr r) (lx : x.length ≤ 100) :
    applyS T (hereO N k x) = Uni.enc ((rns T).take k) ++ Uni.enc x ++ Uni.enc ((rns T).drop k) := by
  obtain ⟨o0, o1, o2, o3⟩ := here_laws N k x hk (by omega) hx vx (by omega)
  have hrT := rc_rns T
  rw [(apply_good h0 o0 (by omega)).2.1, o3, one_app N k x (rns T) hk (by omega)]
  simp only [enc_append]
theorem upper_law {T : Str} (h0 : checkText T = 0) (N k : Nat) (hN : (N : Int) = rc T) (hk : k ≤ N) (hN2 : N ≤ 1000) (x y : List Nat) (hx : x ≠ []) (hy : y ≠ []) (vx : ∀ r ∈ x, Uni.vr r) (vy : ∀ r ∈ y, Uni.vr r) (lx : x.length ≤ 100) (ly : y.length ≤ 100) :
    check (hereO N k x) = 0 ∧ check (hereO N k y) = 0 ∧ trE (hereO N k x) (hereO N k y) = 0 ∧ trA (hereO N k x) (hereO N k y) = trX (hereO N k x) (hereO N k y) ∧ trB (hereO N k x) (hereO N k y) = trY (hereO N k x) (hereO N k y) ∧
    (Uni.enc ((rns T).take k) ++ Uni.enc x ++ Uni.enc ((rns T).drop k)).size ≤ 16000 ∧ (Uni.enc ((rns T).take k) ++ Uni.enc y ++ Uni.enc ((rns T).drop k)).size ≤ 16000 ∧
    applyE (Uni.enc ((rns T).take k) ++ Uni.enc x ++ Uni.enc ((rns T).drop k)) (trY (hereO N k x) (hereO N k y)) = 0 ∧ applyE (Uni.enc ((rns T).take k) ++ Uni.enc y ++ Uni.enc ((rns T).drop k)) (trX (hereO N k x) (hereO N k y)) = 0 ∧
    applyS (Uni.enc ((rns T).take k) ++ Uni.enc x ++ Uni.enc ((rns T).drop k)) (trY (hereO N k x) (hereO N k y)) = Uni.enc ((rns T).take k) ++ Uni.enc x ++ Uni.enc y ++ Uni.enc ((rns T).drop k) ∧
    applyS (Uni.enc ((rns T).take k) ++ Uni.enc y ++ Uni.enc ((rns T).drop k)) (trX (hereO N k x) (hereO N k y)) = Uni.enc ((rns T).take k) ++ Uni.enc x ++ Uni.enc y ++ Uni.enc ((rns T).drop k) := by
  obtain ⟨f1, f2, f3, f4, f5, f6, f7, f8, f9⟩ := first_law h0 N k hN hk hN2 x y hx hy vx vy lx ly
  have hE := trE_good f1 f2 f3 f4
  obtain ⟨x0, y0, x1, y1, xy, x2, x3, hmeet, -⟩ := tr_laws f1 f2 f3 f4
  obtain ⟨o0, o1, o2, -⟩ := here_laws N k x hk (by omega) hx vx (by omega)
  obtain ⟨q0, q1, q2, -⟩ := here_laws N k y hk (by omega) hy vy (by omega)
  rw [← here_apply h0 N k hN hk hN2 x hx vx lx, ← here_apply h0 N k hN hk hN2 y hy vy ly]
  obtain ⟨-, -, -, A4, A5, A6⟩ := apply_good h0 o0 (by omega)
  obtain ⟨-, -, -, B4, B5, B6⟩ := apply_good h0 q0 (by omega)
  obtain ⟨C1, C2, -⟩ := apply_good A5 y0 (by omega)
  obtain ⟨D1, D2, -⟩ := apply_good B5 x0 (by omega)
  have hrT := rc_rns T
  refine ⟨f1, f2, hE, if_pos hE, if_pos hE, A6, B6, C1, D1, f9, ?_⟩
  rw [← f9, D2, C2, rns_apply h0 q0 (by omega), rns_apply h0 o0 (by omega), hmeet (rns T) (by omega)]
end Go.Proofs.YtkhacogeffidoaaDoor
