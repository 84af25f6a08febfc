/- The walk of EdgeKnown (printed by gen_known.py). -/
import Derived.Test.YtkhacogeffidoaaDoorFirst
import Derived.Test.YtkhacogeffidoaaDoorReg3
set_option linter.unusedVariables false
set_option linter.unusedSimpArgs false
namespace Go.Proofs.YtkhacogeffidoaaDoor
open Go.RowKit

theorem own_rd {B : Nat} {v : Value} {l : List Op} {w : World} (h : Own (· < B) B 28 v l w) : ∃ a c, v = .slice a l.length c ∧ RdS (fun z => B ≤ z ∧ z < w.heap.size) w l a l.length c := by
  obtain ⟨a, c, hv, hr⟩ := h.rd (fun k hk hx => by have := (h.rowlt k hk).1; have hx2 : k < B := hx; omega)
  exact ⟨a, c, hv, hr.mono fun b hb => ⟨⟨Nat.le_of_not_lt hb.2, hb.1⟩, rfl⟩⟩
set_option maxRecDepth 100000 in
set_option maxHeartbeats 8000000 in
theorem edgeKnown_walk (w : World) (hg : Good w) (s : Str) (hs : s.size ≤ maxLen) (na : Int) (hna : I64 na) (ha : Int) (hha : I64 ha) :
    Calls Tryd.prog 11 #[.string s, .int .i64 na, .int .i64 ha] w fun e w' => e = .returned (.bool true) ∧ Below w.heap.size w w' := by
  have HL := Lib.hid (letters_any s 10 w hs (by omega))
  obtain ⟨t0, t1, t2, t3⟩ := letters_ok s 10 (by omega)
  generalize letters s 10 = T at *
  have hkr := pk_range na 8 (by omega)
  have HP := Lib.hid (fun W => (picked_any na 8 W hna (by omega) (by omega)).mono fun e w' (h : e = .returned (.int .i64 (pk na 8)) ∧ W = w') => (⟨h.1, h.2 ▸ Below.refl _ _⟩ : e = .returned (.int .i64 (pk na 8)) ∧ Below W.heap.size W w'))
  generalize pk na 8 = KI at *
  obtain ⟨K, rfl⟩ : ∃ k : Nat, KI = (k : Int) := ⟨KI.toNat, by omega⟩
  have hK8 : K ≤ 7 := by omega
  have hmr := pk_range ha (K + 1) (by omega)
  have HM := Lib.hid (fun W => (picked_any ha (K + 1) W hha (by omega) (by omega)).mono fun e w' (h : e = .returned (.int .i64 (pk ha (K + 1))) ∧ W = w') => (⟨h.1, h.2 ▸ Below.refl _ _⟩ : e = .returned (.int .i64 (pk ha (K + 1))) ∧ Below W.heap.size W w'))
  generalize pk ha (K + 1) = MI at *
  obtain ⟨m, rfl⟩ : ∃ m : Nat, MI = (m : Int) := ⟨MI.toNat, by omega⟩
  have hmK : m ≤ K := by omega
  obtain ⟨N, hN⟩ : ∃ n : Nat, (n : Int) = rc T := ⟨(rns T).length, (rc_rns T).symm⟩
  have hN10 : N ≤ 10 := by omega
  have haT := fun j => aT_laws t0 j
  have HR : Hid (∀ j W, j ≤ 8 → Calls Tryd.prog 30 #[.string (aT T j)] W fun e w' => e = .returned (.int .i64 ((N + j : Nat) : Int)) ∧ Below W.heap.size W w') := fun j W hj => by
    have h1 := runes_any (aT T j) W (by rw [(haT j).2]; omega)
    rw [(haT j).1] at h1
    have e : (j : Int) + rc T = ((N + j : Nat) : Int) := by push_cast; omega
    rw [e] at h1
    exact h1
  have HA : Hid (∀ j W, j ≤ 8 → Calls Tryd.prog 35 #[.int .i64 ((N + j : Nat) : Int), .int .i64 0, .string ⟨#[97]⟩] W fun e w' => ∃ a c, e = .returned (.slice a (aO (N + j)).length c) ∧ RdS (· < w'.heap.size) w' (aO (N + j)) a (aO (N + j)).length c ∧ Below W.heap.size W w') := fun j W hj => by
    have h1 := here_go (N + j) 0 [97] W (vr_one (by omega)) (by omega) (by omega) (by simp)
    rw [show Uni.enc [97] = (⟨#[97]⟩ : ByteArray) by kernel_rfl] at h1
    exact h1
  have HB : Hid (∀ W, Calls Tryd.prog 35 #[.int .i64 ((N + m : Nat) : Int), .int .i64 ((N + m : Nat) : Int), .string ⟨#[98]⟩] W fun e w' => ∃ a c, e = .returned (.slice a (bO (N + m)).length c) ∧ RdS (· < w'.heap.size) w' (bO (N + m)) a (bO (N + m)).length c ∧ Below W.heap.size W w') := fun W => by
    have h1 := here_go (N + m) (N + m) [98] W (vr_one (by omega)) (by omega) (by omega) (by simp)
    rw [show Uni.enc [98] = (⟨#[98]⟩ : ByteArray) by kernel_rfl] at h1
    exact h1
  have HS : Hid (∀ (j : Nat) W a c b d, j < 8 → Good W → RdS (· < W.heap.size) W (Kq N j) a j c → RdS (· < W.heap.size) W (aO (N + j)) b (aO (N + j)).length d → Calls Tryd.prog 34 #[.agg #[.int .i64 (j : Int), .int .i64 0, .slice a j c], .slice b (aO (N + j)).length d] W fun e w' => ∃ v, e = .returned (.tuple #[.agg #[.int .i64 ((j : Int) + 1), .int .i64 0, v], .int .i64 0]) ∧ Own (· < W.heap.size) W.heap.size 28 v (Kq N (j + 1)) w' ∧ Below W.heap.size W w') := fun j W a c b d hj hg h1 h2 => by
    have h3 := send_ok j 0 (Kq N j) (aO (N + j)) a b j c _ d W hg h1 h2 (by unfold I64; omega) (by unfold I64; omega) (Kq_send N j (by omega))
    refine h3.mono ?_
    unfold SendPost
    rw [Kq_snoc]
    exact fun e w' h => h
  obtain ⟨q1, q2, q3⟩ := known_law N K m (by omega) hmK
  have HH1 : Hid (∀ W a c b d, Good W → RdS (· < W.heap.size) W (Kq N K) a K c → RdS (· < W.heap.size) W (bO (N + m)) b (bO (N + m)).length d → Calls Tryd.prog 32 #[.agg #[.int .i64 (K : Int), .int .i64 0, .slice a K c], .slice b (bO (N + m)).length d, .int .i64 (m : Int), .bool true] W fun e w' => ∃ a c b d, e = .returned (.tuple #[.agg #[.int .i64 (K : Int), .int .i64 1, .slice a (K - m) c], .slice b (bO (N + K)).length d, .int .i64 0]) ∧ RdS (· < w'.heap.size) w' (bO (N + K)) b (bO (N + K)).length d ∧ Below W.heap.size W w') := fun W a c b d hg h1 h2 => by
    refine (hear_rd K 0 (Kq N K) (bO (N + m)) m true a b K c _ d W hg h1 h2 (by unfold I64; omega) (by unfold I64; omega) q1).mono ?_
    rw [q2, q3]
    rintro e w' ⟨a', c', b', d', rfl, -, r6, r7⟩
    exact ⟨a', c', b', d', rfl, r6, r7⟩
  have HH2 : Hid (∀ W a c, Good W → RdS (· < W.heap.size) W (Kq N K) a K c → Calls Tryd.prog 32 #[.agg #[.int .i64 (K : Int), .int .i64 0, .slice a K c], .slice none 0 0, .int .i64 ((K : Int) + 1), .bool true] W fun e w' => e = .returned (.tuple #[.agg #[.int .i64 0, .int .i64 0, .slice none 0 0], .slice none 0 0, .int .i64 2]) ∧ Below W.heap.size W w') := fun W a c hg h1 => by
    have hr := known_range N K (by omega)
    refine (eh_any K 0 (Kq N K) [] ((K : Int) + 1) true a none K c 0 0 W hg h1 (RdS.none' W) (by unfold I64; omega) (by unfold I64; omega)).mono ?_
    unfold EhP
    rw [hr]
    exact fun e w' h => h.2 (by simp)
  obtain ⟨b1, b2, b3, -⟩ := bO_laws (N + K) (by omega)
  have HLn := Lib.hid (fun a n c W hr => lengths_go (bO (N + K)) a n c W hr b1)
  rw [b2, b3] at HLn
  have HSz := Lib.hid (fun j (hj : j ≤ 8) => show (aT T j).size ≤ 100 by rw [(haT j).2]; omega)
  have Hadd : Hid (∀ (j : Nat) (W : World), j ≤ 8 → (Op.stringOp .add ⟨#[97]⟩ (aT T j)).run Tryd.prog W = .ok (.string (aT T (j + 1))) W) := fun j W hj => run_string_add_sum W _ _ (by have := HSz.out j hj; show 1 + _ ≤ _; omega)
  have HT0 : Hid (aT T 0 = T) := rfl
  have HK0 : Hid (Kq N 0 = []) := rfl
  have g0 := Lib.hid hg
  have Hg0 := Lib.hid hg
  have B0 := Lib.hid (Below.refl w.heap.size w)
  clear t0 t1 t2 t3 hkr hmr haT q1 q2 q3 b1 b2 b3 hN hg hs hna hha HSz
  generalize (bO (N + m)).length = lb at *
  generalize hlc : (bO (N + K)).length = lc at *
  generalize bO (N + K) = bK at *
  clear hlc
  go_enter Tryd.func11, Tryd.ntmps11
  go_wp2_with fail
  refine (HL.out).mono ?_
  rintro e w1 ⟨rfl, hb⟩
  have B1 := Lib.hid (up B0.out hb)
  have g1 := Lib.hid (g0.out.below' hb)
  clear B0 g0 hb
  go_wp2_with fail
  refine (HP.out _).mono ?_
  rintro e w2 ⟨rfl, hb⟩
  have B2 := Lib.hid (up B1.out hb)
  have g2 := Lib.hid (g1.out.below' hb)
  clear B1 g1 hb
  go_wp2_with fail
  refine abs_w (fun W => Below w2.heap.size w2 W ∧ Blk w2.heap.size (.cells #[.int .i64 0, .int .i64 0, .slice none 0 0] 71 (0, 0)) W) ⟨(Below.refl _ _).alloc (Nat.le_refl _) _, Blk.new w2 _⟩ ?_
  rintro w3 ⟨u3, x3⟩
  have B3 := Lib.hid (up B2.out u3)
  have G3 := Lib.hid (g2.out.below' u3)
  have X3 := Lib.hid x3
  have hz3 := x3.lt
  have hz2 := B2.out.size
  clear u3 x3 B2 g2 HL HP
  rw [← HT0.out]
  go_loopw [7, 10] (fun t i wr => ∃ (j : Nat) (a : Option Addr) (c : Nat), j ≤ K ∧ i = .int .i64 (j : Int) ∧ t = .string (aT T j) ∧ Below w.heap.size w wr ∧ Good wr ∧ Blk w2.heap.size (.cells #[.int .i64 (j : Int), .int .i64 0, .slice a j c] 71 (0, 0)) wr ∧ RdS (fun z => z < wr.heap.size ∧ z ≠ w2.heap.size) wr (Kq N j) a j c) (fun _ i _ => K - (intOf i).toNat)
  case atStart => exact ⟨0, none, 0, by omega, rfl, rfl, B3.out, G3.out, X3.out, RdS.nil _ _⟩
  case round =>
    obtain ⟨j, a, c, hj, rfl, rfl, b4, g4, x4, r4⟩ := hrel
    clear B3 G3 X3
    have B4 := Lib.hid b4
    have G4 := Lib.hid g4
    have X4 := Lib.hid x4
    have R4 := Lib.hid r4
    have hlt4 := x4.lt
    clear b4 g4 x4 r4
    by_cases hlt : j < K
    · have hj8 : j ≤ 8 := by omega
      have HRj := Lib.hid (fun W => HR.out j W hj8)
      have HAj := Lib.hid (fun W => HA.out j W hj8)
      have HSj := Lib.hid (fun W a c b d => HS.out j W a c b d (by omega))
      have Haddj := Lib.hid (fun W => Hadd.out j W hj8)
      generalize (aO (N + j)).length = la at *
      generalize aO (N + j) = ao at *
      generalize hNj : ((N + j : Nat) : Int) = NJ at *
      generalize hT : aT T j = tj at *
      generalize hT1 : aT T (j + 1) = tj1 at *
      have HT1 := Lib.hid hT1
      have hj7 : (j : Int) ≤ 7 := by omega
      clear HH1 HH2 HLn HM HB HR HA HS Hadd hNj hT hT1 HT0 HK0
      go_wp2_with fail
      obtain ⟨Vp, HV⟩ : ∃ Vp : Nat → Value → World → Prop, Hid (Vp = fun i v W => match i with
          | 0 => v = .agg #[.int .i64 (j : Int), .int .i64 0, .slice a j c]
          | 1 => v = .string tj
          | 2 => v = .int .i64 NJ
          | 3 => ∃ a c, v = .slice a la c ∧ RdS (· < W.heap.size) W ao a la c
          | 4 => ∃ z, v = .tuple #[.agg #[.int .i64 ((j : Int) + 1), .int .i64 0, z], .int .i64 0] ∧ Own (· < wr.heap.size) wr.heap.size 28 z (Kq N (j + 1)) W
          | 5 => ∃ z, v = .tuple #[.agg #[.int .i64 ((j : Int) + 1), .int .i64 0, z], .int .i64 0] ∧ Own (· < wr.heap.size) wr.heap.size 28 z (Kq N (j + 1)) W
          | 6 => ∃ z, v = .agg #[.int .i64 ((j : Int) + 1), .int .i64 0, z] ∧ Own (· < wr.heap.size) wr.heap.size 28 z (Kq N (j + 1)) W
          | 7 => v = .int .i64 0
          | 8 => ∃ g, v = .pointer (some ⟨g, 0, none⟩) ∧ wr.heap.size ≤ g ∧ Blk g (.cells zeroEd 71 (0, 0)) W
          | 9 => v = undef
          | _ => v = .int .i64 0) := ⟨_, rfl⟩
      obtain ⟨Ip, HIp⟩ : ∃ Ip : (Nat → Bool) → (Nat → Value) → World → Prop, Hid (Ip = fun L x W => (Below wr.heap.size wr W ∧ (L 9 = true → ∃ g a c, x 8 = .pointer (some ⟨g, 0, none⟩) ∧ wr.heap.size ≤ g ∧ RdS (fun z => wr.heap.size ≤ z ∧ z < W.heap.size) W (Kq N (j + 1)) a (j + 1) c ∧ Blk g (.cells #[.int .i64 ((j : Int) + 1), .int .i64 0, .slice a (j + 1) c] 71 (0, 0)) W))) := ⟨_, rfl⟩
      refine region_lit3 (by kernel_rfl) (by kernel_rfl) (by kernel_rfl) [[], [], [1], [1, 2], [0, 1, 2, 3], [0, 1, 2, 3, 4], [0, 1, 2, 3, 4, 5], [0, 1, 2, 3, 4, 5], [], [0, 1, 2, 3, 4, 5, 6, 8], [0, 1, 2, 3, 4, 5, 7]] (by kernel_rfl) [some 33, some 34, some 35, some 36, some 37, some 32, some 38, some 39, some 11, none, some 12] (by kernel_rfl) [[0, 4, 5, 6, 7, 9, 10], [1, 2, 3, 4, 5, 6, 7, 9, 10], [2, 3, 4, 5, 6, 7, 9, 10], [3, 4, 5, 6, 7, 9, 10], [4, 5, 6, 7, 9, 10], [5, 6, 7, 9, 10], [6, 9], [7, 10], [8, 9], [9], [10]] (by kernel_rfl) [[9], [], [], [9], [], [], [9], [], [9], [], []] [[], [], [1], [2], [0, 3], [4], [5], [5], [], [6, 8], [7]] (by kernel_rfl)
        Ip
        Vp
        (fun j W W' => match j with
          | 9 => ∃ g, Blk g (.cells zeroEd 71 (0, 0)) W ∧ Touch (fun z => z = g) W W' ∧ wr.heap.size ≤ g
          | _ => Below W.heap.size W W')
        [fun x => ⟨#[undef, undef, undef, undef, undef, undef, undef, undef, undef, .pointer (some ⟨w2.heap.size, 0, none⟩), undef, undef, undef, undef, undef, undef, undef, undef, undef, undef, undef, undef, undef, undef, undef, undef, undef, undef, undef, undef, undef, undef, undef, undef], []⟩,
   fun x => ⟨#[undef, undef, undef, undef, undef, undef, undef, .string tj, undef, undef, undef, undef, undef, undef, undef, undef, undef, undef, undef, undef, undef, undef, undef, undef, undef, undef, undef, undef, undef, undef, undef, undef, undef, undef, undef], []⟩,
   fun x => ⟨#[undef, undef, undef, undef, undef, undef, undef, undef, undef, undef, undef, undef, undef, undef, undef, undef, undef, undef, undef, undef, undef, undef, undef, undef, undef, undef, undef, undef, undef, undef, undef, undef, undef, undef, x 1, undef], []⟩,
   fun x => ⟨#[undef, undef, undef, undef, undef, undef, undef, undef, undef, undef, undef, undef, undef, undef, undef, undef, undef, undef, undef, undef, undef, undef, undef, undef, undef, undef, undef, undef, undef, undef, undef, undef, undef, undef, undef, x 2, undef], []⟩,
   fun x => ⟨#[undef, undef, undef, undef, undef, undef, undef, undef, undef, undef, undef, undef, undef, undef, undef, undef, undef, undef, undef, undef, undef, undef, undef, undef, undef, undef, undef, undef, undef, undef, undef, undef, undef, x 0, undef, undef, x 3, undef], []⟩,
   fun x => ⟨#[undef, undef, undef, undef, undef, undef, undef, undef, undef, undef, undef, undef, undef, undef, undef, undef, undef, undef, undef, undef, undef, undef, undef, undef, undef, undef, undef, undef, undef, undef, undef, undef, undef, undef, undef, undef, undef, x 4], []⟩,
   fun x => ⟨#[undef, undef, undef, undef, undef, undef, undef, undef, undef, undef, undef, undef, undef, undef, undef, undef, undef, undef, undef, undef, undef, undef, undef, undef, undef, undef, undef, undef, undef, undef, undef, undef, x 5, undef, undef, undef, undef, undef, undef], []⟩,
   fun x => ⟨#[undef, undef, undef, undef, undef, undef, undef, undef, undef, undef, undef, undef, undef, undef, undef, undef, undef, undef, undef, undef, undef, undef, undef, undef, undef, undef, undef, undef, undef, undef, undef, undef, x 5, undef, undef, undef, undef, undef, undef, undef], []⟩,
   fun x => ⟨#[undef, undef, undef, undef, undef, undef, undef, undef, undef, undef, undef, undef], []⟩,
   fun x => ⟨#[undef, undef, undef, undef, undef, undef, undef, undef, undef, undef, undef, x 8, undef, undef, undef, undef, undef, undef, undef, undef, undef, undef, undef, undef, undef, undef, undef, undef, undef, undef, undef, undef, undef, undef, undef, undef, undef, undef, x 6], []⟩,
   fun x => ⟨#[undef, undef, undef, undef, undef, undef, undef, undef, undef, undef, undef, undef, undef, undef, undef, undef, undef, undef, undef, undef, undef, undef, undef, undef, undef, undef, undef, undef, undef, undef, undef, undef, undef, undef, undef, undef, undef, undef, undef, x 7], []⟩]
        ?hF ?mono ?h0 ?step [1, 2, 4, 5, 7, 9, 10] (by kernel_rfl) ?fin
      case hF =>
        exact ⟨fun x => ⟨by kernel_rfl, by kernel_rfl⟩, fun x => ⟨by kernel_rfl, by kernel_rfl⟩, fun x => ⟨by kernel_rfl, by kernel_rfl⟩, fun x => ⟨by kernel_rfl, by kernel_rfl⟩, fun x => ⟨by kernel_rfl, by kernel_rfl⟩, fun x => ⟨by kernel_rfl, by kernel_rfl⟩, fun x => ⟨by kernel_rfl, by kernel_rfl⟩, fun x => ⟨by kernel_rfl, by kernel_rfl⟩, fun x => ⟨by kernel_rfl, by kernel_rfl⟩, fun x => ⟨by kernel_rfl, by kernel_rfl⟩, fun x => ⟨by kernel_rfl, by kernel_rfl⟩, trivial⟩
      case mono =>
        intro i j hi hj hne hna hnk v W W' hE hv
        rw [HV.out] at hv ⊢
        simp only [List.length_cons, List.length_nil] at hi hj
        match i, hi with
        | 0, _ | 1, _ | 2, _ | 7, _ | 9, _ | 10, _ => exact hv
        | 3, _ =>
          match j, hj with
          | 3, _ => exact absurd rfl hne
          | 1, _ => exact absurd (by simp) hna
          | 2, _ => exact absurd (by simp) hna
          | 9, _ => exact absurd (by simp) hnk
          | 0, _ => exact (by obtain ⟨a, c, e, h⟩ := hv; exact ⟨a, c, e, h.go hE⟩)
          | 4, _ => exact (by obtain ⟨a, c, e, h⟩ := hv; exact ⟨a, c, e, h.go hE⟩)
          | 5, _ => exact (by obtain ⟨a, c, e, h⟩ := hv; exact ⟨a, c, e, h.go hE⟩)
          | 6, _ => exact (by obtain ⟨a, c, e, h⟩ := hv; exact ⟨a, c, e, h.go hE⟩)
          | 7, _ => exact (by obtain ⟨a, c, e, h⟩ := hv; exact ⟨a, c, e, h.go hE⟩)
          | 8, _ => exact (by obtain ⟨a, c, e, h⟩ := hv; exact ⟨a, c, e, h.go hE⟩)
          | 10, _ => exact (by obtain ⟨a, c, e, h⟩ := hv; exact ⟨a, c, e, h.go hE⟩)
          | m + 11, h => exact absurd h (by omega)
        | 4, _ =>
          match j, hj with
          | 4, _ => exact absurd rfl hne
          | 0, _ => exact absurd (by simp) hna
          | 1, _ => exact absurd (by simp) hna
          | 2, _ => exact absurd (by simp) hna
          | 3, _ => exact absurd (by simp) hna
          | 5, _ => exact (by obtain ⟨z, e, h⟩ := hv; exact ⟨z, e, h.go hE⟩)
          | 6, _ => exact (by obtain ⟨z, e, h⟩ := hv; exact ⟨z, e, h.go hE⟩)
          | 7, _ => exact (by obtain ⟨z, e, h⟩ := hv; exact ⟨z, e, h.go hE⟩)
          | 8, _ => exact (by obtain ⟨z, e, h⟩ := hv; exact ⟨z, e, h.go hE⟩)
          | 9, _ => exact (by obtain ⟨z, e, h⟩ := hv; obtain ⟨g, hz, ht, -⟩ := hE; exact ⟨z, e, h.offE hz ht⟩)
          | 10, _ => exact (by obtain ⟨z, e, h⟩ := hv; exact ⟨z, e, h.go hE⟩)
          | m + 11, h => exact absurd h (by omega)
        | 5, _ =>
          match j, hj with
          | 5, _ => exact absurd rfl hne
          | 0, _ => exact absurd (by simp) hna
          | 1, _ => exact absurd (by simp) hna
          | 2, _ => exact absurd (by simp) hna
          | 3, _ => exact absurd (by simp) hna
          | 4, _ => exact absurd (by simp) hna
          | 6, _ => exact (by obtain ⟨z, e, h⟩ := hv; exact ⟨z, e, h.go hE⟩)
          | 7, _ => exact (by obtain ⟨z, e, h⟩ := hv; exact ⟨z, e, h.go hE⟩)
          | 8, _ => exact (by obtain ⟨z, e, h⟩ := hv; exact ⟨z, e, h.go hE⟩)
          | 9, _ => exact (by obtain ⟨z, e, h⟩ := hv; obtain ⟨g, hz, ht, -⟩ := hE; exact ⟨z, e, h.offE hz ht⟩)
          | 10, _ => exact (by obtain ⟨z, e, h⟩ := hv; exact ⟨z, e, h.go hE⟩)
          | m + 11, h => exact absurd h (by omega)
        | 6, _ =>
          match j, hj with
          | 6, _ => exact absurd rfl hne
          | 0, _ => exact absurd (by simp) hna
          | 1, _ => exact absurd (by simp) hna
          | 2, _ => exact absurd (by simp) hna
          | 3, _ => exact absurd (by simp) hna
          | 4, _ => exact absurd (by simp) hna
          | 5, _ => exact absurd (by simp) hna
          | 9, _ => exact absurd (by simp) hnk
          | 7, _ => exact (by obtain ⟨z, e, h⟩ := hv; exact ⟨z, e, h.go hE⟩)
          | 8, _ => exact (by obtain ⟨z, e, h⟩ := hv; exact ⟨z, e, h.go hE⟩)
          | 10, _ => exact (by obtain ⟨z, e, h⟩ := hv; exact ⟨z, e, h.go hE⟩)
          | m + 11, h => exact absurd h (by omega)
        | 8, _ =>
          match j, hj with
          | 8, _ => exact absurd rfl hne
          | 9, _ => exact absurd (by simp) hnk
          | 0, _ => exact (by obtain ⟨g, h1, h2, h3⟩ := hv; exact ⟨g, h1, h2, h3.go hE⟩)
          | 1, _ => exact (by obtain ⟨g, h1, h2, h3⟩ := hv; exact ⟨g, h1, h2, h3.go hE⟩)
          | 2, _ => exact (by obtain ⟨g, h1, h2, h3⟩ := hv; exact ⟨g, h1, h2, h3.go hE⟩)
          | 3, _ => exact (by obtain ⟨g, h1, h2, h3⟩ := hv; exact ⟨g, h1, h2, h3.go hE⟩)
          | 4, _ => exact (by obtain ⟨g, h1, h2, h3⟩ := hv; exact ⟨g, h1, h2, h3.go hE⟩)
          | 5, _ => exact (by obtain ⟨g, h1, h2, h3⟩ := hv; exact ⟨g, h1, h2, h3.go hE⟩)
          | 6, _ => exact (by obtain ⟨g, h1, h2, h3⟩ := hv; exact ⟨g, h1, h2, h3.go hE⟩)
          | 7, _ => exact (by obtain ⟨g, h1, h2, h3⟩ := hv; exact ⟨g, h1, h2, h3.go hE⟩)
          | 10, _ => exact (by obtain ⟨g, h1, h2, h3⟩ := hv; exact ⟨g, h1, h2, h3.go hE⟩)
          | m + 11, h => exact absurd h (by omega)
        | m + 11, h => exact absurd h (by omega)
      case h0 => intro x; exact toI HIp ⟨(Below.refl _ _).drew, fun h => by cases h⟩
      case step =>
        refine ⟨?_, ?_, ?_, ?_, ?_, ?_, ?_, ?_, ?_, ?_, ?_, trivial⟩
        all_goals
          intro x W L hI hL hV
          replace hI : (Below wr.heap.size wr W ∧ (L 9 = true → ∃ g a c, x 8 = .pointer (some ⟨g, 0, none⟩) ∧ wr.heap.size ≤ g ∧ RdS (fun z => wr.heap.size ≤ z ∧ z < W.heap.size) W (Kq N (j + 1)) a (j + 1) c ∧ Blk g (.cells #[.int .i64 ((j : Int) + 1), .int .i64 0, .slice a (j + 1) c] 71 (0, 0)) W)) := ofI HIp hI
          rw [HV.out] at hV
          simp only [AllV, and_true] at hV
        · clear hV
          (try dsimp only)
          obtain ⟨q0, q1, q2⟩ := blk3_cells (X4.out.go hI.1)
          have HI := Lib.hid hI
          clear hI
          go_wp2_with fail
          refine step3_done rfl ?_ ?_ ?_
          · exact (toI HIp HI.out)
          · exact (Below.refl _ _)
          · exact (toV HV rfl)
        · clear hV
          (try dsimp only)
          have HI := Lib.hid hI
          clear hI
          go_wp2_with fail
          refine step3_done rfl ?_ ?_ ?_
          · exact (toI HIp HI.out)
          · exact (Below.refl _ _)
          · exact (toV HV rfl)
        · have u1 := hV
          clear hV
          simp only [u1]
          clear u1
          have HI := Lib.hid hI
          clear hI
          go_wp2_with fail
          refine (HRj.out _).mono ?_
          rintro e W' ⟨rfl, hb⟩
          go_wp2_with fail
          refine step3_done rfl ?_ ?_ ?_
          · exact (toI HIp ⟨up HI.out.1 hb, fun h => by obtain ⟨g, a, c, h1, h2, h3, h4⟩ := HI.out.2 h; exact ⟨g, a, c, h1, h2, h3.freshB hb, h4.go hb⟩⟩)
          · exact hb
          · exact (toV HV rfl)
        · have u2 := hV
          clear hV
          simp only [u2]
          clear u2
          have HI := Lib.hid hI
          clear hI
          go_wp2_with fail
          refine (HAj.out _).mono ?_
          rintro e W' ⟨a', c', rfl, hr, hb⟩
          go_wp2_with fail
          refine step3_done rfl ?_ ?_ ?_
          · exact (toI HIp ⟨up HI.out.1 hb, fun h => by obtain ⟨g, a, c, h1, h2, h3, h4⟩ := HI.out.2 h; exact ⟨g, a, c, h1, h2, h3.freshB hb, h4.go hb⟩⟩)
          · exact hb
          · exact (toV HV ⟨_, _, rfl, hr⟩)
        · obtain ⟨u0, ⟨a3, c3, u3, r3⟩⟩ := hV
          simp only [u0, u3]
          have U3 := Lib.hid u3
          clear u0 u3
          have HI := Lib.hid hI
          have R3 := Lib.hid r3
          have hzW := hI.1.size
          clear hI r3
          go_wp2_with fail
          refine (HSj.out _ _ _ _ _ (G4.out.below' HI.out.1) ((R4.out.wide fun z hz => hz.1).go HI.out.1) R3.out).mono ?_
          rintro e W' ⟨z, rfl, ho, hb⟩
          go_wp2_with fail
          refine step3_done rfl ?_ ?_ ?_
          · exact (toI HIp ⟨up HI.out.1 hb, fun h => by obtain ⟨g, a, c, h1, h2, h3, h4⟩ := HI.out.2 h; exact ⟨g, a, c, h1, h2, h3.freshB hb, h4.go hb⟩⟩)
          · exact hb
          · exact (toV HV ⟨_, rfl, (ho.less (X' := (· < wr.heap.size)) (fun k hk => Nat.lt_of_lt_of_le hk hzW)).low hzW⟩)
        · obtain ⟨z4, u4, o4⟩ := hV
          simp only [u4]
          have U4 := Lib.hid u4
          clear u4
          have HI := Lib.hid hI
          clear hI
          go_wp2_with fail
          refine step3_done rfl ?_ ?_ ?_
          · exact (toI HIp HI.out)
          · exact (Below.refl _ _)
          · exact (toV HV ⟨_, rfl, o4⟩)
        · obtain ⟨z5, u5, o5⟩ := hV
          simp only [u5]
          have U5 := Lib.hid u5
          clear u5
          have HI := Lib.hid hI
          clear hI
          go_wp2_with fail
          refine step3_done rfl ?_ ?_ ?_
          · exact (toI HIp HI.out)
          · exact (Below.refl _ _)
          · exact (toV HV ⟨_, rfl, o5⟩)
        · obtain ⟨z5, u5, o5⟩ := hV
          simp only [u5]
          have U5 := Lib.hid u5
          clear u5
          have HI := Lib.hid hI
          clear hI
          go_wp2_with fail
          refine step3_done rfl ?_ ?_ ?_
          · exact (toI HIp HI.out)
          · exact (Below.refl _ _)
          · exact (toV HV rfl)
        · clear hV
          (try dsimp only)
          have HL := Lib.hid hL
          have HI := Lib.hid hI
          have hzW := hI.1.size
          clear hI hL
          go_wp2_with fail
          have uW : ∀ o, Below W.heap.size W (W.alloc o) := fun o => (Below.refl _ _).alloc (Nat.le_refl _) o
          refine step3_done rfl ?_ ?_ ?_
          · exact (toI HIp ⟨up HI.out.1 (uW _), fun h => absurd ((HL.out.2 9 (by simp)).symm.trans h) (by simp)⟩)
          · exact (uW _)
          · exact (toV HV ⟨_, rfl, hzW, Blk.new _ _⟩)
        · obtain ⟨⟨z6, u6, o6⟩, ⟨g8, u8, l8, b8⟩⟩ := hV
          simp only [u8, u6]
          have U6 := Lib.hid u6
          have U8 := Lib.hid u8
          clear u6 u8
          obtain ⟨oa, oc, rfl, hr9⟩ := own_rd (o6.offE b8 (Touch.refl _ _))
          have hkl : (Kq N (j + 1)).length = j + 1 := Kq_len _ _
          have hoff := fun W' (ht : Touch (fun z => z = g8) W W') => own_rd (o6.offE b8 ht)
          rw [hkl] at hr9 ⊢
          obtain ⟨q0, q1, q2⟩ := blk3_cells b8
          have fW := b8.frozen
          have hg9 := b8.lt
          have HT := Lib.hid (touch3 (g := g8) (w := W) (.int .i64 ((j : Int) + 1)) (.int .i64 0) (.slice oa (j + 1) oc))
          have HN := Lib.hid (b8.set3 (.int .i64 ((j : Int) + 1)) (.int .i64 0) (.slice oa (j + 1) oc))
          have HR9 : Hid (RdS (fun z => wr.heap.size ≤ z ∧ z < (((W.setCell ⟨g8, 0, none⟩ (.int .i64 ((j : Int) + 1))).setCell ⟨g8, 1, none⟩ (.int .i64 0)).setCell ⟨g8, 2, none⟩ (.slice oa (j + 1) oc)).heap.size) (((W.setCell ⟨g8, 0, none⟩ (.int .i64 ((j : Int) + 1))).setCell ⟨g8, 1, none⟩ (.int .i64 0)).setCell ⟨g8, 2, none⟩ (.slice oa (j + 1) oc)) (Kq N (j + 1)) oa (j + 1) oc) := by
            obtain ⟨a', c', e', hr'⟩ := hoff _ HT.out
            rw [hkl] at e' hr'
            injection e' with e1 e2 e3
            subst e1 e3
            exact hr'
          have HI := Lib.hid hI
          have HB9 := Lib.hid b8
          clear hI b8 o6 hoff hr9 hkl
          go_wp2_with fail
          refine step3_done (v := undef) rfl ?_ ?_ ?_
          · exact (toI HIp ⟨HI.out.1.trans (HT.out.toBelow HI.out.1.size (fun k hk => by omega)), fun _ => ⟨g8, oa, oc, U8.out, l8, HR9.out, HN.out⟩⟩)
          · exact ⟨g8, HB9.out, HT.out, l8⟩
          · exact (toV HV rfl)
        · have u7 := hV
          clear hV
          simp only [u7]
          clear u7
          have HI := Lib.hid hI
          clear hI
          go_wp2_with fail
          refine step3_done rfl ?_ ?_ ?_
          · exact (toI HIp HI.out)
          · exact (Below.refl _ _)
          · exact (toV HV rfl)
      case fin =>
        intro x W L hL hI hV
        replace hI : (Below wr.heap.size wr W ∧ (L 9 = true → ∃ g a c, x 8 = .pointer (some ⟨g, 0, none⟩) ∧ wr.heap.size ≤ g ∧ RdS (fun z => wr.heap.size ≤ z ∧ z < W.heap.size) W (Kq N (j + 1)) a (j + 1) c ∧ Blk g (.cells #[.int .i64 ((j : Int) + 1), .int .i64 0, .slice a (j + 1) c] 71 (0, 0)) W)) := ofI HIp hI
        rw [HV.out] at hV
        simp only [AllV, and_true] at hV
        obtain ⟨u1, u2, ⟨z4, u4, o4⟩, ⟨z5, u5, o5⟩, u7, u9, u10⟩ := hV
        simp only [getsD, List.getD_cons_succ, List.getD_cons_zero, List.length_cons, List.length_nil, List.range, List.range.loop, u1, u2, u4, u5, u7, u9, u10, Act.put, List.setIfInBounds_toArray, List.set_cons_succ, List.set_cons_zero]
        clear u1 u2 u4 u5 u7 u9 u10
        obtain ⟨gA, aA, cA, hxA, hlA, rA, bA⟩ := hI.2 (hL 9 (by simp))
        have hb := hI.1
        simp only [hxA]
        obtain ⟨w5, rfl⟩ : ∃ x : World, x = W := ⟨_, rfl⟩
        have B5 := Lib.hid (up B4.out hb)
        have G5 := Lib.hid (G4.out.below' hb)
        have X5 := X4.out.go hb
        obtain ⟨q0, q1, q2⟩ := blk3_cells bA
        obtain ⟨j0, j1, j2⟩ := blk3_cells X5
        have fW := X5.frozen
        have hl5 := X5.lt
        have hz45 := hb.size
        have hadd := Haddj.out
        have HT := Lib.hid (touch3 (g := w2.heap.size) (w := w5) (.int .i64 ((j : Int) + 1)) (.int .i64 0) (.slice aA (j + 1) cA))
        have HN := Lib.hid (X5.set3 (.int .i64 ((j : Int) + 1)) (.int .i64 0) (.slice aA (j + 1) cA))
        have RA := Lib.hid rA
        clear hI hL hb bA X5 rA X4 R4 G4 B4 HRj HAj HSj Haddj
        go_wp2_with fail
        case roundEnd =>
          have hT' := HT.out
          have hB' := HN.out
          generalize ((w5.setCell ⟨w2.heap.size, 0, none⟩ (.int .i64 ((j : Int) + 1))).setCell ⟨w2.heap.size, 1, none⟩ (.int .i64 0)).setCell ⟨w2.heap.size, 2, none⟩ (.slice aA (j + 1) cA) = WS at hT' hB' ⊢
          have hzS := hT'.size
          have hBW := B5.out.size
          have hBl := hT'.toBelow (B := w2.heap.size) (by omega) (fun z hz => by omega)
          have hBl2 := hT'.toBelow (B := w.heap.size) hBW (fun z hz => by omega)
          have hkk : ((j : Int) + 1) = ((j + 1 : Nat) : Int) := by push_cast; rfl
          rw [hkk] at hB' ⊢
          refine ⟨⟨j + 1, aA, cA, by omega, rfl, by rw [HT1.out], B5.out.trans hBl2, Hg0.out.below' (B5.out.trans hBl2), hB', RA.out.mono fun z hz => ⟨⟨by omega, by omega⟩, hT'.block z hz.2 (by omega)⟩⟩, ?_⟩
          simp [intOf]
          omega
    · have hjK : j = K := by omega
      subst hjK
      have hT := HR.out j
      have HRj := Lib.hid (fun W => HR.out j W (by omega))
      have hNm : ((N + j : Nat) : Int) - (j : Int) + (m : Int) = ((N + m : Nat) : Int) := by push_cast; omega
      generalize hNJ : ((N + j : Nat) : Int) = NJ at *
      generalize hNM : ((N + m : Nat) : Int) = NM at *
      generalize aT T j = tj at *
      have hNJ2 : NJ = (N : Int) + (j : Int) := by rw [← hNJ]; push_cast; rfl
      have hb1 : 0 ≤ NJ ∧ NJ ≤ 100 := by omega
      have hb2 : 0 ≤ NM ∧ NM ≤ 100 := by omega
      obtain ⟨hb11, hb12⟩ := hb1
      obtain ⟨hb21, hb22⟩ := hb2
      have hj8 : (j : Int) ≤ 8 := by omega
      clear HR HA HS Hadd hT HT0 HK0 hNJ hNM hNJ2
      go_wp2_with fail
      refine (HM.out _).mono ?_
      rintro e w5 ⟨rfl, hb⟩
      have B5 := Lib.hid (up B4.out hb)
      have G5 := Lib.hid (G4.out.below' hb)
      have X5 := Lib.hid (X4.out.go hb)
      have R5 := Lib.hid ((R4.out.wide fun z hz => hz.1).go hb)
      clear hb B4 G4 X4 R4 HM
      go_wp2_with fail
      refine (HRj.out _).mono ?_
      rintro e w6 ⟨rfl, hb⟩
      have B6 := Lib.hid (up B5.out hb)
      have G6 := Lib.hid (G5.out.below' hb)
      have X6 := Lib.hid (X5.out.go hb)
      have R6 := Lib.hid (R5.out.go hb)
      clear hb B5 G5 X5 R5
      go_wp2_with fail
      obtain ⟨Vp, HV⟩ : ∃ Vp : Nat → Value → World → Prop, Hid (Vp = fun i v W => match i with
          | 0 => v = .agg #[.int .i64 (j : Int), .int .i64 0, .slice a j c]
          | 1 => v = .int .i64 NM
          | 2 => v = .int .i64 NM
          | 3 => ∃ a c, v = .slice a lb c ∧ RdS (· < W.heap.size) W (bO (N + m)) a lb c
          | 4 => v = .int .i64 (m : Int)
          | 5 => ∃ x2 x4 a c, v = .tuple #[.agg #[.int .i64 (j : Int), .int .i64 1, .slice x2 (j - m) x4], .slice a lc c, .int .i64 0] ∧ RdS (· < W.heap.size) W bK a lc c
          | 6 => ∃ x2 x4 a c, v = .tuple #[.agg #[.int .i64 (j : Int), .int .i64 1, .slice x2 (j - m) x4], .slice a lc c, .int .i64 0] ∧ RdS (· < W.heap.size) W bK a lc c
          | 7 => ∃ x2 x4, v = .agg #[.int .i64 (j : Int), .int .i64 1, .slice x2 (j - m) x4]
          | 8 => ∃ a c, v = .slice a lc c ∧ RdS (· < W.heap.size) W bK a lc c
          | 9 => v = .int .i64 0
          | 10 => ∃ g, v = .pointer (some ⟨g, 0, none⟩) ∧ w6.heap.size ≤ g ∧ Blk g (.cells zeroEd 71 (0, 0)) W
          | 11 => v = undef
          | 12 => ∃ a c, v = .slice a lc c ∧ RdS (· < W.heap.size) W bK a lc c
          | _ => v = .int .i64 0) := ⟨_, rfl⟩
      obtain ⟨Ip, HIp⟩ : ∃ Ip : (Nat → Bool) → (Nat → Value) → World → Prop, Hid (Ip = fun L x W => (Below w6.heap.size w6 W ∧ (L 11 = true → ∃ g a c, x 10 = .pointer (some ⟨g, 0, none⟩) ∧ w6.heap.size ≤ g ∧ Blk g (.cells #[.int .i64 (j : Int), .int .i64 1, .slice a (j - m) c] 71 (0, 0)) W))) := ⟨_, rfl⟩
      refine region_lit3 (by kernel_rfl) (by kernel_rfl) (by kernel_rfl) [[], [], [], [1, 2], [], [0, 1, 2, 3, 4], [0, 1, 2, 3, 4, 5], [0, 1, 2, 3, 4, 5, 6], [0, 1, 2, 3, 4, 5, 6], [0, 1, 2, 3, 4, 5, 6], [], [0, 1, 2, 3, 4, 5, 6, 7, 10], [0, 1, 2, 3, 4, 5, 6, 8], [0, 1, 2, 3, 4, 5, 6, 9]] (by kernel_rfl) [some 56, some 57, some 58, some 59, some 60, some 61, some 55, some 62, some 63, some 64, some 15, none, some 16, some 17] (by kernel_rfl) [[0, 5, 6, 7, 8, 9, 11, 12, 13], [1, 3, 5, 6, 7, 8, 9, 11, 12, 13], [2, 3, 5, 6, 7, 8, 9, 11, 12, 13], [3, 5, 6, 7, 8, 9, 11, 12, 13], [4, 5, 6, 7, 8, 9, 11, 12, 13], [5, 6, 7, 8, 9, 11, 12, 13], [6, 7, 8, 9, 11, 12, 13], [7, 11], [8, 12], [9, 13], [10, 11], [11], [12], [13]] (by kernel_rfl) [[11], [], [], [11], [], [], [], [], [], [], [11], [], [], []] [[], [], [], [1, 2], [], [0, 3, 4], [5], [6], [6], [6], [], [7, 10], [8], [9]] (by kernel_rfl)
        Ip
        Vp
        (fun j W W' => match j with
          | 11 => ∃ g, Blk g (.cells zeroEd 71 (0, 0)) W ∧ Touch (fun z => z = g) W W' ∧ w6.heap.size ≤ g
          | _ => Below W.heap.size W W')
        [fun x => ⟨#[undef, undef, undef, undef, undef, undef, undef, undef, undef, .pointer (some ⟨w2.heap.size, 0, none⟩), undef, undef, undef, undef, undef, undef, undef, undef, undef, undef, undef, undef, undef, undef, undef, undef, undef, undef, undef, undef, undef, undef, undef, undef, undef, undef, undef, undef, undef, undef, undef, undef, undef, undef, undef, undef, undef, undef, undef, undef, undef, undef, undef, undef, undef, undef, undef], []⟩,
   fun x => ⟨#[undef, undef, undef, undef, undef, undef, undef, undef, undef, undef, undef, undef, undef, undef, .int .i64 NM, undef, undef, undef, undef, undef, undef, undef, undef, undef, undef, undef, undef, undef, undef, undef, undef, undef, undef, undef, undef, undef, undef, undef, undef, undef, undef, undef, undef, undef, undef, undef, undef, undef, undef, undef, undef, undef, undef, undef, undef, undef, undef, undef], []⟩,
   fun x => ⟨#[undef, undef, undef, undef, undef, undef, undef, undef, undef, undef, undef, undef, undef, undef, .int .i64 NM, undef, undef, undef, undef, undef, undef, undef, undef, undef, undef, undef, undef, undef, undef, undef, undef, undef, undef, undef, undef, undef, undef, undef, undef, undef, undef, undef, undef, undef, undef, undef, undef, undef, undef, undef, undef, undef, undef, undef, undef, undef, undef, undef, undef], []⟩,
   fun x => ⟨#[undef, undef, undef, undef, undef, undef, undef, undef, undef, undef, undef, undef, undef, undef, undef, undef, undef, undef, undef, undef, undef, undef, undef, undef, undef, undef, undef, undef, undef, undef, undef, undef, undef, undef, undef, undef, undef, undef, undef, undef, undef, undef, undef, undef, undef, undef, undef, undef, undef, undef, undef, undef, undef, undef, undef, undef, undef, x 1, x 2, undef], []⟩,
   fun x => ⟨#[undef, undef, undef, undef, undef, undef, undef, undef, undef, undef, undef, undef, undef, .int .i64 (m : Int), undef, undef, undef, undef, undef, undef, undef, undef, undef, undef, undef, undef, undef, undef, undef, undef, undef, undef, undef, undef, undef, undef, undef, undef, undef, undef, undef, undef, undef, undef, undef, undef, undef, undef, undef, undef, undef, undef, undef, undef, undef, undef, undef, undef, undef, undef, undef], []⟩,
   fun x => ⟨#[undef, undef, undef, undef, undef, undef, undef, undef, undef, undef, undef, undef, undef, undef, undef, undef, undef, undef, undef, undef, undef, undef, undef, undef, undef, undef, undef, undef, undef, undef, undef, undef, undef, undef, undef, undef, undef, undef, undef, undef, undef, undef, undef, undef, undef, undef, undef, undef, undef, undef, undef, undef, undef, undef, undef, undef, x 0, undef, undef, x 3, x 4, undef], []⟩,
   fun x => ⟨#[undef, undef, undef, undef, undef, undef, undef, undef, undef, undef, undef, undef, undef, undef, undef, undef, undef, undef, undef, undef, undef, undef, undef, undef, undef, undef, undef, undef, undef, undef, undef, undef, undef, undef, undef, undef, undef, undef, undef, undef, undef, undef, undef, undef, undef, undef, undef, undef, undef, undef, undef, undef, undef, undef, undef, undef, undef, undef, undef, undef, undef, x 5], []⟩,
   fun x => ⟨#[undef, undef, undef, undef, undef, undef, undef, undef, undef, undef, undef, undef, undef, undef, undef, undef, undef, undef, undef, undef, undef, undef, undef, undef, undef, undef, undef, undef, undef, undef, undef, undef, undef, undef, undef, undef, undef, undef, undef, undef, undef, undef, undef, undef, undef, undef, undef, undef, undef, undef, undef, undef, undef, undef, undef, x 6, undef, undef, undef, undef, undef, undef, undef], []⟩,
   fun x => ⟨#[undef, undef, undef, undef, undef, undef, undef, undef, undef, undef, undef, undef, undef, undef, undef, undef, undef, undef, undef, undef, undef, undef, undef, undef, undef, undef, undef, undef, undef, undef, undef, undef, undef, undef, undef, undef, undef, undef, undef, undef, undef, undef, undef, undef, undef, undef, undef, undef, undef, undef, undef, undef, undef, undef, undef, x 6, undef, undef, undef, undef, undef, undef, undef, undef], []⟩,
   fun x => ⟨#[undef, undef, undef, undef, undef, undef, undef, undef, undef, undef, undef, undef, undef, undef, undef, undef, undef, undef, undef, undef, undef, undef, undef, undef, undef, undef, undef, undef, undef, undef, undef, undef, undef, undef, undef, undef, undef, undef, undef, undef, undef, undef, undef, undef, undef, undef, undef, undef, undef, undef, undef, undef, undef, undef, undef, x 6, undef, undef, undef, undef, undef, undef, undef, undef, undef], []⟩,
   fun x => ⟨#[undef, undef, undef, undef, undef, undef, undef, undef, undef, undef, undef, undef, undef, undef, undef, undef], []⟩,
   fun x => ⟨#[undef, undef, undef, undef, undef, undef, undef, undef, undef, undef, undef, undef, undef, undef, undef, x 10, undef, undef, undef, undef, undef, undef, undef, undef, undef, undef, undef, undef, undef, undef, undef, undef, undef, undef, undef, undef, undef, undef, undef, undef, undef, undef, undef, undef, undef, undef, undef, undef, undef, undef, undef, undef, undef, undef, undef, undef, undef, undef, undef, undef, undef, undef, x 7], []⟩,
   fun x => ⟨#[undef, undef, undef, undef, undef, undef, undef, undef, undef, undef, undef, undef, undef, undef, undef, undef, undef, undef, undef, undef, undef, undef, undef, undef, undef, undef, undef, undef, undef, undef, undef, undef, undef, undef, undef, undef, undef, undef, undef, undef, undef, undef, undef, undef, undef, undef, undef, undef, undef, undef, undef, undef, undef, undef, undef, undef, undef, undef, undef, undef, undef, undef, undef, x 8], []⟩,
   fun x => ⟨#[undef, undef, undef, undef, undef, undef, undef, undef, undef, undef, undef, undef, undef, undef, undef, undef, undef, undef, undef, undef, undef, undef, undef, undef, undef, undef, undef, undef, undef, undef, undef, undef, undef, undef, undef, undef, undef, undef, undef, undef, undef, undef, undef, undef, undef, undef, undef, undef, undef, undef, undef, undef, undef, undef, undef, undef, undef, undef, undef, undef, undef, undef, undef, undef, x 9], []⟩]
        ?hF ?mono ?h0 ?step [1, 2, 4, 5, 6, 7, 8, 9, 11, 12, 13] (by kernel_rfl) ?fin
      case hF =>
        exact ⟨fun x => ⟨by kernel_rfl, by kernel_rfl⟩, fun x => ⟨by kernel_rfl, by kernel_rfl⟩, fun x => ⟨by kernel_rfl, by kernel_rfl⟩, fun x => ⟨by kernel_rfl, by kernel_rfl⟩, fun x => ⟨by kernel_rfl, by kernel_rfl⟩, fun x => ⟨by kernel_rfl, by kernel_rfl⟩, fun x => ⟨by kernel_rfl, by kernel_rfl⟩, fun x => ⟨by kernel_rfl, by kernel_rfl⟩, fun x => ⟨by kernel_rfl, by kernel_rfl⟩, fun x => ⟨by kernel_rfl, by kernel_rfl⟩, fun x => ⟨by kernel_rfl, by kernel_rfl⟩, fun x => ⟨by kernel_rfl, by kernel_rfl⟩, fun x => ⟨by kernel_rfl, by kernel_rfl⟩, fun x => ⟨by kernel_rfl, by kernel_rfl⟩, trivial⟩
      case mono =>
        intro i j hi hj hne hna hnk v W W' hE hv
        rw [HV.out] at hv ⊢
        simp only [List.length_cons, List.length_nil] at hi hj
        match i, hi with
        | 0, _ | 1, _ | 2, _ | 4, _ | 9, _ | 11, _ | 13, _ => exact hv
        | 3, _ =>
          match j, hj with
          | 3, _ => exact absurd rfl hne
          | 1, _ => exact absurd (by simp) hna
          | 2, _ => exact absurd (by simp) hna
          | 11, _ => exact absurd (by simp) hnk
          | 0, _ => exact (by obtain ⟨a, c, e, h⟩ := hv; exact ⟨a, c, e, h.go hE⟩)
          | 4, _ => exact (by obtain ⟨a, c, e, h⟩ := hv; exact ⟨a, c, e, h.go hE⟩)
          | 5, _ => exact (by obtain ⟨a, c, e, h⟩ := hv; exact ⟨a, c, e, h.go hE⟩)
          | 6, _ => exact (by obtain ⟨a, c, e, h⟩ := hv; exact ⟨a, c, e, h.go hE⟩)
          | 7, _ => exact (by obtain ⟨a, c, e, h⟩ := hv; exact ⟨a, c, e, h.go hE⟩)
          | 8, _ => exact (by obtain ⟨a, c, e, h⟩ := hv; exact ⟨a, c, e, h.go hE⟩)
          | 9, _ => exact (by obtain ⟨a, c, e, h⟩ := hv; exact ⟨a, c, e, h.go hE⟩)
          | 10, _ => exact (by obtain ⟨a, c, e, h⟩ := hv; exact ⟨a, c, e, h.go hE⟩)
          | 12, _ => exact (by obtain ⟨a, c, e, h⟩ := hv; exact ⟨a, c, e, h.go hE⟩)
          | 13, _ => exact (by obtain ⟨a, c, e, h⟩ := hv; exact ⟨a, c, e, h.go hE⟩)
          | m + 14, h => exact absurd h (by omega)
        | 5, _ =>
          match j, hj with
          | 5, _ => exact absurd rfl hne
          | 0, _ => exact absurd (by simp) hna
          | 1, _ => exact absurd (by simp) hna
          | 2, _ => exact absurd (by simp) hna
          | 3, _ => exact absurd (by simp) hna
          | 4, _ => exact absurd (by simp) hna
          | 6, _ => exact (by obtain ⟨x2, x4, a, c, e, h⟩ := hv; exact ⟨x2, x4, a, c, e, h.go hE⟩)
          | 7, _ => exact (by obtain ⟨x2, x4, a, c, e, h⟩ := hv; exact ⟨x2, x4, a, c, e, h.go hE⟩)
          | 8, _ => exact (by obtain ⟨x2, x4, a, c, e, h⟩ := hv; exact ⟨x2, x4, a, c, e, h.go hE⟩)
          | 9, _ => exact (by obtain ⟨x2, x4, a, c, e, h⟩ := hv; exact ⟨x2, x4, a, c, e, h.go hE⟩)
          | 10, _ => exact (by obtain ⟨x2, x4, a, c, e, h⟩ := hv; exact ⟨x2, x4, a, c, e, h.go hE⟩)
          | 11, _ => exact (by obtain ⟨x2, x4, a, c, e, h⟩ := hv; obtain ⟨g, hz, ht, -⟩ := hE; exact ⟨x2, x4, a, c, e, h.offE hz ht⟩)
          | 12, _ => exact (by obtain ⟨x2, x4, a, c, e, h⟩ := hv; exact ⟨x2, x4, a, c, e, h.go hE⟩)
          | 13, _ => exact (by obtain ⟨x2, x4, a, c, e, h⟩ := hv; exact ⟨x2, x4, a, c, e, h.go hE⟩)
          | m + 14, h => exact absurd h (by omega)
        | 6, _ =>
          match j, hj with
          | 6, _ => exact absurd rfl hne
          | 0, _ => exact absurd (by simp) hna
          | 1, _ => exact absurd (by simp) hna
          | 2, _ => exact absurd (by simp) hna
          | 3, _ => exact absurd (by simp) hna
          | 4, _ => exact absurd (by simp) hna
          | 5, _ => exact absurd (by simp) hna
          | 7, _ => exact (by obtain ⟨x2, x4, a, c, e, h⟩ := hv; exact ⟨x2, x4, a, c, e, h.go hE⟩)
          | 8, _ => exact (by obtain ⟨x2, x4, a, c, e, h⟩ := hv; exact ⟨x2, x4, a, c, e, h.go hE⟩)
          | 9, _ => exact (by obtain ⟨x2, x4, a, c, e, h⟩ := hv; exact ⟨x2, x4, a, c, e, h.go hE⟩)
          | 10, _ => exact (by obtain ⟨x2, x4, a, c, e, h⟩ := hv; exact ⟨x2, x4, a, c, e, h.go hE⟩)
          | 11, _ => exact (by obtain ⟨x2, x4, a, c, e, h⟩ := hv; obtain ⟨g, hz, ht, -⟩ := hE; exact ⟨x2, x4, a, c, e, h.offE hz ht⟩)
          | 12, _ => exact (by obtain ⟨x2, x4, a, c, e, h⟩ := hv; exact ⟨x2, x4, a, c, e, h.go hE⟩)
          | 13, _ => exact (by obtain ⟨x2, x4, a, c, e, h⟩ := hv; exact ⟨x2, x4, a, c, e, h.go hE⟩)
          | m + 14, h => exact absurd h (by omega)
        | 7, _ =>
          match j, hj with
          | 7, _ => exact absurd rfl hne
          | 0, _ => exact absurd (by simp) hna
          | 1, _ => exact absurd (by simp) hna
          | 2, _ => exact absurd (by simp) hna
          | 3, _ => exact absurd (by simp) hna
          | 4, _ => exact absurd (by simp) hna
          | 5, _ => exact absurd (by simp) hna
          | 6, _ => exact absurd (by simp) hna
          | 8, _ => exact (id hv)
          | 9, _ => exact (id hv)
          | 10, _ => exact (id hv)
          | 11, _ => exact (id hv)
          | 12, _ => exact (id hv)
          | 13, _ => exact (id hv)
          | m + 14, h => exact absurd h (by omega)
        | 8, _ =>
          match j, hj with
          | 8, _ => exact absurd rfl hne
          | 0, _ => exact absurd (by simp) hna
          | 1, _ => exact absurd (by simp) hna
          | 2, _ => exact absurd (by simp) hna
          | 3, _ => exact absurd (by simp) hna
          | 4, _ => exact absurd (by simp) hna
          | 5, _ => exact absurd (by simp) hna
          | 6, _ => exact absurd (by simp) hna
          | 7, _ => exact (by obtain ⟨a, c, e, h⟩ := hv; exact ⟨a, c, e, h.go hE⟩)
          | 9, _ => exact (by obtain ⟨a, c, e, h⟩ := hv; exact ⟨a, c, e, h.go hE⟩)
          | 10, _ => exact (by obtain ⟨a, c, e, h⟩ := hv; exact ⟨a, c, e, h.go hE⟩)
          | 11, _ => exact (by obtain ⟨a, c, e, h⟩ := hv; obtain ⟨g, hz, ht, -⟩ := hE; exact ⟨a, c, e, h.offE hz ht⟩)
          | 12, _ => exact (by obtain ⟨a, c, e, h⟩ := hv; exact ⟨a, c, e, h.go hE⟩)
          | 13, _ => exact (by obtain ⟨a, c, e, h⟩ := hv; exact ⟨a, c, e, h.go hE⟩)
          | m + 14, h => exact absurd h (by omega)
        | 10, _ =>
          match j, hj with
          | 10, _ => exact absurd rfl hne
          | 11, _ => exact absurd (by simp) hnk
          | 0, _ => exact (by obtain ⟨g, h1, h2, h3⟩ := hv; exact ⟨g, h1, h2, h3.go hE⟩)
          | 1, _ => exact (by obtain ⟨g, h1, h2, h3⟩ := hv; exact ⟨g, h1, h2, h3.go hE⟩)
          | 2, _ => exact (by obtain ⟨g, h1, h2, h3⟩ := hv; exact ⟨g, h1, h2, h3.go hE⟩)
          | 3, _ => exact (by obtain ⟨g, h1, h2, h3⟩ := hv; exact ⟨g, h1, h2, h3.go hE⟩)
          | 4, _ => exact (by obtain ⟨g, h1, h2, h3⟩ := hv; exact ⟨g, h1, h2, h3.go hE⟩)
          | 5, _ => exact (by obtain ⟨g, h1, h2, h3⟩ := hv; exact ⟨g, h1, h2, h3.go hE⟩)
          | 6, _ => exact (by obtain ⟨g, h1, h2, h3⟩ := hv; exact ⟨g, h1, h2, h3.go hE⟩)
          | 7, _ => exact (by obtain ⟨g, h1, h2, h3⟩ := hv; exact ⟨g, h1, h2, h3.go hE⟩)
          | 8, _ => exact (by obtain ⟨g, h1, h2, h3⟩ := hv; exact ⟨g, h1, h2, h3.go hE⟩)
          | 9, _ => exact (by obtain ⟨g, h1, h2, h3⟩ := hv; exact ⟨g, h1, h2, h3.go hE⟩)
          | 12, _ => exact (by obtain ⟨g, h1, h2, h3⟩ := hv; exact ⟨g, h1, h2, h3.go hE⟩)
          | 13, _ => exact (by obtain ⟨g, h1, h2, h3⟩ := hv; exact ⟨g, h1, h2, h3.go hE⟩)
          | m + 14, h => exact absurd h (by omega)
        | 12, _ =>
          match j, hj with
          | 12, _ => exact absurd rfl hne
          | 0, _ => exact absurd (by simp) hna
          | 1, _ => exact absurd (by simp) hna
          | 2, _ => exact absurd (by simp) hna
          | 3, _ => exact absurd (by simp) hna
          | 4, _ => exact absurd (by simp) hna
          | 5, _ => exact absurd (by simp) hna
          | 6, _ => exact absurd (by simp) hna
          | 8, _ => exact absurd (by simp) hna
          | 7, _ => exact (by obtain ⟨a, c, e, h⟩ := hv; exact ⟨a, c, e, h.go hE⟩)
          | 9, _ => exact (by obtain ⟨a, c, e, h⟩ := hv; exact ⟨a, c, e, h.go hE⟩)
          | 10, _ => exact (by obtain ⟨a, c, e, h⟩ := hv; exact ⟨a, c, e, h.go hE⟩)
          | 11, _ => exact (by obtain ⟨a, c, e, h⟩ := hv; obtain ⟨g, hz, ht, -⟩ := hE; exact ⟨a, c, e, h.offE hz ht⟩)
          | 13, _ => exact (by obtain ⟨a, c, e, h⟩ := hv; exact ⟨a, c, e, h.go hE⟩)
          | m + 14, h => exact absurd h (by omega)
        | m + 14, h => exact absurd h (by omega)
      case h0 => intro x; exact toI HIp ⟨(Below.refl _ _).drew, fun h => by cases h⟩
      case step =>
        refine ⟨?_, ?_, ?_, ?_, ?_, ?_, ?_, ?_, ?_, ?_, ?_, ?_, ?_, ?_, trivial⟩
        all_goals
          intro x W L hI hL hV
          replace hI : (Below w6.heap.size w6 W ∧ (L 11 = true → ∃ g a c, x 10 = .pointer (some ⟨g, 0, none⟩) ∧ w6.heap.size ≤ g ∧ Blk g (.cells #[.int .i64 (j : Int), .int .i64 1, .slice a (j - m) c] 71 (0, 0)) W)) := ofI HIp hI
          rw [HV.out] at hV
          simp only [AllV, and_true] at hV
        · clear hV
          (try dsimp only)
          obtain ⟨q0, q1, q2⟩ := blk3_cells (X6.out.go hI.1)
          have HI := Lib.hid hI
          clear hI
          go_wp2_with fail
          refine step3_done rfl ?_ ?_ ?_
          · exact (toI HIp HI.out)
          · exact (Below.refl _ _)
          · exact (toV HV rfl)
        · clear hV
          (try dsimp only)
          have HI := Lib.hid hI
          clear hI
          go_wp2_with fail
          refine step3_done rfl ?_ ?_ ?_
          · exact (toI HIp HI.out)
          · exact (Below.refl _ _)
          · exact (toV HV rfl)
        · clear hV
          (try dsimp only)
          have HI := Lib.hid hI
          clear hI
          go_wp2_with fail
          refine step3_done rfl ?_ ?_ ?_
          · exact (toI HIp HI.out)
          · exact (Below.refl _ _)
          · exact (toV HV rfl)
        · obtain ⟨u1, u2⟩ := hV
          simp only [u1, u2]
          clear u1 u2
          have HI := Lib.hid hI
          clear hI
          go_wp2_with fail
          refine (HB.out _).mono ?_
          rintro e W' ⟨a', c', rfl, hr, hb⟩
          go_wp2_with fail
          refine step3_done rfl ?_ ?_ ?_
          · exact (toI HIp ⟨up HI.out.1 hb, fun h => by obtain ⟨g, a, c, h1, h2, h4⟩ := HI.out.2 h; exact ⟨g, a, c, h1, h2, h4.go hb⟩⟩)
          · exact hb
          · exact (toV HV ⟨_, _, rfl, hr⟩)
        · clear hV
          (try dsimp only)
          have HI := Lib.hid hI
          clear hI
          go_wp2_with fail
          refine step3_done rfl ?_ ?_ ?_
          · exact (toI HIp HI.out)
          · exact (Below.refl _ _)
          · exact (toV HV rfl)
        · obtain ⟨u0, ⟨a3, c3, u3, r3⟩, u4⟩ := hV
          simp only [u0, u3, u4]
          have U3 := Lib.hid u3
          clear u0 u3 u4
          have HI := Lib.hid hI
          have R3 := Lib.hid r3
          clear hI r3
          go_wp2_with fail
          refine (HH1.out _ _ _ _ _ (G6.out.below' HI.out.1) (R6.out.go HI.out.1) R3.out).mono ?_
          rintro e W' ⟨y2, y4, a', c', rfl, hr, hb⟩
          go_wp2_with fail
          refine step3_done rfl ?_ ?_ ?_
          · exact (toI HIp ⟨up HI.out.1 hb, fun h => by obtain ⟨g, a, c, h1, h2, h4⟩ := HI.out.2 h; exact ⟨g, a, c, h1, h2, h4.go hb⟩⟩)
          · exact hb
          · exact (toV HV ⟨_, _, _, _, rfl, hr⟩)
        · obtain ⟨x25, x45, a5, c5, u5, r5⟩ := hV
          simp only [u5]
          have U5 := Lib.hid u5
          clear u5
          have HI := Lib.hid hI
          clear hI
          go_wp2_with fail
          refine step3_done rfl ?_ ?_ ?_
          · exact (toI HIp HI.out)
          · exact (Below.refl _ _)
          · exact (toV HV ⟨_, _, _, _, rfl, r5⟩)
        · obtain ⟨x26, x46, a6, c6, u6, r6⟩ := hV
          simp only [u6]
          have U6 := Lib.hid u6
          clear u6
          have HI := Lib.hid hI
          clear hI
          go_wp2_with fail
          refine step3_done rfl ?_ ?_ ?_
          · exact (toI HIp HI.out)
          · exact (Below.refl _ _)
          · exact (toV HV ⟨_, _, rfl⟩)
        · obtain ⟨x26, x46, a6, c6, u6, r6⟩ := hV
          simp only [u6]
          have U6 := Lib.hid u6
          clear u6
          have HI := Lib.hid hI
          clear hI
          go_wp2_with fail
          refine step3_done rfl ?_ ?_ ?_
          · exact (toI HIp HI.out)
          · exact (Below.refl _ _)
          · exact (toV HV ⟨_, _, rfl, r6⟩)
        · obtain ⟨x26, x46, a6, c6, u6, r6⟩ := hV
          simp only [u6]
          have U6 := Lib.hid u6
          clear u6
          have HI := Lib.hid hI
          clear hI
          go_wp2_with fail
          refine step3_done rfl ?_ ?_ ?_
          · exact (toI HIp HI.out)
          · exact (Below.refl _ _)
          · exact (toV HV rfl)
        · clear hV
          (try dsimp only)
          have HL := Lib.hid hL
          have HI := Lib.hid hI
          have hzW := hI.1.size
          clear hI hL
          go_wp2_with fail
          have uW : ∀ o, Below W.heap.size W (W.alloc o) := fun o => (Below.refl _ _).alloc (Nat.le_refl _) o
          refine step3_done rfl ?_ ?_ ?_
          · exact (toI HIp ⟨up HI.out.1 (uW _), fun h => absurd ((HL.out.2 11 (by simp)).symm.trans h) (by simp)⟩)
          · exact (uW _)
          · exact (toV HV ⟨_, rfl, hzW, Blk.new _ _⟩)
        · obtain ⟨⟨x27, x47, u7⟩, ⟨g10, u10, l10, b10⟩⟩ := hV
          simp only [u10, u7]
          have U7 := Lib.hid u7
          have U10 := Lib.hid u10
          clear u7 u10
          obtain ⟨q0, q1, q2⟩ := blk3_cells b10
          have fW := b10.frozen
          have hg9 := b10.lt
          have HT := Lib.hid (touch3 (g := g10) (w := W) (.int .i64 (j : Int)) (.int .i64 1) (.slice x27 (j - m) x47))
          have HN := Lib.hid (b10.set3 (.int .i64 (j : Int)) (.int .i64 1) (.slice x27 (j - m) x47))
          have HI := Lib.hid hI
          have HB9 := Lib.hid b10
          clear hI b10
          go_wp2_with fail
          refine step3_done (v := undef) rfl ?_ ?_ ?_
          · exact (toI HIp ⟨HI.out.1.trans (HT.out.toBelow HI.out.1.size (fun k hk => by omega)), fun _ => ⟨g10, x27, x47, U10.out, l10, HN.out⟩⟩)
          · exact ⟨g10, HB9.out, HT.out, l10⟩
          · exact (toV HV rfl)
        · obtain ⟨a8b, c8b, u8, r8⟩ := hV
          simp only [u8]
          have U8 := Lib.hid u8
          clear u8
          have HI := Lib.hid hI
          clear hI
          go_wp2_with fail
          refine step3_done rfl ?_ ?_ ?_
          · exact (toI HIp HI.out)
          · exact (Below.refl _ _)
          · exact (toV HV ⟨_, _, rfl, r8⟩)
        · have u9 := hV
          clear hV
          simp only [u9]
          clear u9
          have HI := Lib.hid hI
          clear hI
          go_wp2_with fail
          refine step3_done rfl ?_ ?_ ?_
          · exact (toI HIp HI.out)
          · exact (Below.refl _ _)
          · exact (toV HV rfl)
      case fin =>
        intro x W L hL hI hV
        replace hI : (Below w6.heap.size w6 W ∧ (L 11 = true → ∃ g a c, x 10 = .pointer (some ⟨g, 0, none⟩) ∧ w6.heap.size ≤ g ∧ Blk g (.cells #[.int .i64 (j : Int), .int .i64 1, .slice a (j - m) c] 71 (0, 0)) W)) := ofI HIp hI
        rw [HV.out] at hV
        simp only [AllV, and_true] at hV
        obtain ⟨u1, u2, u4, ⟨x25, x45, a5, c5, u5, r5⟩, ⟨x26, x46, a6, c6, u6, r6⟩, ⟨x27, x47, u7⟩, ⟨a8b, c8b, u8, r8⟩, u9, u11, ⟨a12b, c12b, u12, r12⟩, u13⟩ := hV
        simp only [getsD, List.getD_cons_succ, List.getD_cons_zero, List.length_cons, List.length_nil, List.range, List.range.loop, u1, u2, u4, u5, u6, u7, u8, u9, u11, u12, u13, Act.put, List.setIfInBounds_toArray, List.set_cons_succ, List.set_cons_zero]
        clear u1 u2 u4 u5 u6 u7 u8 u9 u11 u12 u13
        obtain ⟨gA, aA, cA, hxA, hlA, bA⟩ := hI.2 (hL 11 (by simp))
        have hb := hI.1
        simp only [hxA]
        obtain ⟨w7, rfl⟩ : ∃ x : World, x = W := ⟨_, rfl⟩
        have B7 := Lib.hid (up B6.out hb)
        have G7 := Lib.hid (G6.out.below' hb)
        have X7 := Lib.hid (X6.out.go hb)
        have R7 := Lib.hid (R6.out.go hb)
        have XA := Lib.hid bA
        have RO := Lib.hid r12
        obtain ⟨q0, q1, q2⟩ := blk3_cells X7.out
        clear hI hL hb bA r12 B6 G6 X6 R6 HH1 HB
        go_wp2_with fail
        refine (HH2.out _ _ _ G7.out R7.out).mono ?_
        rintro e w8 ⟨rfl, hb⟩
        have B8 := Lib.hid (up B7.out hb)
        have XA8 := Lib.hid (XA.out.go hb)
        have RO8 := Lib.hid (RO.out.go hb)
        clear hb B7 G7 X7 R7 XA RO HH2 q0 q1 q2
        go_wp2_with fail
        refine abs_run (fun W => Below w8.heap.size w8 W) (by (repeat (first | exact Below.refl _ _ | assumption | (refine Below.drew ?_) | (refine below_drewN ?_ _) | (refine Below.alloc ?_ (by first | (simp; done) | (simp; omega) | omega) _) | (refine Below.setCell ?_ (by first | (simp; done) | (simp; omega) | omega) _) | (refine Below.trans ?_ (Below.mono (by assumption) (by first | (simp; done) | (simp; omega) | omega)))))) ?_
        intro w9 u9
        refine (HLn.out _ _ _ _ (RO8.out.go u9)).mono ?_
        rintro e w10 ⟨rfl, hb⟩
        have B10 := Lib.hid (up (up B8.out u9) hb)
        have XA10 := Lib.hid ((XA8.out.go u9).go hb)
        obtain ⟨q0, q1, q2⟩ := blk3_cells XA10.out
        clear u9 hb B8 XA8 RO8 HLn
        have hjm : ((j - m : Nat) : Int) = (j : Int) - (m : Int) := by omega
        go_wp2_with fail
        refine (HRj.out _).mono ?_
        rintro e w11 ⟨rfl, hb⟩
        have B11 := Lib.hid (up B10.out hb)
        clear hb B10
        go_wp2_with fail
        go_ret
        exact ⟨rfl, B11.out⟩
end Go.Proofs.YtkhacogeffidoaaDoor
