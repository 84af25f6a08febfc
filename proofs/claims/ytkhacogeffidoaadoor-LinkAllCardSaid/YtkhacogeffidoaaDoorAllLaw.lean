/- Plain: all is told in the end: a round of ticks and of packets that come, one by one. No program in sight. -/
import Derived.Test.YtkhacogeffidoaaDoorOnceInv
set_option linter.unusedVariables false
set_option linter.unusedSimpArgs false
namespace Go.Proofs.YtkhacogeffidoaaDoor
open Go.RowKit

/-- what a packet from the other side tells the sender, with how many are left -/
theorem Dir.acks2 {a b : Lk} {S T : List Fr} {F G : List Pkt} {N A H : Nat} (d : Dir a b S T F G N A H) (p : Pkt) (hp : p ∈ G) (hS : S.length < 1000) (h' : Int) :
    ∃ N' A', Dir (Lk.mk a.epoch a.next (a.acked p.ack) a.queue h').filled b S T (F ++ (Lk.mk a.epoch a.next (a.acked p.ack) a.queue h').filled.pks (a.acked p.ack).length) G N' A' H ∧ (Lk.mk a.epoch a.next (a.acked p.ack) a.queue h').filled.epoch = a.epoch ∧ (Lk.mk a.epoch a.next (a.acked p.ack) a.queue h').filled.heard = h' ∧ A ≤ A' ∧ N ≤ N' ∧ (p.ack : Int) ≤ (A' : Int) ∧ (a.acked p.ack).length = N - A' := by
  obtain ⟨k0, k1⟩ := d.back p hp
  obtain ⟨k, hk⟩ : ∃ k : Nat, p.ack = (k : Int) := ⟨p.ack.toNat, by omega⟩
  have h1 := d.aN
  have h2 := d.nS
  have h3 := d.win
  have h4 := d.aH
  have h5 := d.hN
  have hl := d.sentLen
  have hack : a.acked p.ack = (S.take N).drop (max A k) := by
    unfold Lk.acked
    rw [hl, d.nx, hk]
    by_cases h : 1 + (N : Int) - ((N - A : Nat) : Int) ≤ (k : Int) ∧ (k : Int) < 1 + (N : Int)
    · rw [if_pos h, d.sent, List.drop_drop]
      congr 1
      omega
    · rw [if_neg h, d.sent]
      congr 1
      omega
  have hf := fill_win S (S.length - N) N (max A k) a.next rfl (by omega) h2 (by omega) (by rw [d.nx]; omega)
  have hp2 : (Lk.mk a.epoch a.next (a.acked p.ack) a.queue h').filled = ⟨a.epoch, a.next + ((max N (min S.length (max A k + 8)) - N : Nat) : Int), (S.take (max N (min S.length (max A k + 8)))).drop (max A k), S.drop (max N (min S.length (max A k + 8))), h'⟩ := by
    unfold Lk.filled
    simp only
    rw [hack, d.queue, hf]
  have d2 : Dir (Lk.mk a.epoch a.next (a.acked p.ack) a.queue h').filled b S T F G (max N (min S.length (max A k + 8))) (max A k) H := by
    rw [hp2]
    refine ⟨?_, by omega, by omega, by omega, fun h => by omega, rfl, rfl, d.heard, d.told, by omega, by omega, fun q hq hb => ?_, d.back⟩
    · show a.next + _ = _
      rw [d.nx]; omega
    · obtain ⟨j, j1, j2, j3⟩ := d.there q hq hb
      exact ⟨j, j1, by omega, j3⟩
  refine ⟨_, _, ⟨d2.nx, d2.nS, d2.aN, d2.win, d2.full, d2.sent, d2.queue, d2.heard, d2.told, d2.aH, d2.hN, fun q hq hb => ?_, d2.back⟩, by rw [hp2], by rw [hp2], by omega, by omega, by omega, by rw [hack, List.length_drop, List.length_take]; omega⟩
  rcases List.mem_append.1 hq with h | h
  · exact d2.there q h hb
  · exact (d2.pks _ q h).2.2.2
/-- a packet comes to end 0: what it does to the numbers -/
theorem OnceI.come {c : Cb} {N0 A0 H0 N1 A1 H1 : Nat} (k : OnceI c N0 A0 H0 N1 A1 H1) (hE : c.s0.length + c.s1.length ≤ 400) {p : Pkt} (hp : p ∈ c.f0) (L : List Pkt) (hL : ∀ q ∈ L, q ∈ c.f0) :
    ∃ N0' A0' H1', OnceI { c with e0 := c.e0.hearL p, f0 := L, f1 := c.f1 ++ c.e0.hearP p, t0 := if c.e0.told p = true then c.t0 ++ [c.e0.hearF p] else c.t0 } N0' A0' H0 N1 A1 H1' ∧ A0 ≤ A0' ∧ N0 ≤ N0' ∧ p.ack ≤ (A0' : Int) ∧ H1 ≤ H1' ∧ (p.bare = false → p.number = (H1 : Int) + 1 → H1' = H1 + 1) ∧ (c.e0.hearP p).length ≤ (N0' - N0) + 1 ∧ (p.bare = false → ∃ l q, c.e0.hearP p = l ++ [q] ∧ q.ack = (H1' : Int)) := by
  obtain ⟨q1, q2, -⟩ := Once.ok (E := 400) (c := c) ⟨hE, _, _, _, _, _, _, k⟩ (by omega)
  obtain ⟨n1, n2, n3, n4, n5, n6⟩ := k.nums (E := 400) hE (by omega)
  have hpk := k.k0 p hp
  have hE0 : c.e0.hearE p = 0 := by
    unfold Lk.hearE
    rw [q1, hpk.2.1, if_neg (by simp), if_neg (by simp), if_neg (by rw [k.p0, hpk.1]; simp)]
  have hLL : c.e0.hearL p = (c.e0.behind p).filled := if_pos hE0
  have hT : c.e0.told p = c.e0.tells p := if_pos hE0
  have hPP : c.e0.hearP p = (c.e0.behind p).filled.pks (c.e0.acked p.ack).length ++ (if p.bare then [] else [(c.e0.behind p).filled.barePk]) := if_pos hE0
  have hFF : (if c.e0.told p = true then c.t0 ++ [c.e0.hearF p] else c.t0) = (if c.e0.tells p = true then c.t0 ++ [p.f] else c.t0) := by
    unfold Lk.hearF
    rw [hT]
    by_cases ht : c.e0.tells p = true
    · rw [if_pos ht, if_pos ht, if_pos ht]
    · rw [if_neg ht, if_neg ht]
  have hbh : c.e0.behind p = Lk.mk c.e0.epoch c.e0.next (c.e0.acked p.ack) c.e0.queue (if c.e0.tells p then c.e0.heard + 1 else c.e0.heard) := rfl
  obtain ⟨N0', A0', da, ea, eh, hA, hN, hk, hal⟩ := k.d0.acks2 p hp (by omega) (if c.e0.tells p then c.e0.heard + 1 else c.e0.heard)
  rw [← hbh] at da ea eh
  obtain ⟨H1', dh, hH, ehh, ht1, ht2⟩ := k.d1.hears (b' := (c.e0.behind p).filled) p hp eh (by omega)
  rw [List.append_nil] at dh
  have hH1 := dh.hN
  have hN1 := dh.nS
  have hpks := da.pks (c.e0.acked p.ack).length
  have hnew : ∀ q ∈ c.e0.hearP p, PkOk q ∧ q.ack = (c.e0.behind p).filled.heard := by
    intro q hq
    rw [hPP] at hq
    rcases List.mem_append.1 hq with hq | hq
    · exact ⟨da.pksOk k.g0 (by omega) (ea.trans k.p0) (by omega) (by omega) _ q hq, (hpks q hq).2.2.1⟩
    · split at hq
      · cases hq
      · rw [List.mem_singleton] at hq
        subst hq
        refine ⟨?_, rfl⟩
        unfold Lk.barePk
        rw [ea, k.p0]
        exact bare_ok (by omega) (by omega)
  rw [hFF, hLL]
  refine ⟨N0', A0', H1', ⟨?_, ?_, ea.trans k.p0, k.p1, (fun q hq => k.k0 q (hL q hq)), ?_, k.g0, k.g1⟩, hA, hN, hk, hH, ?_, ?_, ?_⟩
  · refine da.on (fun q hq => ?_) (fun q hq => .inl (hL q hq))
    rcases List.mem_append.1 hq with hq | hq
    · exact .inl (List.mem_append_left _ hq)
    · rw [hPP] at hq
      rcases List.mem_append.1 hq with hq | hq
      · exact .inl (List.mem_append_right _ hq)
      · split at hq
        · cases hq
        · rw [List.mem_singleton] at hq
          subst hq
          exact .inr (.inl rfl)
  · refine dh.on (fun q hq => .inl (hL q hq)) (fun q hq => ?_)
    rcases List.mem_append.1 hq with hq | hq
    · exact .inl hq
    · exact .inr (hnew q hq).2
  · intro q hq
    rcases List.mem_append.1 hq with hq | hq
    · exact k.k1 q hq
    · exact (hnew q hq).1
  · intro hb hn
    refine ht1 ?_
    unfold Lk.tells
    have h0 := k.d1.heard
    simp only [hb, Bool.not_false, Bool.true_and, Bool.and_eq_true, beq_iff_eq, decide_eq_true_eq]
    omega
  · rw [hPP, List.length_append]
    have hl : ((c.e0.behind p).filled.pks (c.e0.acked p.ack).length).length ≤ N0' - N0 := by
      unfold Lk.pks
      rw [List.length_map, List.length_range]
      have h1 := da.sentLen
      omega
    split
    · simp only [List.length_nil]; omega
    · simp only [List.length_singleton]; omega
  · intro hb
    refine ⟨(c.e0.behind p).filled.pks (c.e0.acked p.ack).length, (c.e0.behind p).filled.barePk, ?_, ehh⟩
    rw [hPP, hb, if_neg (by simp)]

/-- how far a direction is in a round: n were sent at its start; tr packets come to the receiver yet, ts to the sender -/
def Ph (n tr ts : Nat) (F G : List Pkt) (H A U : Nat) : Prop :=
  (∃ i L R, F = L ++ R ∧ L.length = n - i ∧ i < n ∧ i ≤ H ∧ (∀ k p, L[k]? = some p → p.bare = false ∧ p.number = ((i + k : Nat) : Int) + 1) ∧ 2 * (n - i) + G.length + U ≤ tr ∧ tr ≤ ts + 1) ∨
  (∃ k p, G[k]? = some p ∧ (n : Int) ≤ p.ack ∧ k + 1 ≤ ts) ∨ n ≤ A
theorem Ph.done {n : Nat} {F G : List Pkt} {H A U : Nat} (h : Ph n 0 0 F G H A U) : n ≤ A := by
  rcases h with ⟨i, L, R, -, h2, h3, -, -, h6, -⟩ | ⟨k, p, -, -, h3⟩ | h
  · omega
  · omega
  · exact h
/-- a packet comes to the sender -/
theorem Ph.send {n tr ts : Nat} {F G' : List Pkt} {p : Pkt} {H A A' U : Nat} (h : Ph n tr (ts + 1) F (p :: G') H A U) (new : List Pkt) (hA : A ≤ A') (hk : p.ack ≤ (A' : Int)) (ht : tr ≤ ts + 1) : Ph n tr ts (F ++ new) G' H A' U := by
  rcases h with ⟨i, L, R, h1, h2, h3, h4, h5, h6, h7⟩ | ⟨k, q, h1, h2, h3⟩ | h
  · exact .inl ⟨i, L, R ++ new, by rw [h1, List.append_assoc], h2, h3, h4, h5, by simp only [List.length_cons] at h6; omega, ht⟩
  · match k with
    | 0 =>
      simp only [List.getElem?_cons_zero, Option.some.injEq] at h1
      subst h1
      exact .inr (.inr (by omega))
    | k + 1 =>
      simp only [List.getElem?_cons_succ] at h1
      exact .inr (.inl ⟨k, q, h1, h2, by omega⟩)
  · exact .inr (.inr (by omega))
theorem Ph.send0 {n tr ts : Nat} {F : List Pkt} {H A U : Nat} (h : Ph n tr (ts + 1) F [] H A U) (ht : tr ≤ ts + 1) : Ph n tr ts F [] H A U := by
  rcases h with ⟨i, L, R, h1, h2, h3, h4, h5, h6, h7⟩ | ⟨k, q, h1, h2, h3⟩ | h
  · exact .inl ⟨i, L, R, h1, h2, h3, h4, h5, h6, ht⟩
  · simp at h1
  · exact .inr (.inr h)
/-- a packet comes to the receiver -/
theorem Ph.recv {n tr ts : Nat} {F' G : List Pkt} {p : Pkt} {H H' A U U' : Nat} (h : Ph n (tr + 1) ts (p :: F') G H A U) (new : List Pkt) (hH : H ≤ H') (hn : p.bare = false → p.number = (H : Int) + 1 → H' = H + 1) (hl : new.length + U' ≤ U + 1) (hq : p.bare = false → ∃ l q, new = l ++ [q] ∧ q.ack = (H' : Int)) : Ph n tr ts F' (G ++ new) H' A U' := by
  rcases h with ⟨i, L, R, h1, h2, h3, h4, h5, h6, h7⟩ | ⟨k, q, h1, h2, h3⟩ | h
  · match L, h2 with
    | [], h2 => simp only [List.length_nil] at h2; omega
    | p' :: L', h2 =>
      simp only [List.cons_append, List.cons.injEq] at h1
      obtain ⟨rfl, rfl⟩ := h1
      obtain ⟨hb, hnum⟩ := h5 0 p rfl
      simp only [List.length_cons] at h2
      have hi : i + 1 ≤ H' := by
        by_cases he : i = H
        · have := hn hb (by rw [hnum, he]; simp)
          omega
        · omega
      by_cases he : i + 1 < n
      · refine .inl ⟨i + 1, L', R, rfl, by omega, he, hi, fun k q hk => ?_, by rw [List.length_append]; omega, by omega⟩
        obtain ⟨z1, z2⟩ := h5 (k + 1) q (by simpa using hk)
        exact ⟨z1, by rw [z2]; omega⟩
      · obtain ⟨l, q, e1, e2⟩ := hq hb
        refine .inr (.inl ⟨G.length + l.length, q, ?_, by omega, ?_⟩)
        · rw [e1, ← List.append_assoc, List.getElem?_append_right (by simp)]
          simp
        · have : new.length = l.length + 1 := by rw [e1]; simp
          omega
  · exact .inr (.inl ⟨k, q, by rw [List.getElem?_append_left (List.getElem?_eq_some_iff.1 h1).1]; exact h1, h2, h3⟩)
  · exact .inr (.inr h)
theorem Ph.recv0 {n tr ts : Nat} {G : List Pkt} {H A U : Nat} (h : Ph n (tr + 1) ts [] G H A U) : Ph n tr ts [] G H A U := by
  rcases h with ⟨i, L, R, h1, h2, h3, h4, h5, h6, h7⟩ | h | h
  · have : L = [] := by
      cases L with
      | nil => rfl
      | cons x l => simp at h1
    subst this
    simp only [List.length_nil] at h2
    omega
  · exact .inr (.inl h)
  · exact .inr (.inr h)

/-- the first packet that is on the way to end 0 comes -/
def Cb.come (c : Cb) : Cb := match c.f0 with
  | [] => c
  | p :: L => { c with e0 := c.e0.hearL p, f0 := L, f1 := c.f1 ++ c.e0.hearP p, t0 := if c.e0.told p = true then c.t0 ++ [c.e0.hearF p] else c.t0 }
/-- within a round: n0 and n1 were sent at its start -/
def Rnd (R n0 r0 s0 n1 r1 s1 : Nat) (c : Cb) : Prop :=
  c.s0.length + c.s1.length ≤ 40 ∧ min c.s0.length (8 * R) ≤ n0 ∧ min c.s1.length (8 * R) ≤ n1 ∧ ∃ N0 A0 H0 N1 A1 H1, OnceI c N0 A0 H0 N1 A1 H1 ∧ Ph n0 r0 s0 c.f1 c.f0 H0 A0 (c.s1.length - N1) ∧ Ph n1 r1 s1 c.f0 c.f1 H1 A1 (c.s0.length - N0)
theorem OnceI.turn {c : Cb} {N0 A0 H0 N1 A1 H1 : Nat} (k : OnceI c N0 A0 H0 N1 A1 H1) : OnceI c.turn N1 A1 H1 N0 A0 H0 := ⟨k.d1, k.d0, k.p1, k.p0, k.k1, k.k0, k.g1, k.g0⟩
theorem Rnd.turn {R n0 r0 s0 n1 r1 s1 : Nat} {c : Cb} (h : Rnd R n0 r0 s0 n1 r1 s1 c) : Rnd R n1 r1 s1 n0 r0 s0 c.turn := by
  obtain ⟨hE, m0, m1, N0, A0, H0, N1, A1, H1, k, h1, h2⟩ := h
  exact ⟨by show c.s1.length + c.s0.length ≤ 40; omega, m1, m0, N1, A1, H1, N0, A0, H0, k.turn, h2, h1⟩
theorem Rnd.once {R n0 r0 s0 n1 r1 s1 : Nat} {c : Cb} (h : Rnd R n0 r0 s0 n1 r1 s1 c) : Once 40 c := by
  obtain ⟨hE, -, -, N0, A0, H0, N1, A1, H1, k, -⟩ := h
  exact ⟨hE, _, _, _, _, _, _, k⟩
theorem Rnd.come {R n0 r0 s0 n1 r1 s1 : Nat} {c : Cb} (h : Rnd R n0 r0 (s0 + 1) n1 (r1 + 1) s1 c) (ht : r0 ≤ s0 + 1) : Rnd R n0 r0 s0 n1 r1 s1 c.come := by
  obtain ⟨hE, m0, m1, N0, A0, H0, N1, A1, H1, k, h1, h2⟩ := h
  unfold Cb.come
  cases hf : c.f0 with
  | nil =>
    rw [hf] at h1 h2
    simp only
    refine ⟨hE, m0, m1, N0, A0, H0, N1, A1, H1, k, ?_, ?_⟩
    · rw [hf]; exact h1.send0 ht
    · rw [hf]; exact h2.recv0
  | cons p L =>
    simp only
    obtain ⟨N0', A0', H1', k', g1, g2, g3, g4, g5, g6, g7⟩ := k.come (by omega) (p := p) (by rw [hf]; exact List.mem_cons_self) L (fun q hq => by rw [hf]; exact List.mem_cons_of_mem _ hq)
    rw [hf] at h1 h2
    refine ⟨hE, m0, m1, N0', A0', H0, N1, A1, H1', k', h1.send _ g1 g3 ht, h2.recv _ g4 g5 ?_ g7⟩
    have := k'.d0.nS
    have hs : N0' ≤ c.s0.length := this
    show (c.e0.hearP p).length + (c.s0.length - N0') ≤ c.s0.length - N0 + 1
    omega
/-- both ends tick, and nothing else is on the way -/
theorem OnceI.ticks {c : Cb} {R N0 A0 H0 N1 A1 H1 : Nat} (k : OnceI c N0 A0 H0 N1 A1 H1) (hE : c.s0.length + c.s1.length ≤ 40) (m0 : min c.s0.length (8 * R) ≤ N0) (m1 : min c.s1.length (8 * R) ≤ N1) :
    Rnd R N0 60 60 N1 60 60 { c with f0 := c.e1.tickP, f1 := c.e0.tickP } := by
  have o : Once 40 c := ⟨hE, _, _, _, _, _, _, k⟩
  have hP : ∀ {a b : Lk} {S T : List Fr} {F G : List Pkt} {N A H : Nat}, Dir a b S T F G N A H → a.check = 0 → a.epoch = 3 → S.length ≤ 40 → a.tickP.length ≤ 8 ∧ (A < N → a.tickP = a.pks 0) := by
    intro a b S T F G N A H d h0 he _
    have hl := d.sentLen
    have hw := d.win
    have e : a.tickP = if a.sent = [] then [a.barePk] else a.pks 0 := by
      unfold Lk.tickP
      rw [h0, if_neg (by simp), if_neg (by rw [he]; decide)]
    refine ⟨?_, fun h => ?_⟩
    · rw [e]
      split
      · simp
      · unfold Lk.pks
        rw [List.length_map, List.length_range]
        omega
    · rw [e, if_neg (fun h' => by rw [h'] at hl; simp at hl; omega)]
  obtain ⟨c0, c1, -⟩ := o.ok (by omega)
  obtain ⟨t0, t0'⟩ := hP k.d0 c0 k.p0 (by omega)
  obtain ⟨t1, t1'⟩ := hP k.d1 c1 k.p1 (by omega)
  have hph : ∀ {a b : Lk} {S T : List Fr} {F G G' : List Pkt} {N A H U : Nat}, Dir a b S T F G N A H → a.tickP.length ≤ 8 → (A < N → a.tickP = a.pks 0) → G'.length ≤ 8 → U ≤ 32 → Ph N 60 60 a.tickP G' H A U := by
    intro a b S T F G G' N A H U d h0 h1 h2 h3
    by_cases hA : A < N
    · refine .inl ⟨A, a.pks 0, [], by rw [h1 hA]; simp, ?_, hA, d.aH, fun i p hi => ?_, by have := d.win; omega, by omega⟩
      · unfold Lk.pks
        rw [List.length_map, List.length_range, Nat.sub_zero, d.sentLen]
      · unfold Lk.pks at hi
        rw [List.getElem?_map] at hi
        obtain ⟨j, hj, rfl⟩ := Option.map_eq_some_iff.1 hi
        rw [List.getElem?_range (by
          have := (List.getElem?_eq_some_iff.1 hj).1
          simpa using this)] at hj
        cases hj
        refine ⟨rfl, ?_⟩
        show a.next - a.sent.length + ((0 + i : Nat) : Int) = _
        rw [d.sentLen, d.nx]
        push_cast
        omega
    · exact .inr (.inr (by omega))
  have u0 : c.s0.length - N0 ≤ 32 := by
    have := k.d0.full
    omega
  have u1 : c.s1.length - N1 ≤ 32 := by
    have := k.d1.full
    omega
  obtain ⟨b1, -⟩ := (o.lost [] (fun q hq => by cases hq)).turn.lost [] (fun q hq => by cases hq)
  have kk : OnceI { c with f0 := c.e1.tickP, f1 := c.e0.tickP } N0 A0 H0 N1 A1 H1 := by
    obtain ⟨n1, n2, n3, n4, n5, n6⟩ := k.nums (E := 40) hE (by omega)
    have hnew : ∀ {a b : Lk} {S T : List Fr} {F G : List Pkt} {N A H : Nat}, Dir a b S T F G N A H → a.check = 0 → a.epoch = 3 → S.length ≤ 500 → 0 ≤ a.heard → a.heard ≤ 1000 → (∀ f ∈ S, FrOk f) → ∀ q ∈ a.tickP, PkOk q ∧ q.ack = a.heard ∧ (q.bare = true ∨ ∃ j : Nat, q.number = (j : Int) + 1 ∧ j < N ∧ S[j]? = some q.f) := by
      intro a b S T F G N A H d h0 he hl hh hh' hg q hq
      have e : a.tickP = if a.sent = [] then [a.barePk] else a.pks 0 := by
        unfold Lk.tickP
        rw [h0, if_neg (by simp), if_neg (by rw [he]; decide)]
      rw [e] at hq
      split at hq
      · rw [List.mem_singleton] at hq
        subst hq
        refine ⟨?_, rfl, .inl rfl⟩
        unfold Lk.barePk
        rw [he]
        exact bare_ok hh hh'
      · obtain ⟨z1, z2, z3, z4⟩ := d.pks 0 q hq
        exact ⟨d.pksOk hg (by omega) he hh hh' 0 q hq, z3, .inr z4⟩
    have w0 := hnew k.d0 c0 k.p0 n5 n1 n2 k.g0
    have w1 := hnew k.d1 c1 k.p1 n6 n3 n4 k.g1
    exact ⟨k.d0.on (fun q hq => .inr (w0 q hq).2.2) (fun q hq => .inr (w1 q hq).2.1), k.d1.on (fun q hq => .inr (w1 q hq).2.2) (fun q hq => .inr (w0 q hq).2.1), k.p0, k.p1, (fun q hq => (w1 q hq).1), (fun q hq => (w0 q hq).1), k.g0, k.g1⟩
  exact ⟨hE, m0, m1, N0, A0, H0, N1, A1, H1, kk, hph k.d0 t0 t0' t1 u1, hph k.d1 t1 t1' t0 u0⟩
/-- what stands behind r rounds -/
def Rounds (r : Nat) (c : Cb) : Prop := c.s0.length + c.s1.length ≤ 40 ∧ ∃ N0 A0 H0 N1 A1 H1, OnceI c N0 A0 H0 N1 A1 H1 ∧ min c.s0.length (8 * r) ≤ A0 ∧ min c.s1.length (8 * r) ≤ A1
theorem Rounds.once {r : Nat} {c : Cb} (h : Rounds r c) : Once 40 c := by
  obtain ⟨hE, N0, A0, H0, N1, A1, H1, k, -⟩ := h
  exact ⟨hE, _, _, _, _, _, _, k⟩
theorem Rounds.start {c : Cb} (h : Once 40 c) : Rounds 0 c := by
  obtain ⟨hE, N0, A0, H0, N1, A1, H1, k⟩ := h
  exact ⟨hE, N0, A0, H0, N1, A1, H1, k, by omega, by omega⟩
/-- a round begins: what it must bring is known -/
theorem Rounds.begin {r : Nat} {c : Cb} (h : Rounds r c) : ∃ n0 n1, Rnd (r + 1) n0 60 60 n1 60 60 { c with f0 := c.e1.tickP, f1 := c.e0.tickP } := by
  obtain ⟨hE, N0, A0, H0, N1, A1, H1, k, h1, h2⟩ := h
  refine ⟨N0, N1, k.ticks hE ?_ ?_⟩
  · have := k.d0.full
    have := k.d0.nS
    omega
  · have := k.d1.full
    have := k.d1.nS
    omega
theorem Rnd.done {n0 n1 r : Nat} {c : Cb} (h : Rnd r n0 0 0 n1 0 0 c) : Rounds r c := by
  obtain ⟨hE, h0, h1, N0, A0, H0, N1, A1, H1, k, g1, g2⟩ := h
  have := g1.done
  have := g2.done
  exact ⟨hE, N0, A0, H0, N1, A1, H1, k, by omega, by omega⟩
/-- all is told, and known to be -/
theorem Rounds.all {c : Cb} (h : Rounds 12 c) : c.t0.length = c.s1.length ∧ c.t1.length = c.s0.length ∧ c.e0.sent.length = 0 ∧ c.e1.sent.length = 0 := by
  obtain ⟨hE, N0, A0, H0, N1, A1, H1, k, h0, h1⟩ := h
  have a1 := k.d0.aH
  have a2 := k.d0.hN
  have a3 := k.d0.nS
  have a4 := k.d0.sentLen
  have b1 := k.d1.aH
  have b2 := k.d1.hN
  have b3 := k.d1.nS
  have b4 := k.d1.sentLen
  refine ⟨?_, ?_, by omega, by omega⟩
  · rw [k.d1.told, List.length_take]; omega
  · rw [k.d0.told, List.length_take]; omega
end Go.Proofs.YtkhacogeffidoaaDoor
