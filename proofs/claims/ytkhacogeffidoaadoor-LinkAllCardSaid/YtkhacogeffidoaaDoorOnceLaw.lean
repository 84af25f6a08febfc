/- Plain: one direction of a cable: what was sent, what is on the way, what was told. No program in sight. -/
import Derived.Test.YtkhacogeffidoaaDoorLkHear
import Derived.Test.YtkhacogeffidoaaDoorLkCheck2
set_option linter.unusedVariables false
set_option linter.unusedSimpArgs false
namespace Go.Proofs.YtkhacogeffidoaaDoor
open Go.RowKit

/-- filling the window: of S the first N are sent, the first A of these known to have come -/
theorem fill_win (S : List Fr) : ∀ (m N A : Nat) (n : Int), S.length - N = m → A ≤ N → N ≤ S.length → N - A ≤ 8 → n + m < 1048576 →
    fillL ((S.take N).drop A) (S.drop N) n = ((S.take (max N (min S.length (A + 8)))).drop A, S.drop (max N (min S.length (A + 8))), n + ((max N (min S.length (A + 8)) - N : Nat) : Int))
  | 0, N, A, n, hm, hA, hN, hw, _ => by
    have e : N = S.length := by omega
    have e2 : max N (min S.length (A + 8)) = N := by omega
    rw [e2, List.drop_of_length_le (by omega : S.length ≤ N), fillL_nil]
    simp
  | m + 1, N, A, n, hm, hA, hN, hw, hb => by
    have hlt : N < S.length := by omega
    have hl : ((S.take N).drop A).length = N - A := by rw [List.length_drop, List.length_take]; omega
    rw [List.drop_eq_getElem_cons hlt]
    by_cases h8 : N - A < 8
    · rw [fillL_go (by rw [hl]; exact h8) (by omega)]
      have e3 : (S.take N).drop A ++ [S[N]] = (S.take (N + 1)).drop A := by
        rw [List.take_succ_eq_append_getElem hlt, List.drop_append_of_le_length (by rw [List.length_take]; omega)]
      rw [e3, fill_win S m (N + 1) A (n + 1) (by omega) (by omega) (by omega) (by omega) (by omega)]
      have e4 : max (N + 1) (min S.length (A + 8)) = max N (min S.length (A + 8)) := by omega
      rw [e4]
      congr 2
      omega
    · have e5 : max N (min S.length (A + 8)) = N := by omega
      rw [fillL_no (by rw [hl]; omega), e5]
      simp only [Nat.sub_self, List.drop_eq_getElem_cons hlt]
      simp
/-- a direction: S sent, T told, N of S on the way, A of these known; F there, G back -/
structure Dir (a b : Lk) (S T : List Fr) (F G : List Pkt) (N A H : Nat) : Prop where
  nx : a.next = 1 + (N : Int)
  nS : N ≤ S.length
  aN : A ≤ N
  win : N - A ≤ 8
  full : N < S.length → N - A = 8
  sent : a.sent = (S.take N).drop A
  queue : a.queue = S.drop N
  heard : b.heard = (H : Int)
  told : T = S.take H
  aH : A ≤ H
  hN : H ≤ N
  there : ∀ p ∈ F, p.bare = false → ∃ j : Nat, p.number = (j : Int) + 1 ∧ j < N ∧ S[j]? = some p.f
  back : ∀ p ∈ G, 0 ≤ p.ack ∧ p.ack ≤ (H : Int)
theorem Dir.sentLen {a b : Lk} {S T : List Fr} {F G : List Pkt} {N A H : Nat} (d : Dir a b S T F G N A H) : a.sent.length = N - A := by
  rw [d.sent, List.length_drop, List.length_take]
  have := d.nS
  omega
/-- the packets with those that were sent, from the n'th on -/
theorem Dir.pks {a b : Lk} {S T : List Fr} {F G : List Pkt} {N A H : Nat} (d : Dir a b S T F G N A H) (n : Nat) : ∀ p ∈ a.pks n, p.bare = false ∧ p.epoch = a.epoch ∧ p.ack = a.heard ∧ ∃ j : Nat, p.number = (j : Int) + 1 ∧ j < N ∧ S[j]? = some p.f := by
  intro p hp
  unfold Lk.pks at hp
  obtain ⟨i, hi, rfl⟩ := List.mem_map.1 hp
  have hi' := List.mem_range.1 hi
  have hl := d.sentLen
  have h1 := d.aN
  have h2 := d.nS
  refine ⟨rfl, rfl, rfl, A + (n + i), ?_, by omega, ?_⟩
  · show a.next - a.sent.length + ((n + i : Nat) : Int) = _
    rw [hl, d.nx]
    push_cast
    omega
  · show _ = some (a.sent.getD (n + i) bareFr)
    rw [d.sent, List.getD_eq_getElem?_getD, List.getElem?_drop, List.getElem?_take_of_lt (by omega)]
    have hlt : A + (n + i) < S.length := by omega
    rw [List.getElem?_eq_getElem hlt]
    rfl
/-- a frame more is sent -/
theorem Dir.send {a b : Lk} {S T : List Fr} {F G : List Pkt} {N A H : Nat} (d : Dir a b S T F G N A H) (f : Fr) (hS : S.length < 1000) :
    Dir (a.push f) b (S ++ [f]) T (F ++ (a.push f).pks a.sent.length) G (max N (min (S.length + 1) (A + 8))) A H ∧ (a.push f).epoch = a.epoch ∧ (a.push f).heard = a.heard := by
  have hq : (S ++ [f]).drop N = a.queue ++ [f] := by rw [d.queue, List.drop_append_of_le_length d.nS]
  have hs : ((S ++ [f]).take N).drop A = a.sent := by rw [d.sent, List.take_append_of_le_length d.nS]
  have h1 := d.aN
  have h2 := d.nS
  have h3 := d.win
  have hlen : (S ++ [f]).length = S.length + 1 := by simp
  have hf := fill_win (S ++ [f]) (S.length + 1 - N) N A a.next (by rw [hlen]) h1 (by rw [hlen]; omega) h3 (by rw [d.nx]; omega)
  rw [hq, hs, hlen] at hf
  have hp : a.push f = ⟨a.epoch, a.next + ((max N (min (S.length + 1) (A + 8)) - N : Nat) : Int), ((S ++ [f]).take (max N (min (S.length + 1) (A + 8)))).drop A, (S ++ [f]).drop (max N (min (S.length + 1) (A + 8))), a.heard⟩ := by
    unfold Lk.push Lk.filled
    simp only
    rw [hf]
  have d2 : Dir (a.push f) b (S ++ [f]) T F G (max N (min (S.length + 1) (A + 8))) A H := by
    rw [hp]
    refine ⟨?_, by rw [hlen]; omega, by omega, by omega, fun h => by rw [hlen] at h; omega, rfl, rfl, d.heard, ?_, d.aH, by have := d.hN; omega, fun p hp hb => ?_, d.back⟩
    · show a.next + _ = _
      rw [d.nx]; omega
    · rw [d.told, List.take_append_of_le_length (by have := d.hN; omega)]
    · obtain ⟨j, j1, j2, j3⟩ := d.there p hp hb
      exact ⟨j, j1, by omega, by rw [List.getElem?_append_left (by omega)]; exact j3⟩
  refine ⟨⟨d2.nx, d2.nS, d2.aN, d2.win, d2.full, d2.sent, d2.queue, d2.heard, d2.told, d2.aH, d2.hN, fun p hp hb => ?_, d2.back⟩, by rw [hp], by rw [hp]⟩
  rcases List.mem_append.1 hp with h | h
  · exact d2.there p h hb
  · exact (d2.pks _ p h).2.2.2
/-- what a packet from the other side tells the sender: how many came -/
theorem Dir.acks {a b : Lk} {S T : List Fr} {F G : List Pkt} {N A H : Nat} (d : Dir a b S T F G N A H) (p : Pkt) (hp : p ∈ G) (hS : S.length < 1000) (h' : Int) :
    ∃ N' A', Dir (Lk.mk a.epoch a.next (a.acked p.ack) a.queue h').filled b S T (F ++ (Lk.mk a.epoch a.next (a.acked p.ack) a.queue h').filled.pks (a.acked p.ack).length) G N' A' H ∧ (Lk.mk a.epoch a.next (a.acked p.ack) a.queue h').filled.epoch = a.epoch ∧ (Lk.mk a.epoch a.next (a.acked p.ack) a.queue h').filled.heard = h' ∧ A ≤ A' ∧ N ≤ N' ∧ (p.ack : Int) ≤ (A' : Int) := by
  obtain ⟨k0, k1⟩ := d.back p hp
  obtain ⟨k, hk⟩ : ∃ k : Nat, p.ack = (k : Int) := ⟨p.ack.toNat, by omega⟩
  have h1 := d.aN
  have h2 := d.nS
  have h3 := d.win
  have h4 := d.aH
  have h5 := d.hN
  have hl := d.sentLen
  have hack : a.acked p.ack = (S.take N).drop (max A k) := by
    unfold Lk.acked
    rw [hl, d.nx, hk]
    by_cases h : 1 + (N : Int) - ((N - A : Nat) : Int) ≤ (k : Int) ∧ (k : Int) < 1 + (N : Int)
    · rw [if_pos h, d.sent, List.drop_drop]
      congr 1
      omega
    · rw [if_neg h, d.sent]
      congr 1
      omega
  have hf := fill_win S (S.length - N) N (max A k) a.next rfl (by omega) h2 (by omega) (by rw [d.nx]; omega)
  have hp2 : (Lk.mk a.epoch a.next (a.acked p.ack) a.queue h').filled = ⟨a.epoch, a.next + ((max N (min S.length (max A k + 8)) - N : Nat) : Int), (S.take (max N (min S.length (max A k + 8)))).drop (max A k), S.drop (max N (min S.length (max A k + 8))), h'⟩ := by
    unfold Lk.filled
    simp only
    rw [hack, d.queue, hf]
  have d2 : Dir (Lk.mk a.epoch a.next (a.acked p.ack) a.queue h').filled b S T F G (max N (min S.length (max A k + 8))) (max A k) H := by
    rw [hp2]
    refine ⟨?_, by omega, by omega, by omega, fun h => by omega, rfl, rfl, d.heard, d.told, by omega, by omega, fun q hq hb => ?_, d.back⟩
    · show a.next + _ = _
      rw [d.nx]; omega
    · obtain ⟨j, j1, j2, j3⟩ := d.there q hq hb
      exact ⟨j, j1, by omega, j3⟩
  refine ⟨_, _, ⟨d2.nx, d2.nS, d2.aN, d2.win, d2.full, d2.sent, d2.queue, d2.heard, d2.told, d2.aH, d2.hN, fun q hq hb => ?_, d2.back⟩, by rw [hp2], by rw [hp2], by omega, by omega, by omega⟩
  rcases List.mem_append.1 hq with h | h
  · exact d2.there q h hb
  · exact (d2.pks _ q h).2.2.2
/-- a packet is heard: the next one is told -/
theorem Dir.hears {a b b' : Lk} {S T : List Fr} {F G : List Pkt} {N A H : Nat} (d : Dir a b S T F G N A H) (p : Pkt) (hp : p ∈ F) (hb' : b'.heard = if b.tells p then b.heard + 1 else b.heard) (hS : S.length < 1000) :
    ∃ H', Dir a b' S (if b.tells p then T ++ [p.f] else T) F (G ++ []) N A H' ∧ H ≤ H' ∧ b'.heard = (H' : Int) ∧ (b.tells p = true → H' = H + 1) ∧ (b.tells p = false → H' = H) := by
  rw [List.append_nil]
  by_cases ht : b.tells p = true
  · rw [if_pos ht] at hb' ⊢
    unfold Lk.tells at ht
    simp only [Bool.and_eq_true, Bool.not_eq_true', beq_iff_eq, decide_eq_true_eq] at ht
    obtain ⟨⟨h1, h2⟩, h3⟩ := ht
    obtain ⟨j, j1, j2, j3⟩ := d.there p hp h1
    have hj : j = H := by have := d.heard; omega
    subst hj
    have hjS := (List.getElem?_eq_some_iff.1 j3).1
    refine ⟨j + 1, ⟨d.nx, d.nS, d.aN, d.win, d.full, d.sent, d.queue, by rw [hb', d.heard]; push_cast; rfl, ?_, by have := d.aH; omega, by omega, d.there, fun q hq => ?_⟩, by omega, by rw [hb', d.heard]; push_cast; rfl, fun _ => rfl, fun h => ?_⟩
    · rw [d.told, List.take_succ_eq_append_getElem hjS, (List.getElem?_eq_some_iff.1 j3).2]
    · have := d.back q hq; push_cast; omega
    · unfold Lk.tells at h
      simp [h1, h2, h3] at h
  · rw [if_neg ht] at hb' ⊢
    refine ⟨H, ⟨d.nx, d.nS, d.aN, d.win, d.full, d.sent, d.queue, by rw [hb', d.heard], d.told, d.aH, d.hN, d.there, d.back⟩, Nat.le_refl _, by rw [hb', d.heard], fun h => absurd h ht, fun _ => rfl⟩
/-- fewer packets on the way, or others that may be -/
theorem Dir.on {a b : Lk} {S T : List Fr} {F G F' G' : List Pkt} {N A H : Nat} (d : Dir a b S T F G N A H) (hF : ∀ p ∈ F', p ∈ F ∨ p.bare = true ∨ ∃ j : Nat, p.number = (j : Int) + 1 ∧ j < N ∧ S[j]? = some p.f) (hG : ∀ p ∈ G', p ∈ G ∨ p.ack = b.heard) : Dir a b S T F' G' N A H :=
  ⟨d.nx, d.nS, d.aN, d.win, d.full, d.sent, d.queue, d.heard, d.told, d.aH, d.hN, (fun p hp hb => by
    rcases hF p hp with h | h | h
    · exact d.there p h hb
    · rw [h] at hb; cases hb
    · exact h), (fun p hp => by
    rcases hG p hp with h | h
    · exact d.back p h
    · have := d.heard; omega)⟩
/-- another receiver that heard as much -/
theorem Dir.other {a b b' : Lk} {S T : List Fr} {F G : List Pkt} {N A H : Nat} (d : Dir a b S T F G N A H) (h : b'.heard = b.heard) : Dir a b' S T F G N A H :=
  ⟨d.nx, d.nS, d.aN, d.win, d.full, d.sent, d.queue, h.trans d.heard, d.told, d.aH, d.hN, d.there, d.back⟩
/-- .. what is sent may be -/
theorem Dir.ok {a b : Lk} {S T : List Fr} {F G : List Pkt} {N A H : Nat} (d : Dir a b S T F G N A H) (hS : ∀ f ∈ S, f.check = 0) (hl : S.length ≤ 1000) (he : a.epoch = 3) (h0 : 0 ≤ a.heard) (h1 : a.heard ≤ 1000) : a.check = 0 := by
  have hsl := d.sentLen
  have h2 := d.nS
  have h3 := d.aN
  have h4 := d.win
  refine lk_make (by omega) (by omega) (by rw [d.nx]; omega) (by rw [d.nx]; omega) h0 (by omega) (by omega) (by rw [hsl, d.nx]; omega) (fun h => ?_) ?_ ?_ (fun h => by omega)
  · rw [d.queue, List.length_drop] at h
    rw [hsl]; exact d.full (by omega)
  · unfold frsOk
    rw [List.all_eq_true]
    intro f hf
    rw [d.sent] at hf
    rw [hS f (List.mem_of_mem_take (List.mem_of_mem_drop hf))]; rfl
  · unfold frsOk
    rw [List.all_eq_true]
    intro f hf
    rw [d.queue] at hf
    rw [hS f (List.mem_of_mem_drop hf)]; rfl
end Go.Proofs.YtkhacogeffidoaaDoor
