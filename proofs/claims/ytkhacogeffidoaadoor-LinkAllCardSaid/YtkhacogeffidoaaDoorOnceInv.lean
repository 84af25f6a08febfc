/- Plain: what stands at a cable, whatever is sent, comes, is lost or comes twice. No program in sight. -/
import Derived.Test.YtkhacogeffidoaaDoorOnceLaw
import Derived.Test.YtkhacogeffidoaaDoorLkTick
import Derived.Test.YtkhacogeffidoaaDoorCab
set_option linter.unusedVariables false
set_option linter.unusedSimpArgs false
namespace Go.Proofs.YtkhacogeffidoaaDoor
open Go.RowKit

def PkOk (p : Pkt) : Prop := p.epoch = 3 ∧ p.check = 0 ∧ p.fits
def FrOk (f : Fr) : Prop := f.check = 0 ∧ f.fits
theorem bare_ok {h : Int} (h0 : 0 ≤ h) (h1 : h ≤ 1000) : PkOk ⟨3, 0, true, h, bareFr⟩ := by
  have a1 : num 3 = true := by simp [num]
  have a2 : num 0 = true := by simp [num]
  have a3 : num h = true := by simp [num]; omega
  refine ⟨rfl, ?_, by unfold I64; simp, by unfold I64; simp, by unfold I64; simp only; omega, by unfold I64; simp [bareFr], by unfold I64; simp [bareFr], by unfold I64; simp [bareFr], by simp [bareFr, noText_size]⟩
  simp [Pkt.check, checkPacket, a1, a2, a3, emptyF, bareFr, emptyS_noText]
theorem full_ok {h : Int} {j : Nat} {f : Fr} (h0 : 0 ≤ h) (h1 : h ≤ 1000) (hj : j ≤ 1000) (hf : FrOk f) : PkOk ⟨3, (j : Int) + 1, false, h, f⟩ := by
  have a1 : num 3 = true := by simp [num]
  have a2 : num ((j : Int) + 1) = true := by simp [num]; omega
  have a3 : num h = true := by simp [num]; omega
  refine ⟨rfl, ?_, by unfold I64; simp, by unfold I64; simp only; omega, by unfold I64; simp only; omega, hf.2⟩
  unfold Pkt.check checkPacket
  simp only
  rw [a1, a2, a3, if_neg (by simp), if_neg (by simp), if_neg (by omega)]
  exact hf.1
/-- the packets of a link whose direction stands -/
theorem Dir.pksOk {a b : Lk} {S T : List Fr} {F G : List Pkt} {N A H : Nat} (d : Dir a b S T F G N A H) (hS : ∀ f ∈ S, FrOk f) (hl : S.length ≤ 1000) (he : a.epoch = 3) (h0 : 0 ≤ a.heard) (h1 : a.heard ≤ 1000) (n : Nat) : ∀ p ∈ a.pks n, PkOk p := by
  intro p hp
  obtain ⟨q1, q2, q3, j, j1, j2, j3⟩ := d.pks n p hp
  have h2 := d.nS
  have hm := List.mem_of_getElem? j3
  obtain ⟨pe, pn, pb, pk, pf⟩ := p
  simp only at q1 q2 q3 j1 j3 hm
  subst q1 q2 q3 j1
  rw [he]
  exact full_ok h0 h1 (by omega) (hS _ hm)
structure OnceI (c : Cb) (N0 A0 H0 N1 A1 H1 : Nat) : Prop where
  d0 : Dir c.e0 c.e1 c.s0 c.t1 c.f1 c.f0 N0 A0 H0
  d1 : Dir c.e1 c.e0 c.s1 c.t0 c.f0 c.f1 N1 A1 H1
  p0 : c.e0.epoch = 3
  p1 : c.e1.epoch = 3
  k0 : ∀ p ∈ c.f0, PkOk p
  k1 : ∀ p ∈ c.f1, PkOk p
  g0 : ∀ f ∈ c.s0, FrOk f
  g1 : ∀ f ∈ c.s1, FrOk f
def Once (E : Nat) (c : Cb) : Prop := c.s0.length + c.s1.length ≤ E ∧ ∃ N0 A0 H0 N1 A1 H1, OnceI c N0 A0 H0 N1 A1 H1
/-- the other end's view -/
def Cb.turn (c : Cb) : Cb := ⟨c.e1, c.e0, c.f1, c.f0, c.s1, c.s0, c.t1, c.t0⟩
theorem Once.turn {E : Nat} {c : Cb} (h : Once E c) : Once E c.turn := by
  obtain ⟨hE, N0, A0, H0, N1, A1, H1, k⟩ := h
  exact ⟨by show c.s1.length + c.s0.length ≤ E; omega, N1, A1, H1, N0, A0, H0, ⟨k.d1, k.d0, k.p1, k.p0, k.k1, k.k0, k.g1, k.g0⟩⟩
theorem OnceI.nums {c : Cb} {N0 A0 H0 N1 A1 H1 : Nat} (k : OnceI c N0 A0 H0 N1 A1 H1) {E : Nat} (hE : c.s0.length + c.s1.length ≤ E) (h : E ≤ 500) : 0 ≤ c.e0.heard ∧ c.e0.heard ≤ 1000 ∧ 0 ≤ c.e1.heard ∧ c.e1.heard ≤ 1000 ∧ c.s0.length ≤ 500 ∧ c.s1.length ≤ 500 := by
  have a1 := k.d0.heard
  have a2 := k.d1.heard
  have a3 := k.d0.hN
  have a4 := k.d1.hN
  have a5 := k.d0.nS
  have a6 := k.d1.nS
  omega
theorem Once.ok {E : Nat} {c : Cb} (h : Once E c) (hE : E ≤ 500) : c.e0.check = 0 ∧ c.e1.check = 0 ∧ c.e0.fits ∧ c.e1.fits ∧ c.e0.queue.length ≤ 500 ∧ c.e1.queue.length ≤ 500 ∧ c.s0.length ≤ 500 ∧ c.s1.length ≤ 500 ∧ c.t0.length ≤ 500 ∧ c.t1.length ≤ 500 := by
  obtain ⟨hs, N0, A0, H0, N1, A1, H1, k⟩ := h
  obtain ⟨n1, n2, n3, n4, n5, n6⟩ := k.nums hs hE
  have a1 := k.d0.nx
  have a2 := k.d1.nx
  have a3 := k.d0.nS
  have a4 := k.d1.nS
  have p0 := k.p0
  have p1 := k.p1
  refine ⟨k.d0.ok (fun f hf => (k.g0 f hf).1) (by omega) k.p0 n1 n2, k.d1.ok (fun f hf => (k.g1 f hf).1) (by omega) k.p1 n3 n4, ⟨by unfold I64; omega, by unfold I64; omega, by unfold I64; omega⟩, ⟨by unfold I64; omega, by unfold I64; omega, by unfold I64; omega⟩, ?_, ?_, n5, n6, ?_, ?_⟩
  · rw [k.d0.queue, List.length_drop]; omega
  · rw [k.d1.queue, List.length_drop]; omega
  · rw [k.d1.told, List.length_take]; omega
  · rw [k.d0.told, List.length_take]; omega
/-- end 0 sends -/
theorem Once.send {E : Nat} {c : Cb} (h : Once E c) (hE : E ≤ 400) {f : Fr} (hf : FrOk f) :
    c.e0.sendE f = 0 ∧ Once (E + 1) { c with e0 := c.e0.sendL f, f1 := c.f1 ++ c.e0.sendP f, s0 := c.s0 ++ [f] } ∧ (c.e0.sendP f).length ≤ 8 := by
  obtain ⟨q1, q2, -⟩ := h.ok (by omega)
  obtain ⟨hs, N0, A0, H0, N1, A1, H1, k⟩ := h
  obtain ⟨n1, n2, n3, n4, n5, n6⟩ := k.nums hs (by omega)
  have a1 := k.d0.nx
  have a3 := k.d0.nS
  have hE0 : c.e0.sendE f = 0 := by
    unfold Lk.sendE
    rw [q1, if_neg (by simp), if_neg (by rw [k.p0]; decide), hf.1, if_neg (by simp), if_neg (by omega)]
  have hL : c.e0.sendL f = c.e0.push f := if_pos hE0
  have hP : c.e0.sendP f = (c.e0.push f).pks c.e0.sent.length := if_pos hE0
  obtain ⟨d, e1, e2⟩ := k.d0.send f (by omega)
  have hg : ∀ q ∈ c.s0 ++ [f], FrOk q := fun q hq => by
    rcases List.mem_append.1 hq with hq | hq
    · exact k.g0 q hq
    · rw [List.mem_singleton] at hq; rw [hq]; exact hf
  have hlen : (c.s0 ++ [f]).length = c.s0.length + 1 := by simp
  rw [hL, hP]
  refine ⟨hE0, ⟨by show (c.s0 ++ [f]).length + c.s1.length ≤ E + 1; rw [hlen]; omega, _, A0, H0, N1, A1, H1, ⟨d, ?_, by rw [← k.p0]; exact e1, k.p1, k.k0, ?_, hg, k.g1⟩⟩, ?_⟩
  · refine (k.d1.other (b' := c.e0.push f) e2).on (fun p hp => .inl hp) (fun p hp => ?_)
    rcases List.mem_append.1 hp with hp | hp
    · exact .inl hp
    · exact .inr (d.pks _ p hp).2.2.1
  · intro p hp
    rcases List.mem_append.1 hp with hp | hp
    · exact k.k1 p hp
    · exact d.pksOk hg (by rw [hlen]; omega) (e1.trans k.p0) (by rw [e2]; exact n1) (by rw [e2]; exact n2) _ p hp
  · unfold Lk.pks
    rw [List.length_map, List.length_range]
    have := d.sentLen
    have := d.win
    omega
/-- a packet comes to end 0; what is on the way to it then is L (the packet is taken off, or stays) -/
theorem Once.come {E : Nat} {c : Cb} (h : Once E c) (hE : E ≤ 400) {p : Pkt} (hp : p ∈ c.f0) (L : List Pkt) (hL : ∀ q ∈ L, q ∈ c.f0) :
    c.e0.hearE p = 0 ∧ PkOk p ∧ Once E { c with e0 := c.e0.hearL p, f0 := L, f1 := c.f1 ++ c.e0.hearP p, t0 := if c.e0.told p = true then c.t0 ++ [c.e0.hearF p] else c.t0 } ∧ (c.e0.hearP p).length ≤ 9 := by
  obtain ⟨q1, q2, -⟩ := h.ok (by omega)
  obtain ⟨hs, N0, A0, H0, N1, A1, H1, k⟩ := h
  obtain ⟨n1, n2, n3, n4, n5, n6⟩ := k.nums hs (by omega)
  have hpk := k.k0 p hp
  have hE0 : c.e0.hearE p = 0 := by
    unfold Lk.hearE
    rw [q1, hpk.2.1, if_neg (by simp), if_neg (by simp), if_neg (by rw [k.p0, hpk.1]; simp)]
  have hLL : c.e0.hearL p = (c.e0.behind p).filled := if_pos hE0
  have hT : c.e0.told p = c.e0.tells p := if_pos hE0
  have hPP : c.e0.hearP p = (c.e0.behind p).filled.pks (c.e0.acked p.ack).length ++ (if p.bare then [] else [(c.e0.behind p).filled.barePk]) := if_pos hE0
  have hFF : (if c.e0.told p = true then c.t0 ++ [c.e0.hearF p] else c.t0) = (if c.e0.tells p = true then c.t0 ++ [p.f] else c.t0) := by
    unfold Lk.hearF
    rw [hT]
    by_cases ht : c.e0.tells p = true
    · rw [if_pos ht, if_pos ht, if_pos ht]
    · rw [if_neg ht, if_neg ht]
  have hbh : c.e0.behind p = Lk.mk c.e0.epoch c.e0.next (c.e0.acked p.ack) c.e0.queue (if c.e0.tells p then c.e0.heard + 1 else c.e0.heard) := rfl
  obtain ⟨N0', A0', da, ea, eh, -, -, -⟩ := k.d0.acks p hp (by omega) (if c.e0.tells p then c.e0.heard + 1 else c.e0.heard)
  rw [← hbh] at da ea eh
  obtain ⟨H1', dh, -, ehh, -, -⟩ := k.d1.hears (b' := (c.e0.behind p).filled) p hp eh (by omega)
  rw [List.append_nil] at dh
  have hH1 := dh.hN
  have hN1 := dh.nS
  have hpks := da.pks (c.e0.acked p.ack).length
  have hnew : ∀ q ∈ c.e0.hearP p, PkOk q ∧ q.ack = (c.e0.behind p).filled.heard := by
    intro q hq
    rw [hPP] at hq
    rcases List.mem_append.1 hq with hq | hq
    · exact ⟨da.pksOk k.g0 (by omega) (ea.trans k.p0) (by omega) (by omega) _ q hq, (hpks q hq).2.2.1⟩
    · split at hq
      · cases hq
      · rw [List.mem_singleton] at hq
        subst hq
        refine ⟨?_, rfl⟩
        unfold Lk.barePk
        rw [ea, k.p0]
        exact bare_ok (by omega) (by omega)
  rw [hFF, hLL]
  refine ⟨hE0, hpk, ⟨hs, N0', A0', H0, N1, A1, H1', ⟨?_, ?_, ea.trans k.p0, k.p1, (fun q hq => k.k0 q (hL q hq)), ?_, k.g0, k.g1⟩⟩, ?_⟩
  · refine da.on (fun q hq => ?_) (fun q hq => .inl (hL q hq))
    rcases List.mem_append.1 hq with hq | hq
    · exact .inl (List.mem_append_left _ hq)
    · rw [hPP] at hq
      rcases List.mem_append.1 hq with hq | hq
      · exact .inl (List.mem_append_right _ hq)
      · split at hq
        · cases hq
        · rw [List.mem_singleton] at hq
          subst hq
          exact .inr (.inl rfl)
  · refine dh.on (fun q hq => .inl (hL q hq)) (fun q hq => ?_)
    rcases List.mem_append.1 hq with hq | hq
    · exact .inl hq
    · exact .inr (hnew q hq).2
  · intro q hq
    rcases List.mem_append.1 hq with hq | hq
    · exact k.k1 q hq
    · exact (hnew q hq).1
  · rw [hPP, List.length_append]
    have hl : ((c.e0.behind p).filled.pks (c.e0.acked p.ack).length).length ≤ 8 := by
      unfold Lk.pks
      rw [List.length_map, List.length_range]
      have := da.sentLen
      have := da.win
      omega
    split
    · simp only [List.length_nil]; omega
    · simp only [List.length_singleton]; omega
/-- both ends tick -/
theorem Once.ticks {E : Nat} {c : Cb} (h : Once E c) (hE : E ≤ 400) : Once E { c with f1 := c.f1 ++ c.e0.tickP } ∧ 0 < c.e0.tickP.length ∧ c.e0.tickP.length ≤ 8 := by
  obtain ⟨q1, q2, -⟩ := h.ok (by omega)
  obtain ⟨hs, N0, A0, H0, N1, A1, H1, k⟩ := h
  obtain ⟨n1, n2, n3, n4, n5, n6⟩ := k.nums hs (by omega)
  have hP : c.e0.tickP = if c.e0.sent = [] then [c.e0.barePk] else c.e0.pks 0 := by
    unfold Lk.tickP
    rw [q1, if_neg (by simp), if_neg (by rw [k.p0]; decide)]
  have hl := k.d0.sentLen
  have hw := k.d0.win
  have hnew : ∀ q ∈ c.e0.tickP, PkOk q ∧ q.ack = c.e0.heard ∧ (q.bare = true ∨ ∃ j : Nat, q.number = (j : Int) + 1 ∧ j < N0 ∧ c.s0[j]? = some q.f) := by
    intro q hq
    rw [hP] at hq
    split at hq
    · rw [List.mem_singleton] at hq
      subst hq
      refine ⟨?_, rfl, .inl rfl⟩
      unfold Lk.barePk
      rw [k.p0]
      exact bare_ok n1 n2
    · obtain ⟨z1, z2, z3, z4⟩ := k.d0.pks 0 q hq
      exact ⟨k.d0.pksOk k.g0 (by omega) k.p0 n1 n2 0 q hq, z3, .inr z4⟩
  refine ⟨⟨hs, N0, A0, H0, N1, A1, H1, ⟨k.d0.on (fun q hq => ?_) (fun q hq => .inl hq), k.d1.on (fun q hq => .inl hq) (fun q hq => ?_), k.p0, k.p1, k.k0, ?_, k.g0, k.g1⟩⟩, ?_, ?_⟩
  · rcases List.mem_append.1 hq with hq | hq
    · exact .inl hq
    · exact .inr (hnew q hq).2.2
  · rcases List.mem_append.1 hq with hq | hq
    · exact .inl hq
    · exact .inr (hnew q hq).2.1
  · intro q hq
    rcases List.mem_append.1 hq with hq | hq
    · exact k.k1 q hq
    · exact (hnew q hq).1
  · rw [hP]
    split
    · simp
    · rename_i h
      unfold Lk.pks
      rw [List.length_map, List.length_range]
      have := List.length_pos_iff.2 h
      omega
  · rw [hP]
    split
    · simp
    · unfold Lk.pks
      rw [List.length_map, List.length_range]
      omega
/-- some packets are lost -/
theorem Once.lost {E : Nat} {c : Cb} (h : Once E c) (L : List Pkt) (hL : ∀ q ∈ L, q ∈ c.f0) : Once E { c with f0 := L } := by
  obtain ⟨hs, N0, A0, H0, N1, A1, H1, k⟩ := h
  exact ⟨hs, N0, A0, H0, N1, A1, H1, ⟨k.d0.on (fun q hq => .inl hq) (fun q hq => .inl (hL q hq)), k.d1.on (fun q hq => .inl (hL q hq)) (fun q hq => .inl hq), k.p0, k.p1, fun q hq => k.k0 q (hL q hq), k.k1, k.g0, k.g1⟩⟩
/-- what was told was sent, in its order -/
theorem Once.right {E : Nat} {c : Cb} (h : Once E c) : c.t0.length ≤ c.s1.length ∧ ∀ j (hj : j < c.t0.length) (hj' : j < c.s1.length), c.t0[j] = c.s1[j] := by
  obtain ⟨hs, N0, A0, H0, N1, A1, H1, k⟩ := h
  have ht := k.d1.told
  have hl : c.t0.length ≤ c.s1.length := by rw [ht, List.length_take]; omega
  refine ⟨hl, fun j hj hj' => ?_⟩
  have : c.t0[j]? = c.s1[j]? := by
    rw [ht]
    rw [List.getElem?_take_of_lt]
    rw [ht, List.length_take] at hj
    omega
  rw [List.getElem?_eq_getElem hj, List.getElem?_eq_getElem hj'] at this
  exact Option.some.inj this
theorem Once.start : Once 0 (⟨openLk 3, openLk 3, [], [], [], [], [], []⟩ : Cb) := by
  have e : openLk 3 = ⟨3, 1, [], [], 0⟩ := by unfold openLk; rw [if_neg (by omega)]
  rw [e]
  have d : Dir ⟨3, 1, [], [], 0⟩ ⟨3, 1, [], [], 0⟩ [] [] [] [] 0 0 0 := ⟨rfl, by simp, by omega, by omega, (fun h => by simp at h), rfl, rfl, rfl, rfl, by omega, by omega, (fun p hp => by cases hp), (fun p hp => by cases hp)⟩
  exact ⟨by simp, 0, 0, 0, 0, 0, 0, ⟨d, d, rfl, rfl, (fun p hp => by cases hp), (fun p hp => by cases hp), (fun p hp => by cases hp), (fun p hp => by cases hp)⟩⟩
end Go.Proofs.YtkhacogeffidoaaDoor
