/- Proved: Luby of the program and Luby of the document answer the same number and the same error for every int; no condition. -/
import Derived.Test.YtkmnoiploeineaaPOrderLubysx1
namespace Go.Proofs.Ytkmnoiploeineaa.Pure
open Go.RowKit Go.Proofs.Ytkmnoiploeineaa.POrderLubys Go.Proofs.YtkmnoiploeineaaW.PrintWords Go.Proofs.YtkmnoiploeineaaW.PrintLast

theorem w64 (x : Int) (h0 : -9223372036854775808 ≤ x) (h1 : x < 9223372036854775808) : wrap64 x = x := by
  unfold wrap64; omega
theorem u64w (x : Int) (h0 : 0 ≤ x) (h1 : x ≤ 18446744073709551615) : IntKind.u64.wrap x = x := Go.IntWalk.u64_in x ⟨h0, h1⟩
theorem or_one (q : Int) (h0 : 0 ≤ q) (h1 : q < 9223372036854775808) : bits .or .u64 (q * 2) 1 = 2 * q + 1 := by
  obtain ⟨n, rfl⟩ := Int.eq_ofNat_of_zero_le h0
  have e : ((n : Int) * 2) = ((n * 2 : Nat) : Int) := by omega
  rw [e]
  have h : bits .or .u64 ((n * 2 : Nat) : Int) ((1 : Nat) : Int) = ((n * 2 ||| 1 : Nat) : Int) := Go.bits_or_u64_nat _ _ (by omega) (by omega)
  have h2 : n * 2 ||| 1 = n * 2 + 1 := by
    have := Nat.two_pow_add_eq_or_of_lt (i := 1) (b := 1) (by omega) n
    rw [Nat.mul_comm n 2]
    simpa using this.symm
  rw [h2] at h
  exact h.trans (by omega)

theorem last (q : Int) (h1 : 1 ≤ q) (hx1 : q < 9223372036854775808) (h3 : q % 2 = 1) : ∃ (m1 m2 : Nat) (p : Int), 1 ≤ p ∧ p ≤ q ∧
      ((∃ r, ∀ k, order_Luby.l1 (k + m1) q q = some (r, 0) ∧ arbiterref10_Luby.l1 (k + m2) q q = some (r, 0)) ∨
       (p < q ∧ ∀ k, order_Luby.l1 (k + m1) q q = order_Luby.l0 k (q - p) ∧ arbiterref10_Luby.l1 (k + m2) q q = arbiterref10_Luby.l0 k (q - p))) := by
  refine ⟨1, 1, q, h1, Int.le_refl _, .inl ⟨q / 2 + 1, fun k => ⟨?_, ?_⟩⟩⟩
  · simp only [order_Luby.l1]
    rw [u64w q (by omega) (by omega), if_neg (by omega), if_pos rfl, Int.tdiv_eq_ediv_of_nonneg (by omega), u64w (q / 2) (by omega) (by omega), u64w _ (by omega) (by omega), w64 _ (by omega) (by omega)]
  · simp only [arbiterref10_Luby.l1]
    rw [w64 (q - 1) (by omega) (by omega), Int.tdiv_eq_ediv_of_nonneg (by omega), w64 ((q - 1) / 2) (by omega) (by omega), if_neg (by omega), if_pos trivial, w64 _ (by omega) (by omega)]
    have : (q - 1) / 2 = q / 2 := by omega
    rw [this]

theorem inner (x : Int) (hx0 : 1 ≤ x) (hx1 : x < 9223372036854775808) : ∀ (n : Nat) (q : Int), 1 ≤ q → q ≤ x → q % 2 = 1 → (x - q).toNat ≤ n →
    ∃ (m1 m2 : Nat) (p : Int), 1 ≤ p ∧ p ≤ x ∧
      ((∃ r, ∀ k, order_Luby.l1 (k + m1) x q = some (r, 0) ∧ arbiterref10_Luby.l1 (k + m2) x q = some (r, 0)) ∨
       (p < x ∧ ∀ k, order_Luby.l1 (k + m1) x q = order_Luby.l0 k (x - p) ∧ arbiterref10_Luby.l1 (k + m2) x q = arbiterref10_Luby.l0 k (x - p))) := by
  intro n
  induction n with
  | zero =>
    intro q h1 h2 h3 h4
    obtain rfl : q = x := by omega
    exact last q h1 hx1 h3
  | succ n ih =>
    intro q h1 h2 h3 h4
    by_cases e : q = x
    · subst e
      exact last q h1 hx1 h3
    · by_cases c : 2 * q + 1 ≤ x
      · obtain ⟨m1, m2, p, hp1, hp2, hp⟩ := ih (2 * q + 1) (by omega) c (by omega) (by omega)
        have s1 : ∀ k, order_Luby.l1 (k + 1) x q = order_Luby.l1 k x (2 * q + 1) := by
          intro k
          simp only [order_Luby.l1]
          rw [u64w x (by omega) (by omega), if_pos (by omega), u64w (q * 2) (by omega) (by omega), or_one q (by omega) (by omega)]
        have s2 : ∀ k, arbiterref10_Luby.l1 (k + 1) x q = arbiterref10_Luby.l1 k x (2 * q + 1) := by
          intro k
          simp only [arbiterref10_Luby.l1]
          rw [w64 (x - 1) (by omega) (by omega), Int.tdiv_eq_ediv_of_nonneg (by omega), w64 ((x - 1) / 2) (by omega) (by omega), if_pos (by omega), w64 (2 * q) (by omega) (by omega), w64 _ (by omega) (by omega)]
        refine ⟨m1 + 1, m2 + 1, p, hp1, hp2, ?_⟩
        rcases hp with ⟨r, hr⟩ | ⟨h, hr⟩
        · exact .inl ⟨r, fun k => ⟨(s1 (k + m1)).trans (hr k).1, (s2 (k + m2)).trans (hr k).2⟩⟩
        · exact .inr ⟨h, fun k => ⟨(s1 (k + m1)).trans (hr k).1, (s2 (k + m2)).trans (hr k).2⟩⟩
      · refine ⟨2, 1, q, h1, h2, .inr ⟨by omega, fun k => ⟨?_, ?_⟩⟩⟩
        · simp only [order_Luby.l1]
          rw [u64w x (by omega) (by omega), if_pos (by omega), u64w (q * 2) (by omega) (by omega), or_one q (by omega) (by omega), if_neg (by omega), if_neg (by omega), Int.tdiv_eq_ediv_of_nonneg (by omega),
            u64w ((2 * q + 1) / 2) (by omega) (by omega), w64 ((2 * q + 1) / 2) (by omega) (by omega), w64 _ (by omega) (by omega)]
          congr 1
          omega
        · simp only [arbiterref10_Luby.l1]
          rw [w64 (x - 1) (by omega) (by omega), Int.tdiv_eq_ediv_of_nonneg (by omega), w64 ((x - 1) / 2) (by omega) (by omega), if_neg (by omega), if_neg (by omega), w64 _ (by omega) (by omega)]

theorem outer : ∀ (n : Nat) (x : Int), 1 ≤ x → x < 9223372036854775808 → x.toNat ≤ n →
    ∃ (m1 m2 : Nat) (r : Int), ∀ k, order_Luby.l0 (k + m1) x = some (r, 0) ∧ arbiterref10_Luby.l0 (k + m2) x = some (r, 0) := by
  intro n
  induction n with
  | zero => intro x h1 h2 h3; omega
  | succ n ih =>
    intro x h1 h2 h3
    obtain ⟨m1, m2, p, hp1, hp2, hp⟩ := inner x h1 h2 _ 1 (by omega) h1 (by omega) (Nat.le_refl _)
    rcases hp with ⟨r, hr⟩ | ⟨h, hr⟩
    · refine ⟨m1 + 1, m2 + 1, r, fun k => ⟨?_, ?_⟩⟩
      · show order_Luby.l0 ((k + m1) + 1) x = _
        simp only [order_Luby.l0]; exact (hr k).1
      · show arbiterref10_Luby.l0 ((k + m2) + 1) x = _
        simp only [arbiterref10_Luby.l0]; exact (hr k).2
    · obtain ⟨n1, n2, r, hr2⟩ := ih (x - p) (by omega) (by omega) (by omega)
      refine ⟨(n1 + m1) + 1, (n2 + m2) + 1, r, fun k => ⟨?_, ?_⟩⟩
      · rw [show k + ((n1 + m1) + 1) = ((k + n1) + m1) + 1 from by omega]
        simp only [order_Luby.l0]; exact ((hr _).1).trans (hr2 k).1
      · rw [show k + ((n2 + m2) + 1) = ((k + n2) + m2) + 1 from by omega]
        simp only [arbiterref10_Luby.l0]; exact ((hr _).2).trans (hr2 k).2

theorem OrderLubys : arbiterlaw10_OrderLubys.Pure := by
  intro x hw
  have hb : -9223372036854775808 ≤ x ∧ x ≤ 9223372036854775807 := by simpa [Lit.wf, IntKind.min, IntKind.max, IntKind.signed, IntKind.bits] using hw
  by_cases h : x < 1
  · refine ⟨0, ?_⟩
    simp [arbiterlaw10_OrderLubys.f, order_Luby.f, arbiterref10_Luby.f, h, arbiterlaw10_no.f]
  · obtain ⟨m1, m2, r, hr⟩ := outer _ x (by omega) (by omega) (Nat.le_refl _)
    refine ⟨m1 + m2, ?_⟩
    have e1 := (hr m2).1
    have e2 := (hr m1).2
    rw [Nat.add_comm] at e1
    simp [arbiterlaw10_OrderLubys.f, order_Luby.f, arbiterref10_Luby.f, h, arbiterlaw10_no.f, e1, e2]

end Go.Proofs.Ytkmnoiploeineaa.Pure
