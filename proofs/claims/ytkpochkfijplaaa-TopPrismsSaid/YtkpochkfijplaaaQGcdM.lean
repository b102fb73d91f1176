/-
  Plain arithmetic of the greatest common divisor by odd parts; no program in sight.
-/
import Derived.Test.YtkpochkfijplaaaQOddM

namespace Go.Proofs.Ytkpochkfijplaaa.Wd
set_option linter.all false
theorem cop_pow {k y : Nat} (hy : y % 2 = 1) : Nat.Coprime (2 ^ k) y := by
  apply Nat.Coprime.pow_left
  unfold Nat.Coprime
  rw [Nat.gcd_rec, hy]; simp
theorem gcd_strip {k x y : Nat} (hy : y % 2 = 1) : Nat.gcd (2 ^ k * x) y = Nat.gcd x y := Nat.Coprime.gcd_mul_left_cancel x (cop_pow hy)
theorem gcd_twos {n m x y : Nat} (hx : x % 2 = 1) (hy : y % 2 = 1) : Nat.gcd (2 ^ n * x) (2 ^ m * y) = 2 ^ min n m * Nat.gcd x y := by
  by_cases h : n ≤ m
  · rw [Nat.min_eq_left h, show 2 ^ m = 2 ^ n * 2 ^ (m - n) by rw [← Nat.pow_add]; congr 1; omega, Nat.mul_assoc, Nat.gcd_mul_left, Nat.gcd_comm, gcd_strip hx, Nat.gcd_comm]
  · rw [Nat.min_eq_right (by omega), show 2 ^ n = 2 ^ m * 2 ^ (n - m) by rw [← Nat.pow_add]; congr 1; omega, Nat.mul_assoc, Nat.gcd_mul_left, gcd_strip hy]
/-- What holds at the head of the loop: both are odd, below 2^256, and have the divisor. -/
@[irreducible] def GcdIn (a b x y g : Nat) : Prop := x % 2 = 1 ∧ y % 2 = 1 ∧ x < 2 ^ 256 ∧ y < 2 ^ 256 ∧ Nat.gcd x y = Nat.gcd (oddP a) (oddP b) ∧ x + y ≤ g
theorem GcdIn.start {a b : Nat} (ha0 : 0 < a) (ha : a < 2 ^ 256) (hb0 : 0 < b) (hb : b < 2 ^ 256) : GcdIn a b (oddP a) (oddP b) (oddP a + oddP b) := by
  obtain ⟨h1, h2, h3⟩ := twos_spec ha0 ha
  obtain ⟨k1, k2, k3⟩ := twos_spec hb0 hb
  have l1 : oddP a ≤ a := by conv => rhs; rw [h1]
                             exact Nat.le_mul_of_pos_left _ (Nat.pow_pos (by omega))
  have l2 : oddP b ≤ b := by conv => rhs; rw [k1]
                             exact Nat.le_mul_of_pos_left _ (Nat.pow_pos (by omega))
  unfold GcdIn
  exact ⟨h2, k2, Nat.lt_of_le_of_lt l1 ha, Nat.lt_of_le_of_lt l2 hb, rfl, Nat.le_refl _⟩
theorem GcdIn.lt {a b x y g : Nat} (h : GcdIn a b x y g) : x < 2 ^ 256 ∧ y < 2 ^ 256 := by
  unfold GcdIn at h; exact ⟨h.2.2.1, h.2.2.2.1⟩
theorem GcdIn.next {a b x y g : Nat} (h : GcdIn a b x y g) (hl : y < x) : GcdIn a b (oddP (x - y)) y (oddP (x - y) + y) ∧ oddP (x - y) + y < g ∧ 0 < x - y ∧ x - y < 2 ^ 256 := by
  unfold GcdIn at *
  obtain ⟨h1, h2, h3, h4, h5, h6⟩ := h
  have h7 : x - y < 2 ^ 256 := by omega
  obtain ⟨k1, k2, k3⟩ := twos_spec (by omega : 0 < x - y) h7
  have hy0 : 0 < y := by omega
  have l : oddP (x - y) ≤ x - y := by conv => rhs; rw [k1]
                                      exact Nat.le_mul_of_pos_left _ (Nat.pow_pos (by omega))
  refine ⟨⟨k2, h2, by omega, h4, ?_, Nat.le_refl _⟩, by omega, by omega, h7⟩
  rw [← h5, ← gcd_strip (k := twos (x - y)) h2, ← k1, Nat.gcd_sub_self_left (Nat.le_of_lt hl)]
theorem GcdIn.done {a b x g : Nat} (ha0 : 0 < a) (ha : a < 2 ^ 256) (hb0 : 0 < b) (hb : b < 2 ^ 256) (h : GcdIn a b x x g) : 2 ^ min (twos a) (twos b) * x = Nat.gcd a b := by
  unfold GcdIn at h
  obtain ⟨h1, h2, h3⟩ := twos_spec ha0 ha
  obtain ⟨k1, k2, k3⟩ := twos_spec hb0 hb
  have e := gcd_twos (n := twos a) (m := twos b) h2 k2
  rw [← h1, ← k1, ← h.2.2.2.2.1, Nat.gcd_self] at e
  exact e.symm
end Go.Proofs.Ytkpochkfijplaaa.Wd
