/-
  Plain arithmetic of factors 2, of shifts of four words, and of the greatest common divisor; no program in sight.
-/
import Derived.Test.YtkpochkfijplaaaQDivM
import Derived.Lib.TrailingZeros

namespace Go.Proofs.Ytkpochkfijplaaa.Wd
set_option linter.all false
/-- how many factors 2 a number has, and what is left without them -/
@[irreducible] def twos (a : Nat) : Nat := Lib.ctz 256 a
@[irreducible] def oddP (a : Nat) : Nat := a / 2 ^ twos a
theorem twos_spec {a : Nat} (h0 : 0 < a) (ha : a < 2 ^ 256) : a = 2 ^ twos a * oddP a ∧ oddP a % 2 = 1 ∧ twos a < 256 := by
  obtain ⟨m, hm, hk⟩ := Lib.ctzFrom_spec 256 a h0 ha
  have e : twos a = Lib.ctzFrom 256 a := by unfold twos Lib.ctz; rw [if_neg (by omega)]
  unfold oddP
  rw [e]
  have hp := Nat.pow_pos (n := Lib.ctzFrom 256 a) (by omega : 0 < 2)
  have hq : a / 2 ^ Lib.ctzFrom 256 a = 2 * m + 1 := by
    generalize 2 ^ Lib.ctzFrom 256 a = p at *
    rw [hm, Nat.mul_div_cancel_left _ hp]
  rw [hq]
  exact ⟨hm, by omega, hk⟩
@[irreducible] def Low0 (a j : Nat) : Prop := a % 2 ^ (64 * j) = 0
theorem Low0.start (a : Nat) : Low0 a 0 := by unfold Low0; simp [Nat.mod_one]
theorem Low0.next {a j : Nat} (h0 : 0 < a) (ha : a < 2 ^ 256) (hj : j ≤ 3) (h : Low0 a j) (hz : wn a j = 0) : Low0 a (j + 1) ∧ j + 1 ≤ 3 := by
  unfold Low0 at *
  have h1 : a % 2 ^ (64 * (j + 1)) = 0 := by rw [mod_next, h, hz]; simp
  refine ⟨h1, ?_⟩
  apply Nat.lt_of_not_le
  intro h4
  obtain rfl : j = 3 := by omega
  rw [show 64 * (3 + 1) = 256 from rfl, Nat.mod_eq_of_lt ha] at h1
  omega
end Go.Proofs.Ytkpochkfijplaaa.Wd
