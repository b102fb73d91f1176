/-
  Plain arithmetic of a division bit by bit; no program in sight.
-/
import Derived.Test.YtkpochkfijplaaaQMulM

namespace Go.Proofs.Ytkpochkfijplaaa.Wd
set_option linter.all false
/-- Quotient and rest of the bits of a from k on, by b; the quotient at its place. -/
@[irreducible] def DivInv (a b k Q R : Nat) : Prop := Q = a / 2 ^ k / b * 2 ^ k ∧ R = a / 2 ^ k % b
theorem DivInv.start {a b : Nat} (ha : a < 2 ^ 256) : DivInv a b 256 0 0 := by
  unfold DivInv
  rw [Nat.div_eq_of_lt ha]; simp
theorem DivInv.done {a b Q R : Nat} (h : DivInv a b 0 Q R) : Q = a / b ∧ R = a % b := by
  unfold DivInv at h
  simpa using h
end Go.Proofs.Ytkpochkfijplaaa.Wd
