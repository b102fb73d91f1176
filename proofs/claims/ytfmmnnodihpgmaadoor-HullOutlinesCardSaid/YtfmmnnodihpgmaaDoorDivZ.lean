/-
  Quotient and remainder of integers, rounded down, by their signs and magnitudes; no program in sight.
-/
import Derived.Test.YtfmmnnodihpgmaaDoorBase
import Derived.Test.YtfmmnnodihpgmaaDoorDivM
namespace Go.Proofs.YtfmmnnodihpgmaaDoor
set_option linter.all false
open Go Go.RowKit Wd
/-- The quotient rounded down and the remainder; 0 by 0. -/
@[irreducible] def divQ (x y : Int) : Int := if y = 0 then 0 else if 0 < y then x / y else (-x) / (-y)
@[irreducible] def divR (x y : Int) : Int := if y = 0 then 0 else if 0 < y then x % y else -((-x) % (-y))
@[irreducible] def divE (y : Int) : Int := if y = 0 then 22 else 0
theorem ediv_of {x b q r : Int} (hb : 0 < b) (h : r + b * q = x) (h0 : 0 ≤ r) (h1 : r < b) : x / b = q ∧ x % b = r := (Int.ediv_emod_unique hb).2 ⟨h, h0, h1⟩
theorem nat_parts (a b : Nat) (hb : 0 < b) : (a : Int) = (a % b : Nat) + (b : Int) * (a / b : Nat) ∧ ((a % b : Nat) : Int) < b ∧ (0 : Int) ≤ (a % b : Nat) := by
  refine ⟨?_, by have := Nat.mod_lt a hb; omega, by omega⟩
  have := Nat.mod_add_div a b
  have h : ((a % b + b * (a / b) : Nat) : Int) = (a : Int) := by rw [this]
  rw [← h, Int.natCast_add, Int.natCast_mul]
theorem div_keep {s t : Bool} {a b : Nat} (hb : 0 < b) (h : (s != t) = false ∨ a % b = 0) : divQ (val s a) (val t b) = val (s != t) (a / b) ∧ divR (val s a) (val t b) = val t (a % b) ∧ divE (val t b) = 0 := by
  obtain ⟨h1, h2, h3⟩ := nat_parts a b hb
  generalize a / b = q at *
  generalize a % b = r at *
  unfold divQ divR divE val
  cases s <;> cases t <;> simp at h ⊢
  · obtain ⟨e1, e2⟩ := ediv_of (x := (a : Int)) (b := b) (q := q) (r := r) (by omega) h1.symm h3 h2
    rw [if_neg (by omega), if_pos (by omega), if_neg (by omega), if_pos (by omega)]; exact ⟨e1, e2, by omega⟩
  · subst h
    obtain ⟨e1, e2⟩ := ediv_of (x := -(a : Int)) (b := b) (q := -q) (r := 0) (by omega) (by rw [h1, Int.mul_neg]; omega) (by omega) (by omega)
    rw [if_neg (by omega), if_neg (by omega), if_neg (by omega), if_neg (by omega), e1, e2]; exact ⟨rfl, by omega, by omega⟩
  · subst h
    obtain ⟨e1, e2⟩ := ediv_of (x := -(a : Int)) (b := b) (q := -q) (r := 0) (by omega) (by rw [h1, Int.mul_neg]; omega) (by omega) (by omega)
    rw [if_neg (by omega), if_pos (by omega), if_neg (by omega), if_pos (by omega), e1, e2]; exact ⟨rfl, by omega, by omega⟩
  · obtain ⟨e1, e2⟩ := ediv_of (x := (a : Int)) (b := b) (q := q) (r := r) (by omega) h1.symm h3 h2
    rw [if_neg (by omega), if_neg (by omega), if_neg (by omega), if_neg (by omega), e1, e2]; exact ⟨rfl, by omega, by omega⟩
theorem div_turn {s t : Bool} {a b : Nat} (hb : 0 < b) (h : (s != t) = true) (hr : a % b ≠ 0) : divQ (val s a) (val t b) = val (s != t) (a / b + 1) ∧ divR (val s a) (val t b) = val t (b - a % b) ∧ divE (val t b) = 0 := by
  obtain ⟨h1, h2, h3⟩ := nat_parts a b hb
  generalize a / b = q at *
  generalize a % b = r at *
  have hx : ((b - r : Nat) : Int) + b * (-((q + 1 : Nat) : Int)) = -(a : Int) := by
    rw [h1, Int.mul_neg, Int.natCast_add, Int.mul_add]; omega
  obtain ⟨e1, e2⟩ := ediv_of (x := -(a : Int)) (b := b) (q := -((q + 1 : Nat) : Int)) (r := ((b - r : Nat) : Int)) (by omega) hx (by omega) (by omega)
  unfold divQ divR divE val
  clear hx h1
  cases s <;> cases t <;> simp only [Bool.bne_false, Bool.bne_true, Bool.false_bne, Bool.true_bne, Bool.not_true, Bool.not_false, Bool.true_eq_false, Bool.false_eq_true, reduceIte, Int.neg_neg] at h ⊢
  · rw [if_neg (by omega), if_neg (by omega), if_neg (by omega), if_neg (by omega), if_neg (by omega), e1, e2]; exact ⟨rfl, rfl, rfl⟩
  · rw [if_neg (by omega), if_pos (by omega), if_neg (by omega), if_pos (by omega), if_neg (by omega), e1, e2]; exact ⟨rfl, rfl, rfl⟩
theorem div_zero (s t : Bool) (a : Nat) : divQ (val s a) (val t 0) = 0 ∧ divR (val s a) (val t 0) = 0 ∧ divE (val t 0) = 22 := by
  unfold divQ divR divE val
  cases t <;> simp
theorem wd_one : wd 1 0 = 1 ∧ wd 1 1 = 0 ∧ wd 1 2 = 0 ∧ wd 1 3 = 0 := by
  have := wd_small (n := 1) (by omega)
  simpa using this
end Go.Proofs.YtfmmnnodihpgmaaDoor
