/-
  Plain arithmetic of 32-bit halves of words, no program in sight.
  How many half-words a natural number has; plain arithmetic, no program in sight.
  The reference's natural numbers in memory; what digit, trim, even, small and compare return.
  The reference's natural numbers: plus, minus, half.
  The reference's natural numbers: half.
  Plain arithmetic of the schoolbook product of words, and of setting one word of a number; no program in sight: half-words.
  The reference's natural numbers: times.
  The reference's natural numbers: gcd.
  Plain arithmetic of a division bit by bit over half-words; no program in sight.
  The reference's natural numbers: divide.
  (Written by wip/pack.py out of XHalfM, XNatM, XNatA, XNatB, XNatC, XHMulM, XNatT, XNatG, XHDivM, XNatV.)
-/
import Derived.Test.YtfmmnnodihpgmaaDoorMath
import Derived.Laws.BitsAllLaws
import Derived.Test.YtfmmnnodihpgmaaDoorHullB
import Derived.Deep.AppendLies
import Derived.Laws.OwnMore
import Derived.Test.YtfmmnnodihpgmaaDoorMeshD
import Derived.Deep.OwnRows
import Derived.Test.YtfmmnnodihpgmaaDoorDivM
namespace Go.Proofs.YtfmmnnodihpgmaaDoor.Wd
set_option linter.all false
/-- half-word i of a natural number -/
@[irreducible] def hw (a i : Nat) : Int := ((a / 2 ^ (32 * i) % 4294967296 : Nat) : Int)
/-- the carry into half-word i of a sum, the borrow into half-word i of a difference -/
@[irreducible] def hc (a b i : Nat) : Int := ((a % 2 ^ (32 * i) + b % 2 ^ (32 * i)) / 2 ^ (32 * i) : Nat)
@[irreducible] def hb (a b i : Nat) : Int := if a % 2 ^ (32 * i) < b % 2 ^ (32 * i) then 1 else 0
theorem pow32_next (i : Nat) : 2 ^ (32 * (i + 1)) = 2 ^ (32 * i) * 4294967296 := by
  rw [show 32 * (i + 1) = 32 * i + 32 from by omega, Nat.pow_add]
theorem hw_lo (a i : Nat) : 0 ≤ hw a i := by unfold hw; exact Int.natCast_nonneg _
theorem hw_hi (a i : Nat) : hw a i ≤ 4294967295 := by
  unfold hw; generalize a / 2 ^ (32 * i) = x; omega
theorem hc_bit (a b i : Nat) : 0 ≤ hc a b i ∧ hc a b i ≤ 1 := by
  unfold hc
  have hp : 0 < 2 ^ (32 * i) := Nat.pow_pos (by omega)
  generalize 2 ^ (32 * i) = p at *
  have h1 := Nat.mod_lt a hp
  have h2 := Nat.mod_lt b hp
  rw [carry_two _ _ _ h1 h2]
  split <;> simp
theorem hc_zero (a b : Nat) : hc a b 0 = 0 := by unfold hc; simp [Nat.mod_one]
theorem hb_zero (a b : Nat) : hb a b 0 = 0 := by unfold hb; simp [Nat.mod_one]
theorem hb_bit (a b i : Nat) : 0 ≤ hb a b i ∧ hb a b i ≤ 1 := by unfold hb; split <;> simp
theorem hw_mod (x i : Nat) (hi : i < 8) : hw (x % 2 ^ 256) i = hw x i := by
  unfold hw
  have e : 2 ^ 256 = 2 ^ (32 * i) * (4294967296 * 2 ^ (32 * (7 - i))) := by
    rw [← Nat.mul_assoc, ← pow32_next, ← Nat.pow_add]; congr 1; omega
  rw [e, Nat.mod_mul_right_div_self, Nat.mod_mul_right_mod]
theorem add_hw (a b i : Nat) (hi : i < 8) : (hc a b i + hw a i + hw b i) % 4294967296 = hw (sm a b) i ∧ (hc a b i + hw a i + hw b i) / 4294967296 = hc a b (i + 1) := by
  have h := add_step_gen a b (2 ^ (32 * i)) 4294967296 (Nat.pow_pos (by omega))
  unfold sm
  rw [hw_mod _ _ hi]
  unfold hw hc
  rw [pow32_next]
  refine ⟨?_, ?_⟩
  · rw [← h.1]
    generalize (a % 2 ^ (32 * i) + b % 2 ^ (32 * i)) / 2 ^ (32 * i) = z
    generalize a / 2 ^ (32 * i) = x
    generalize b / 2 ^ (32 * i) = y
    omega
  · rw [← h.2]
    generalize (a % 2 ^ (32 * i) + b % 2 ^ (32 * i)) / 2 ^ (32 * i) = z
    generalize a / 2 ^ (32 * i) = x
    generalize b / 2 ^ (32 * i) = y
    omega
theorem sub_hw (a b i : Nat) (hle : b ≤ a + 2 ^ 256) (hi : i < 8) : (4294967296 + hw a i - hw b i - hb a b i) % 4294967296 = hw (df a b) i ∧ 1 - (4294967296 + hw a i - hw b i - hb a b i) / 4294967296 = hb a b (i + 1) := by
  unfold df
  rw [hw_mod _ _ hi]
  have hK : b + (a + 2 ^ 256 - b) = a + 2 ^ (32 * i) * 4294967296 * 2 ^ (32 * (7 - i)) := by
    have : 2 ^ (32 * i) * 4294967296 * 2 ^ (32 * (7 - i)) = 2 ^ 256 := by
      rw [← pow32_next, ← Nat.pow_add]; congr 1; omega
    rw [this]
    generalize 2 ^ 256 = M at *; omega
  have h := sub_step_gen a b (a + 2 ^ 256 - b) _ (2 ^ (32 * i)) 4294967296 (Nat.pow_pos (by omega)) (by omega) hK
  unfold hw hb
  rw [pow32_next]
  generalize (a + 2 ^ 256 - b) / 2 ^ (32 * i) % 4294967296 = z at *
  have h1 := h.1
  have h2 := h.2
  generalize a % (2 ^ (32 * i) * 4294967296) = u at *
  generalize b % (2 ^ (32 * i) * 4294967296) = v at *
  have hx := Nat.mod_lt (a / 2 ^ (32 * i)) (show 0 < 4294967296 by omega)
  have hy := Nat.mod_lt (b / 2 ^ (32 * i)) (show 0 < 4294967296 by omega)
  generalize a / 2 ^ (32 * i) % 4294967296 = x at *
  generalize b / 2 ^ (32 * i) % 4294967296 = y at *
  generalize a % 2 ^ (32 * i) = m at *
  generalize b % 2 ^ (32 * i) = n at *
  clear h hK hle
  by_cases hq : m < n <;> by_cases hP : u < v <;> simp only [hq, hP, if_true, if_false, iff_true, iff_false] at * <;> omega
theorem hc_eight {a b : Nat} (ha : a < 2 ^ 256) (hb : b < 2 ^ 256) : hc a b 8 = if a + b < 2 ^ 256 then 0 else 1 := by
  unfold hc
  rw [show 32 * 8 = 256 from rfl, Nat.mod_eq_of_lt ha, Nat.mod_eq_of_lt hb]
  split
  · rename_i h; rw [Nat.div_eq_of_lt h]; rfl
  · rename_i h
    rw [show (a + b) / 2 ^ 256 = 1 from Nat.div_eq_of_lt_le (by omega) (by omega)]; rfl
theorem hw_even (a i : Nat) : hw a (2 * i) = wd a i % 4294967296 := by
  unfold hw wd
  rw [show 32 * (2 * i) = 64 * i by omega]
  generalize a / 2 ^ (64 * i) = x
  omega
theorem hw_odd (a i : Nat) : hw a (2 * i + 1) = wd a i / 4294967296 := by
  unfold hw wd
  rw [show 32 * (2 * i + 1) = 64 * i + 32 by omega, Nat.pow_add, ← Nat.div_div_eq_div_mul]
  generalize a / 2 ^ (64 * i) = x
  omega
theorem wd_halves (a i : Nat) : hw a (2 * i) + 4294967296 * hw a (2 * i + 1) = wd a i := by
  rw [hw_even, hw_odd]
  have := wd_lo a i
  omega
theorem hw0 (a : Nat) : hw a 0 = ((a % 4294967296 : Nat) : Int) := by unfold hw; simp
theorem hw1 (a : Nat) : hw a 1 = ((a / 4294967296 % 4294967296 : Nat) : Int) := by unfold hw; rfl
theorem hw2 (a : Nat) : hw a 2 = ((a / 18446744073709551616 % 4294967296 : Nat) : Int) := by unfold hw; rfl
theorem hw3 (a : Nat) : hw a 3 = ((a / 79228162514264337593543950336 % 4294967296 : Nat) : Int) := by unfold hw; rfl
theorem hw4 (a : Nat) : hw a 4 = ((a / 340282366920938463463374607431768211456 % 4294967296 : Nat) : Int) := by unfold hw; rfl
theorem hw5 (a : Nat) : hw a 5 = ((a / 1461501637330902918203684832716283019655932542976 % 4294967296 : Nat) : Int) := by unfold hw; rfl
theorem hw6 (a : Nat) : hw a 6 = ((a / 6277101735386680763835789423207666416102355444464034512896 % 4294967296 : Nat) : Int) := by unfold hw; rfl
theorem hw7 (a : Nat) : hw a 7 = ((a / 26959946667150639794667015087019630673637144422540572481103610249216 % 4294967296 : Nat) : Int) := by unfold hw; rfl
/-- a number below 2^256 is the sum of its half-words -/
theorem hw_sum (a : Nat) (ha : a < 2 ^ 256) : (a : Int) = hw a 0 + 4294967296 * hw a 1 + 18446744073709551616 * hw a 2 + 79228162514264337593543950336 * hw a 3 + 340282366920938463463374607431768211456 * hw a 4
    + 1461501637330902918203684832716283019655932542976 * hw a 5 + 6277101735386680763835789423207666416102355444464034512896 * hw a 6 + 26959946667150639794667015087019630673637144422540572481103610249216 * hw a 7 := by
  rw [hw0, hw1, hw2, hw3, hw4, hw5, hw6, hw7]
  have := lt256 a ha
  omega
theorem hw_zero (i : Nat) : hw 0 i = 0 := by unfold hw; simp
/-- a number below 2^256 whose half-words are 0 -/
theorem hw_none (a : Nat) (ha : a < 2 ^ 256) (h0 : hw a 0 = 0) (h1 : hw a 1 = 0) (h2 : hw a 2 = 0) (h3 : hw a 3 = 0) (h4 : hw a 4 = 0) (h5 : hw a 5 = 0) (h6 : hw a 6 = 0) (h7 : hw a 7 = 0) : a = 0 := by
  have := hw_sum a ha
  rw [h0, h1, h2, h3, h4, h5, h6, h7] at this
  omega
/-- a number below 2^32: one half-word -/
theorem hw_small {n : Nat} (h : n < 4294967296) : hw n 0 = n ∧ ∀ i, 0 < i → hw n i = 0 := by
  refine ⟨by rw [hw0]; omega, fun i hi => ?_⟩
  unfold hw
  have : n < 2 ^ (32 * i) := Nat.lt_of_lt_of_le h (by
    rw [show (4294967296 : Nat) = 2 ^ 32 from rfl]
    exact Nat.pow_le_pow_right (by omega) (by omega))
  rw [Nat.div_eq_of_lt this]; rfl
/-- how two numbers compare: by their highest half-words that differ -/
theorem high_split (a i : Nat) : ((a / 2 ^ (32 * i) : Nat) : Int) = hw a i + 4294967296 * ((a / 2 ^ (32 * (i + 1)) : Nat) : Int) := by
  unfold hw
  rw [pow32_next, ← Nat.div_div_eq_div_mul]
  generalize a / 2 ^ (32 * i) = x
  omega
theorem same_top {a b : Nat} (ha : a < 2 ^ 256) (hb : b < 2 ^ 256) : a / 2 ^ (32 * (7 + 1)) = b / 2 ^ (32 * (7 + 1)) := by
  rw [show 32 * (7 + 1) = 256 from rfl, Nat.div_eq_of_lt ha, Nat.div_eq_of_lt hb]
theorem same_step {a b i : Nat} (h : a / 2 ^ (32 * (i + 1)) = b / 2 ^ (32 * (i + 1))) (h1 : hw a i ≤ hw b i) (h2 : hw b i ≤ hw a i) : a / 2 ^ (32 * i) = b / 2 ^ (32 * i) := by
  have e1 := high_split a i
  have e2 := high_split b i
  rw [h] at e1
  omega
theorem less_at {a b i : Nat} (h : a / 2 ^ (32 * (i + 1)) = b / 2 ^ (32 * (i + 1))) (h1 : hw a i < hw b i) : cmpN a b = -1 := by
  have e1 := high_split a i
  have e2 := high_split b i
  rw [h] at e1
  have h3 : a / 2 ^ (32 * i) < b / 2 ^ (32 * i) := by omega
  unfold cmpN
  rw [if_pos]
  rcases Nat.lt_or_ge a b with h4 | h4
  · exact h4
  · exact absurd (Nat.div_le_div_right (c := 2 ^ (32 * i)) h4) (by omega)
theorem more_at {a b i : Nat} (h : a / 2 ^ (32 * (i + 1)) = b / 2 ^ (32 * (i + 1))) (h1 : hw b i < hw a i) : cmpN a b = 1 := by
  have e1 := high_split a i
  have e2 := high_split b i
  rw [h] at e1
  have h3 : b / 2 ^ (32 * i) < a / 2 ^ (32 * i) := by omega
  unfold cmpN
  have : b < a := by
    rcases Nat.lt_or_ge b a with h4 | h4
    · exact h4
    · exact absurd (Nat.div_le_div_right (c := 2 ^ (32 * i)) h4) (by omega)
  rw [if_neg (by omega), if_pos this]
theorem same_all {a b : Nat} (h : a / 2 ^ (32 * 0) = b / 2 ^ (32 * 0)) : cmpN a b = 0 := by
  have : a = b := by simpa using h
  unfold cmpN
  rw [if_neg (by omega), if_neg (by omega)]
theorem hcmp_L7 {a b : Nat} (ha : a < 2 ^ 256) (hb : b < 2 ^ 256) (h : hw a 7 < hw b 7) : cmpN a b = -1 := less_at (same_top ha hb) h
theorem hcmp_G7 {a b : Nat} (ha : a < 2 ^ 256) (hb : b < 2 ^ 256) (h : hw b 7 < hw a 7) : cmpN a b = 1 := more_at (same_top ha hb) h
theorem hcmp_L6 {a b : Nat} (ha : a < 2 ^ 256) (hb : b < 2 ^ 256) (e7 : hw b 7 ≤ hw a 7) (f7 : hw a 7 ≤ hw b 7) (h : hw a 6 < hw b 6) : cmpN a b = -1 := less_at (same_step (same_top ha hb) f7 e7) h
theorem hcmp_G6 {a b : Nat} (ha : a < 2 ^ 256) (hb : b < 2 ^ 256) (e7 : hw b 7 ≤ hw a 7) (f7 : hw a 7 ≤ hw b 7) (h : hw b 6 < hw a 6) : cmpN a b = 1 := more_at (same_step (same_top ha hb) f7 e7) h
theorem hcmp_L5 {a b : Nat} (ha : a < 2 ^ 256) (hb : b < 2 ^ 256) (e7 : hw b 7 ≤ hw a 7) (f7 : hw a 7 ≤ hw b 7) (e6 : hw b 6 ≤ hw a 6) (f6 : hw a 6 ≤ hw b 6) (h : hw a 5 < hw b 5) : cmpN a b = -1 := less_at (same_step (same_step (same_top ha hb) f7 e7) f6 e6) h
theorem hcmp_G5 {a b : Nat} (ha : a < 2 ^ 256) (hb : b < 2 ^ 256) (e7 : hw b 7 ≤ hw a 7) (f7 : hw a 7 ≤ hw b 7) (e6 : hw b 6 ≤ hw a 6) (f6 : hw a 6 ≤ hw b 6) (h : hw b 5 < hw a 5) : cmpN a b = 1 := more_at (same_step (same_step (same_top ha hb) f7 e7) f6 e6) h
theorem hcmp_L4 {a b : Nat} (ha : a < 2 ^ 256) (hb : b < 2 ^ 256) (e7 : hw b 7 ≤ hw a 7) (f7 : hw a 7 ≤ hw b 7) (e6 : hw b 6 ≤ hw a 6) (f6 : hw a 6 ≤ hw b 6) (e5 : hw b 5 ≤ hw a 5) (f5 : hw a 5 ≤ hw b 5) (h : hw a 4 < hw b 4) : cmpN a b = -1 := less_at (same_step (same_step (same_step (same_top ha hb) f7 e7) f6 e6) f5 e5) h
theorem hcmp_G4 {a b : Nat} (ha : a < 2 ^ 256) (hb : b < 2 ^ 256) (e7 : hw b 7 ≤ hw a 7) (f7 : hw a 7 ≤ hw b 7) (e6 : hw b 6 ≤ hw a 6) (f6 : hw a 6 ≤ hw b 6) (e5 : hw b 5 ≤ hw a 5) (f5 : hw a 5 ≤ hw b 5) (h : hw b 4 < hw a 4) : cmpN a b = 1 := more_at (same_step (same_step (same_step (same_top ha hb) f7 e7) f6 e6) f5 e5) h
theorem hcmp_L3 {a b : Nat} (ha : a < 2 ^ 256) (hb : b < 2 ^ 256) (e7 : hw b 7 ≤ hw a 7) (f7 : hw a 7 ≤ hw b 7) (e6 : hw b 6 ≤ hw a 6) (f6 : hw a 6 ≤ hw b 6) (e5 : hw b 5 ≤ hw a 5) (f5 : hw a 5 ≤ hw b 5) (e4 : hw b 4 ≤ hw a 4) (f4 : hw a 4 ≤ hw b 4) (h : hw a 3 < hw b 3) : cmpN a b = -1 := less_at (same_step (same_step (same_step (same_step (same_top ha hb) f7 e7) f6 e6) f5 e5) f4 e4) h
theorem hcmp_G3 {a b : Nat} (ha : a < 2 ^ 256) (hb : b < 2 ^ 256) (e7 : hw b 7 ≤ hw a 7) (f7 : hw a 7 ≤ hw b 7) (e6 : hw b 6 ≤ hw a 6) (f6 : hw a 6 ≤ hw b 6) (e5 : hw b 5 ≤ hw a 5) (f5 : hw a 5 ≤ hw b 5) (e4 : hw b 4 ≤ hw a 4) (f4 : hw a 4 ≤ hw b 4) (h : hw b 3 < hw a 3) : cmpN a b = 1 := more_at (same_step (same_step (same_step (same_step (same_top ha hb) f7 e7) f6 e6) f5 e5) f4 e4) h
theorem hcmp_L2 {a b : Nat} (ha : a < 2 ^ 256) (hb : b < 2 ^ 256) (e7 : hw b 7 ≤ hw a 7) (f7 : hw a 7 ≤ hw b 7) (e6 : hw b 6 ≤ hw a 6) (f6 : hw a 6 ≤ hw b 6) (e5 : hw b 5 ≤ hw a 5) (f5 : hw a 5 ≤ hw b 5) (e4 : hw b 4 ≤ hw a 4) (f4 : hw a 4 ≤ hw b 4) (e3 : hw b 3 ≤ hw a 3) (f3 : hw a 3 ≤ hw b 3) (h : hw a 2 < hw b 2) : cmpN a b = -1 := less_at (same_step (same_step (same_step (same_step (same_step (same_top ha hb) f7 e7) f6 e6) f5 e5) f4 e4) f3 e3) h
theorem hcmp_G2 {a b : Nat} (ha : a < 2 ^ 256) (hb : b < 2 ^ 256) (e7 : hw b 7 ≤ hw a 7) (f7 : hw a 7 ≤ hw b 7) (e6 : hw b 6 ≤ hw a 6) (f6 : hw a 6 ≤ hw b 6) (e5 : hw b 5 ≤ hw a 5) (f5 : hw a 5 ≤ hw b 5) (e4 : hw b 4 ≤ hw a 4) (f4 : hw a 4 ≤ hw b 4) (e3 : hw b 3 ≤ hw a 3) (f3 : hw a 3 ≤ hw b 3) (h : hw b 2 < hw a 2) : cmpN a b = 1 := more_at (same_step (same_step (same_step (same_step (same_step (same_top ha hb) f7 e7) f6 e6) f5 e5) f4 e4) f3 e3) h
theorem hcmp_L1 {a b : Nat} (ha : a < 2 ^ 256) (hb : b < 2 ^ 256) (e7 : hw b 7 ≤ hw a 7) (f7 : hw a 7 ≤ hw b 7) (e6 : hw b 6 ≤ hw a 6) (f6 : hw a 6 ≤ hw b 6) (e5 : hw b 5 ≤ hw a 5) (f5 : hw a 5 ≤ hw b 5) (e4 : hw b 4 ≤ hw a 4) (f4 : hw a 4 ≤ hw b 4) (e3 : hw b 3 ≤ hw a 3) (f3 : hw a 3 ≤ hw b 3) (e2 : hw b 2 ≤ hw a 2) (f2 : hw a 2 ≤ hw b 2) (h : hw a 1 < hw b 1) : cmpN a b = -1 := less_at (same_step (same_step (same_step (same_step (same_step (same_step (same_top ha hb) f7 e7) f6 e6) f5 e5) f4 e4) f3 e3) f2 e2) h
theorem hcmp_G1 {a b : Nat} (ha : a < 2 ^ 256) (hb : b < 2 ^ 256) (e7 : hw b 7 ≤ hw a 7) (f7 : hw a 7 ≤ hw b 7) (e6 : hw b 6 ≤ hw a 6) (f6 : hw a 6 ≤ hw b 6) (e5 : hw b 5 ≤ hw a 5) (f5 : hw a 5 ≤ hw b 5) (e4 : hw b 4 ≤ hw a 4) (f4 : hw a 4 ≤ hw b 4) (e3 : hw b 3 ≤ hw a 3) (f3 : hw a 3 ≤ hw b 3) (e2 : hw b 2 ≤ hw a 2) (f2 : hw a 2 ≤ hw b 2) (h : hw b 1 < hw a 1) : cmpN a b = 1 := more_at (same_step (same_step (same_step (same_step (same_step (same_step (same_top ha hb) f7 e7) f6 e6) f5 e5) f4 e4) f3 e3) f2 e2) h
theorem hcmp_L0 {a b : Nat} (ha : a < 2 ^ 256) (hb : b < 2 ^ 256) (e7 : hw b 7 ≤ hw a 7) (f7 : hw a 7 ≤ hw b 7) (e6 : hw b 6 ≤ hw a 6) (f6 : hw a 6 ≤ hw b 6) (e5 : hw b 5 ≤ hw a 5) (f5 : hw a 5 ≤ hw b 5) (e4 : hw b 4 ≤ hw a 4) (f4 : hw a 4 ≤ hw b 4) (e3 : hw b 3 ≤ hw a 3) (f3 : hw a 3 ≤ hw b 3) (e2 : hw b 2 ≤ hw a 2) (f2 : hw a 2 ≤ hw b 2) (e1 : hw b 1 ≤ hw a 1) (f1 : hw a 1 ≤ hw b 1) (h : hw a 0 < hw b 0) : cmpN a b = -1 := less_at (same_step (same_step (same_step (same_step (same_step (same_step (same_step (same_top ha hb) f7 e7) f6 e6) f5 e5) f4 e4) f3 e3) f2 e2) f1 e1) h
theorem hcmp_G0 {a b : Nat} (ha : a < 2 ^ 256) (hb : b < 2 ^ 256) (e7 : hw b 7 ≤ hw a 7) (f7 : hw a 7 ≤ hw b 7) (e6 : hw b 6 ≤ hw a 6) (f6 : hw a 6 ≤ hw b 6) (e5 : hw b 5 ≤ hw a 5) (f5 : hw a 5 ≤ hw b 5) (e4 : hw b 4 ≤ hw a 4) (f4 : hw a 4 ≤ hw b 4) (e3 : hw b 3 ≤ hw a 3) (f3 : hw a 3 ≤ hw b 3) (e2 : hw b 2 ≤ hw a 2) (f2 : hw a 2 ≤ hw b 2) (e1 : hw b 1 ≤ hw a 1) (f1 : hw a 1 ≤ hw b 1) (h : hw b 0 < hw a 0) : cmpN a b = 1 := more_at (same_step (same_step (same_step (same_step (same_step (same_step (same_step (same_top ha hb) f7 e7) f6 e6) f5 e5) f4 e4) f3 e3) f2 e2) f1 e1) h
theorem hcmp_E {a b : Nat} (ha : a < 2 ^ 256) (hb : b < 2 ^ 256) (e7 : hw b 7 ≤ hw a 7) (f7 : hw a 7 ≤ hw b 7) (e6 : hw b 6 ≤ hw a 6) (f6 : hw a 6 ≤ hw b 6) (e5 : hw b 5 ≤ hw a 5) (f5 : hw a 5 ≤ hw b 5) (e4 : hw b 4 ≤ hw a 4) (f4 : hw a 4 ≤ hw b 4) (e3 : hw b 3 ≤ hw a 3) (f3 : hw a 3 ≤ hw b 3) (e2 : hw b 2 ≤ hw a 2) (f2 : hw a 2 ≤ hw b 2) (e1 : hw b 1 ≤ hw a 1) (f1 : hw a 1 ≤ hw b 1) (e0 : hw b 0 ≤ hw a 0) (f0 : hw a 0 ≤ hw b 0) : cmpN a b = 0 := same_all (same_step (same_step (same_step (same_step (same_step (same_step (same_step (same_step (same_top ha hb) f7 e7) f6 e6) f5 e5) f4 e4) f3 e3) f2 e2) f1 e1) f0 e0)
end Go.Proofs.YtfmmnnodihpgmaaDoor.Wd
namespace Go.Proofs.YtfmmnnodihpgmaaDoor.Wd
set_option linter.all false
@[irreducible] def nl (n : Nat) : Nat := if n = 0 then 0 else Nat.log2 n / 32 + 1
theorem nl_le {n k : Nat} : nl n ≤ k ↔ n < 2 ^ (32 * k) := by
  unfold nl
  by_cases h : n = 0
  · subst h; simp [Nat.pow_pos]
  · rw [if_neg h, ← Nat.log2_lt h]
    have := Nat.div_lt_iff_lt_mul (x := Nat.log2 n) (y := k) (k := 32) (by omega)
    omega
theorem nl_zero : nl 0 = 0 := by unfold nl; simp
theorem nl_pos {n : Nat} (h : 0 < n) : 0 < nl n := by unfold nl; rw [if_neg (by omega)]; omega
theorem nl_none {n : Nat} (h : nl n = 0) : n = 0 := by
  have := nl_le.1 (Nat.le_of_eq h)
  simpa using this
theorem nl_zero_iff {n : Nat} : nl n = 0 ↔ n = 0 := ⟨nl_none, fun h => by rw [h, nl_zero]⟩
theorem hw_past {n j : Nat} (h : nl n ≤ j) : hw n j = 0 := by
  unfold hw
  rw [Nat.div_eq_of_lt (nl_le.1 h)]; rfl
theorem nl_drop {n k : Nat} (h : nl n ≤ k + 1) (h0 : hw n k = 0) : nl n ≤ k := by
  have h1 := nl_le.1 h
  rw [pow32_next] at h1
  refine nl_le.2 ?_
  unfold hw at h0
  have hp : 0 < 2 ^ (32 * k) := Nat.pow_pos (by omega)
  have h2 : n / 2 ^ (32 * k) < 4294967296 := (Nat.div_lt_iff_lt_mul hp).2 (by rw [Nat.mul_comm]; exact h1)
  generalize e0 : n / 2 ^ (32 * k) = q at *
  have h3 : q = 0 := by omega
  subst h3
  rcases Nat.div_eq_zero_iff.1 e0 with h4 | h4
  · omega
  · exact h4
theorem nl_keep {n k : Nat} (h : nl n ≤ k + 1) (h0 : hw n k ≠ 0) : nl n = k + 1 := by
  rcases Nat.lt_or_ge k (nl n) with h1 | h1
  · omega
  · exact absurd (hw_past h1) h0
theorem nl_lt256 {n : Nat} : nl n ≤ 8 ↔ n < 2 ^ 256 := nl_le
theorem nl_mono {a b : Nat} (h : a ≤ b) : nl a ≤ nl b := nl_le.2 (Nat.lt_of_le_of_lt h (nl_le.1 (Nat.le_refl _)))
theorem nl_less {a b : Nat} (h : nl a < nl b) : a < b := by
  rcases Nat.lt_or_ge a b with h1 | h1
  · exact h1
  · have := nl_mono h1; omega
theorem cmp_shorter {a b : Nat} (h : nl a < nl b) : cmpN a b = -1 := by
  have := nl_less h
  unfold cmpN; rw [if_pos this]
theorem cmp_longer {a b : Nat} (h : nl b < nl a) : cmpN a b = 1 := by
  have := nl_less h
  unfold cmpN; rw [if_neg (by omega), if_pos this]
theorem tops {a b : Nat} (h : nl a = nl b) : a / 2 ^ (32 * nl a) = b / 2 ^ (32 * nl a) := by
  rw [Nat.div_eq_of_lt (nl_le.1 (Nat.le_refl _)), Nat.div_eq_of_lt (by rw [h]; exact nl_le.1 (Nat.le_refl _))]
/-- the carry out of the highest half-word is the next half-word of the sum -/
theorem hc_next {a b K : Nat} (ha : nl a ≤ K) (hb : nl b ≤ K) : hc a b K = hw (a + b) K := by
  have h1 := nl_le.1 ha
  have h2 := nl_le.1 hb
  unfold hc hw
  rw [Nat.mod_eq_of_lt h1, Nat.mod_eq_of_lt h2]
  generalize 2 ^ (32 * K) = p at *
  have : (a + b) / p < 2 := (Nat.div_lt_iff_lt_mul (by omega)).2 (by omega)
  generalize (a + b) / p = q at *
  omega
theorem nl_sum {a b K : Nat} (ha : nl a ≤ K) (hb : nl b ≤ K) : nl (a + b) ≤ K + 1 := by
  have h1 := nl_le.1 ha
  have h2 := nl_le.1 hb
  refine nl_le.2 ?_
  rw [pow32_next]
  generalize 2 ^ (32 * K) = p at *
  omega
theorem sm_add {a b : Nat} (h : a + b < 2 ^ 256) : sm a b = a + b := by unfold sm; exact Nat.mod_eq_of_lt h
theorem df_sub {a b : Nat} (h : b ≤ a) (ha : a < 2 ^ 256) : df a b = a - b := by
  unfold df
  rw [show a + 2 ^ 256 - b = (a - b) + 2 ^ 256 by omega, Nat.add_mod_right, Nat.mod_eq_of_lt (by omega)]
theorem nl_small {n : Nat} (h : n < 18446744073709551616) : nl n ≤ 2 := nl_le.2 h
theorem hw_word {n : Nat} (h : n < 18446744073709551616) : hw n 0 = ((n % 4294967296 : Nat) : Int) ∧ hw n 1 = ((n / 4294967296 : Nat) : Int) := by
  refine ⟨hw0 n, ?_⟩
  rw [hw1]; omega
/-- half-words of the half of a number -/
theorem hw_half (n i : Nat) : hw (n / 2) i = hw n i / 2 + hw n (i + 1) % 2 * 2147483648 := by
  unfold hw
  rw [pow32_next, Nat.div_div_eq_div_mul, Nat.mul_comm 2, ← Nat.div_div_eq_div_mul, ← Nat.div_div_eq_div_mul n]
  generalize n / 2 ^ (32 * i) = x
  omega
theorem nl_half {n : Nat} : nl (n / 2) ≤ nl n := nl_mono (Nat.div_le_self _ _)
theorem hw_parity (n : Nat) : hw n 0 % 2 = ((n % 2 : Nat) : Int) := by rw [hw0]; omega
theorem low32 (x : Int) (h0 : 0 ≤ x) (h1 : x ≤ 18446744073709551615) : bits .and .u64 x 4294967295 = x % 4294967296 := by
  rw [u64_and _ _ (by omega) (by omega) (by omega) (by omega), show (4294967295 : Int).toNat = 4294967295 from rfl, nat_mask32]; omega
theorem low1 (x : Int) (h0 : 0 ≤ x) (h1 : x ≤ 18446744073709551615) : bits .and .u64 x 1 = x % 2 := by
  rw [u64_and _ _ (by omega) (by omega) (by omega) (by omega), show (1 : Int).toNat = 1 from rfl, nat_mask1]; omega
theorem high_or (x y : Int) (h0 : 0 ≤ x) (h1 : x ≤ 4294967295) (h2 : 0 ≤ y) (h3 : y ≤ 1) : bits .or .u32 (x / 2) (y * 2147483648) = x / 2 + y * 2147483648 := by
  rw [u32_or _ _ (by omega) (by omega) (by omega) (by omega), Nat.or_comm, nat_join 31 _ _ (by omega) (by omega)]; omega
/-- The cells of a number's half-words. -/
@[irreducible] def digs (n k : Nat) : List Value := (List.range k).map fun j => .int .u32 (hw n j)
theorem digs_zero (n : Nat) : digs n 0 = [] := by unfold digs; rfl
theorem digs_succ (n k : Nat) : digs n (k + 1) = digs n k ++ [.int .u32 (hw n k)] := by unfold digs; rw [List.range_succ, List.map_append]; simp
theorem digs_get (n k j : Nat) (h : j < k) : (digs n k)[j]? = some (.int .u32 (hw n j)) := by unfold digs; simp [h]
end Go.Proofs.YtfmmnnodihpgmaaDoor.Wd
namespace Go.Proofs.YtfmmnnodihpgmaaDoor
set_option linter.all false
open Go Go.RowKit Wd
set_option maxRecDepth 100000
/-- k half-words of a number lie at an address. -/
def NatAt (w : World) (a : Option Addr) (n k : Nat) : Prop := 0 < k → ∃ b o, a = some ⟨b, o, none⟩ ∧ b < w.heap.size ∧ ∀ j, j < k → w.cell? ⟨b, o + j, none⟩ = some (.int .u32 (hw n j))
theorem NatAt.kp {w x : World} {a : Option Addr} {n k : Nat} (h : NatAt w a n k) (K : Kp w.heap.size [] w x) : NatAt x a n k := fun h0 => by
  obtain ⟨b, o, e, hl, hc⟩ := h h0
  exact ⟨b, o, e, Nat.lt_of_lt_of_le hl K.size, fun j hj => (K.cell _ _ hl (by simp)).trans (hc j hj)⟩
theorem NatAt.later {w x : World} {a : Option Addr} {n k : Nat} (h : NatAt w a n k) (hb : Below w.heap.size w x) : NatAt x a n k := h.kp (Below.kp hb)
theorem NatAt.less {w : World} {a : Option Addr} {n k j : Nat} (h : NatAt w a n k) (hj : j ≤ k) : NatAt w a n j := fun h0 => by
  obtain ⟨b, o, e, hl, hc⟩ := h (by omega)
  exact ⟨b, o, e, hl, fun i hi => hc i (by omega)⟩
theorem NatAt.none (w : World) (n : Nat) : NatAt w none n 0 := fun h => absurd h (by omega)
set_option maxHeartbeats 1000000 in
/-- digit: half-word i, 0 beyond the end. -/
theorem ndigit_any (n i c : Nat) (a : Option Addr) (hn : nl n ≤ 64) (hi : i ≤ 64) (w : World) (h : NatAt w a n (nl n)) :
    Calls Tryd.prog 115 #[.slice a (nl n) c, .int .i64 (i : Int)] w fun e w' => e = .returned (.int .u64 (hw n i)) ∧ w' = w := by
  have lo := hw_lo n i
  have hh := hw_hi n i
  by_cases hlt : i < nl n
  · obtain ⟨b, o, rfl, hl, hc⟩ := h (by omega)
    have hci := hc i hlt
    clear hc h
    generalize hw n i = x at *
    generalize nl n = m at *
    have hlti : (i : Int) < (m : Int) := by omega
    go_enter Tryd.func115, Tryd.ntmps115
    go_wp2
    go_returns
    exact ⟨rfl, rfl⟩
  · have e0 := hw_past (n := n) (j := i) (by omega)
    rw [e0]
    clear e0 lo hh h
    generalize nl n = m at *
    have hlti : ¬ (i : Int) < (m : Int) := by omega
    go_enter Tryd.func115, Tryd.ntmps115
    go_wp2
    go_returns
    exact ⟨rfl, rfl⟩
set_option maxHeartbeats 1000000 in
/-- trim: without zeros at the end. -/
theorem ntrim_any (n k c : Nat) (a : Option Addr) (hk : k ≤ 64) (hkc : k ≤ c) (hcm : c ≤ maxLen) (hn : nl n ≤ k) (w : World) (h : NatAt w a n k) :
    Calls Tryd.prog 114 #[.slice a k c] w fun e w' => e = .returned (.slice a (nl n) c) ∧ Below w.heap.size w w' := by
  have D1 := Lib.hid (fun j (h1 : nl n ≤ j + 1) (h2 : hw n j = 0) => nl_drop h1 h2)
  have D2 := Lib.hid (fun j (h1 : nl n ≤ j + 1) (h2 : hw n j ≠ 0) => nl_keep h1 h2)
  by_cases h0 : 0 < k
  · obtain ⟨b, o, rfl, hl, hc⟩ := h h0
    have HC := Lib.hid hc
    have HM := Lib.hid hcm
    clear hc h hcm
    generalize hnl : nl n = m at *
    clear hnl
    go_enter Tryd.func114, Tryd.ntmps114
    go_wp2
    go_loopw [3] (fun i wr => ∃ j : Nat, m ≤ j ∧ j ≤ k ∧ i = .int .i64 (j : Int) ∧ wr = w) (fun i _ => (intOf i).toNat)
    case atStart => exact ⟨k, by omega, by omega, rfl, rfl⟩
    case round =>
      obtain ⟨j, hmj, hjk, rfl, rfl⟩ := hrel
      rcases Nat.eq_zero_or_pos j with rfl | hj
      · obtain rfl : m = 0 := by omega
        go_wp2
        go_returns
        exact ⟨rfl, by go_grown⟩
      · obtain ⟨i, rfl⟩ : ∃ i, j = i + 1 := ⟨j - 1, by omega⟩
        have c1 := HC.out i (by omega)
        have d1 := D1.out i (by omega)
        have d2 := D2.out i (by omega)
        have hlo := hw_lo n i
        have hw1 : IntKind.i64.wrap (((i + 1 : Nat) : Int) - 1) = (i : Int) := by rw [IntKind.wrap_i64]; omega
        generalize hw n i = x at *
        by_cases hx : x = 0
        · subst hx
          have e1 := d1 rfl
          clear d1 d2
          go_wp2
          go_roundw
          case rel => exact ⟨i, by omega, by omega, by go_num, (by first | rfl | trivial)⟩
          case measure => simp [intOf]
        · have e1 := d2 hx
          subst e1
          clear d1 d2
          go_wp2
          go_returns
          exact ⟨rfl, by go_grown⟩
  · obtain rfl : k = 0 := by omega
    have e0 : nl n = 0 := by omega
    rw [e0]
    have HM := Lib.hid hcm
    clear hcm D1 D2 h
    go_enter Tryd.func114, Tryd.ntmps114
    go_wp2
    go_loopw [3] (fun i wr => i = .int .i64 0 ∧ wr = w) (fun i _ => 0)
    case atStart => exact ⟨rfl, rfl⟩
    case round =>
      obtain ⟨rfl, rfl⟩ := hrel
      go_wp2
      go_returns
      exact ⟨rfl, by go_grown⟩
set_option maxHeartbeats 1000000 in
/-- even. -/
theorem neven_any (n c : Nat) (a : Option Addr) (hn : nl n ≤ 64) (w : World) (h : NatAt w a n (nl n)) :
    Calls Tryd.prog 108 #[.slice a (nl n) c] w fun e w' => e = .returned (.bool (decide (n % 2 = 0))) ∧ w' = w := by
  have K := Lib.hid (show ∀ w, NatAt w a n (nl n) → Calls Tryd.prog 115 #[.slice a (nl n) c, .int .i64 0] w fun e w' => e = .returned (.int .u64 (hw n 0)) ∧ w' = w from fun w h => by have := ndigit_any n 0 c a hn (by omega) w h; exact this)
  have hp := hw_parity n
  have lo := hw_lo n 0
  have hh := hw_hi n 0
  have HA := Lib.hid h
  clear h hn
  have e : decide (n % 2 = 0) = decide (hw n 0 % 2 = 0) := by rw [hp]; apply decide_eq_decide.2; omega
  rw [e]
  clear hp e
  generalize hw n 0 = x at *
  generalize nl n = m at *
  have hm : IntKind.u64.wrap (x.tmod 2) = x % 2 := by rw [IntKind.wrap_u64, Int.tmod_eq_emod_of_nonneg lo]; omega
  go_enter Tryd.func108, Tryd.ntmps108
  go_wp2_with fail
  ((with_reducible refine (K.out _ HA.out).mono ?_); rintro e w1 ⟨rfl, rfl⟩)
  go_wp2
  go_returns
  exact ⟨ret_bool (by first | rfl | (simp; done) | (simp; omega)), rfl⟩
set_option maxHeartbeats 1000000 in
/-- compare. -/
theorem ncompare_any (m n c d : Nat) (a b : Option Addr) (hm : nl m ≤ 64) (hn : nl n ≤ 64) (w : World) (h : NatAt w a m (nl m)) (h' : NatAt w b n (nl n)) :
    Calls Tryd.prog 111 #[.slice a (nl m) c, .slice b (nl n) d] w fun e w' => e = .returned (.int .i64 (cmpN m n)) ∧ Below w.heap.size w w' := by
  rcases (by omega : nl m < nl n ∨ nl n < nl m ∨ nl m = nl n) with hl | hl | hl
  · rw [cmp_shorter hl]
    clear h h'
    generalize nl m = x at *
    generalize nl n = y at *
    have h1 : (x : Int) < (y : Int) := by omega
    have h2 : ¬ (x : Int) = (y : Int) := by omega
    go_enter Tryd.func111, Tryd.ntmps111
    go_wp2
    go_returns
    exact ⟨rfl, by go_grown⟩
  · rw [cmp_longer hl]
    clear h h'
    generalize nl m = x at *
    generalize nl n = y at *
    have h1 : ¬ (x : Int) < (y : Int) := by omega
    have h2 : ¬ (x : Int) = (y : Int) := by omega
    go_enter Tryd.func111, Tryd.ntmps111
    go_wp2
    go_returns
    exact ⟨rfl, by go_grown⟩
  · have T := Lib.hid (tops hl)
    rw [← hl] at h' hn ⊢
    have L1 := Lib.hid (fun i h1 h2 => less_at (a := m) (b := n) (i := i) h1 h2)
    have L2 := Lib.hid (fun i h1 h2 => more_at (a := m) (b := n) (i := i) h1 h2)
    have L3 := Lib.hid (fun h1 => same_all (a := m) (b := n) h1)
    have L4 := Lib.hid (fun i h1 h2 h3 => same_step (a := m) (b := n) (i := i) h1 h2 h3)
    have L5 := Lib.hid (show ∀ i, 0 ≤ hw m i ∧ hw m i ≤ 4294967295 ∧ 0 ≤ hw n i ∧ hw n i ≤ 4294967295 from fun i => ⟨hw_lo m i, hw_hi m i, hw_lo n i, hw_hi n i⟩)
    have HA := Lib.hid h
    have HB := Lib.hid h'
    clear h h' hl
    generalize nl m = K at *
    generalize cmpN m n = r at *
    go_enter Tryd.func111, Tryd.ntmps111
    go_wp2
    go_loopw [5] (fun i wr => ∃ j : Nat, j ≤ K ∧ i = .int .i64 ((j : Int) - 1) ∧ Hid (m / 2 ^ (32 * j) = n / 2 ^ (32 * j)) ∧ Hid (Below w.heap.size w wr)) (fun i _ => (intOf i + 1).toNat)
    case atStart => exact ⟨K, by omega, rfl, T, Lib.hid (Below.refl _ _)⟩
    case round =>
      obtain ⟨j, hj, rfl, hS, hB⟩ := hrel
      rcases Nat.eq_zero_or_pos j with rfl | hj0
      · obtain rfl := L3.out hS.out
        go_wp2
        go_returns
        exact ⟨rfl, hB.out⟩
      · obtain ⟨i, rfl⟩ : ∃ i, j = i + 1 := ⟨j - 1, by omega⟩
        obtain ⟨b1, o1, rfl, l1, c1⟩ := (HA.out.later hB.out) (by omega)
        obtain ⟨b2, o2, rfl, l2, c2⟩ := (HB.out.later hB.out) (by omega)
        have d1 := c1 i (by omega)
        have d2 := c2 i (by omega)
        have hi : (((i + 1 : Nat) : Int) - 1) = (i : Int) := by omega
        rw [hi]
        have l4 := L4.out i hS.out
        have m1 := L1.out i hS.out
        have m2 := L2.out i hS.out
        have m3 := L5.out i
        have hiK : (i : Int) < (K : Int) := by omega
        have hi0 : (0 : Int) ≤ (i : Int) := by omega
        have hw1 : IntKind.i64.wrap ((i : Int) - 1) = (i : Int) - 1 := by rw [IntKind.wrap_i64]; omega
        clear c1 c2
        generalize hw m i = x at *
        generalize hw n i = y at *
        rcases (by omega : x < y ∨ y < x ∨ x = y) with hc | hc | hc
        · obtain rfl := m1 hc
          have hB1 := hB.out
          clear l4 m1 m2
          go_wp2
          go_region
          go_wp2
          go_returns
          exact ⟨rfl, by (repeat' (first | (with_reducible exact Below.refl _ _) | (with_reducible assumption) | (with_reducible refine below_alloc ?_ _) | (with_reducible refine Below.drew ?_) | (with_reducible refine Below.setCell ?_ ?_ _) | (with_reducible refine below_after ?_ (by assumption)) | go_size))⟩
        · obtain rfl := m2 hc
          have hc1 : ¬ x < y := by omega
          have hB1 := hB.out
          clear l4 m1 m2
          go_wp2
          go_region
          go_wp2
          go_region
          go_wp2
          go_returns
          exact ⟨rfl, by (repeat' (first | (with_reducible exact Below.refl _ _) | (with_reducible assumption) | (with_reducible refine below_alloc ?_ _) | (with_reducible refine Below.drew ?_) | (with_reducible refine Below.setCell ?_ ?_ _) | (with_reducible refine below_after ?_ (by assumption)) | go_size))⟩
        · subst hc
          have s1 := Lib.hid (l4 (Int.le_refl _) (Int.le_refl _))
          have hB1 := hB.out
          clear l4 m1 m2
          go_wp2
          go_region
          go_wp2
          go_region
          go_wp2
          go_roundw
          case rel => exact ⟨i, by omega, by go_num, s1, Lib.hid (by (repeat' (first | (with_reducible exact Below.refl _ _) | (with_reducible assumption) | (with_reducible refine below_alloc ?_ _) | (with_reducible refine Below.drew ?_) | (with_reducible refine Below.setCell ?_ ?_ _) | (with_reducible refine below_after ?_ (by assumption)) | go_size)))⟩
          case measure => simp [intOf]
set_option maxHeartbeats 1000000 in
/-- small: a word as a number. -/
theorem nsmall_any (n : Nat) (hn : n < 18446744073709551616) (w : World) :
    Calls Tryd.prog 103 #[.int .u64 (n : Int)] w fun e w' => ∃ a c, e = .returned (.slice a (nl n) c) ∧ NatAt w' a n (nl n) ∧ Below w.heap.size w w' ∧ (∀ p, a = some p → w.heap.size ≤ p.block) := by
  have hl := nl_small hn
  obtain ⟨h0, h1⟩ := hw_word hn
  have TR := Lib.hid (fun c (hc : 2 ≤ c) (hcm : c ≤ maxLen) a w h => ntrim_any n 2 c a (by omega) hc hcm hl w h)
  have b0 := hw_lo n 0
  have b1 := hw_hi n 0
  have b2 := hw_lo n 1
  have b3 := hw_hi n 1
  have r1 : IntKind.u32.wrap (hw n 0) = hw n 0 := by rw [IntKind.wrap_u32]; omega
  have r2 : IntKind.u32.wrap (hw n 1) = hw n 1 := by rw [IntKind.wrap_u32]; omega
  have r3 : bits .and .u64 (n : Int) 4294967295 = hw n 0 := by rw [low32 _ (by omega) (by omega), h0]; omega
  have r4 : (n : Int) / 4294967296 = hw n 1 := by rw [h1]; omega
  have r5 : hw n 0 % 4294967296 = hw n 0 := by omega
  clear h0 h1
  generalize hx : hw n 0 = x at *
  generalize hy : hw n 1 = y at *
  have HX := Lib.hid hx
  have HY := Lib.hid hy
  have HL := Lib.hid hl
  clear hx hy hl hn
  go_enter Tryd.func103, Tryd.ntmps103
  go_wp2_with fail
  have hN : NatAt (w.alloc (.cells #[.int .u32 x, .int .u32 y] 153)) (some ⟨w.heap.size, 0, none⟩) n 2 := fun _ => ⟨w.heap.size, 0, rfl, by simp, fun j hj => by
    rcases (by omega : j = 0 ∨ j = 1) with rfl | rfl
    · rw [HX.out]; exact World.cell?_alloc_new _ _ _ _
    · rw [HY.out]; exact World.cell?_alloc_new _ _ _ _⟩
  have HN := Lib.hid hN
  clear hN
  ((with_reducible refine (TR.out 2 (by omega) (by unfold maxLen; omega) _ _ HN.out).mono ?_); rintro e w1 ⟨rfl, hb1⟩)
  have HR := Lib.hid ((HN.out.less HL.out).later hb1)
  go_wp2
  go_returns
  exact ⟨_, _, rfl, HR.out, by (repeat' (first | (with_reducible exact Below.refl _ _) | (with_reducible assumption) | (with_reducible refine below_alloc ?_ _) | (with_reducible refine Below.drew ?_) | (with_reducible refine Below.setCell ?_ ?_ _) | (with_reducible refine below_after ?_ (by assumption)) | go_size)), fun p hp => by cases hp; exact Nat.le_refl _⟩
end Go.Proofs.YtfmmnnodihpgmaaDoor
namespace Go.Proofs.YtfmmnnodihpgmaaDoor
set_option linter.all false
open Go Go.RowKit Wd
set_option maxRecDepth 100000
theorem infoU : (Tryd.prog.info? 153).map (fun i => (i.zero, i.size, i.bytes)) = some (some (.int .u32 0), 1, 4) := by kernel_rfl
/-- A slice of a call's own that holds k half-words of a number. -/
structure Dg (b0 : Nat) (w0 w : World) (v : Value) (n k : Nat) : Prop where
  own : w.ownsRow b0 153 1 v k (digs n k)
  below : Below b0 w0 w
  base : b0 ≤ w.heap.size
theorem Dg.start (w : World) (n : Nat) : Dg w.heap.size w w (.slice none 0 0) n 0 := ⟨by rw [digs_zero]; exact World.ownsRow_nil _ _ _ _, Below.refl _ _, Nat.le_refl _⟩
theorem Dg.push {b0 : Nat} {w0 w w1 : World} {v : Value} {n k : Nat} {g cap : Nat} {O : Obj} (h : Dg b0 w0 w v n k)
    (hown : w1.ownsRow b0 153 1 (.slice (some ⟨g, 0, none⟩) (k + 1) cap) (k + 1) (digs n k ++ [.int .u32 (hw n k)])) (hg : (w.alloc O).grownBy w1 v.ownBlock) : Dg b0 w0 w1 (.slice (some ⟨g, 0, none⟩) (k + 1) cap) n (k + 1) :=
  ⟨by rw [digs_succ]; exact hown, (h.below.alloc h.base O).grown hg (by simp; have := h.base; omega) (fun q hq => (h.own.lt q hq).1), Nat.le_trans h.base (by have := hg.size; simp at this; omega)⟩
theorem Dg.pushD {b0 : Nat} {w0 w w1 : World} {v : Value} {n k : Nat} {g cap : Nat} {O : Obj} (h : Dg b0 w0 w v n k)
    (hown : w1.ownsRow b0 153 1 (.slice (some ⟨g, 0, none⟩) (k + 1) cap) (k + 1) (digs n k ++ [.int .u32 (hw n k)])) (hg : (w.drew.alloc O).grownBy w1 v.ownBlock) : Dg b0 w0 w1 (.slice (some ⟨g, 0, none⟩) (k + 1) cap) n (k + 1) :=
  Dg.push (w := w.drew) ⟨h.own.drew, h.below.drew, h.base⟩ hown hg
theorem Dg.nat {b0 : Nat} {w0 w : World} {v : Value} {n k : Nat} (h : Dg b0 w0 w v n k) : ∃ a c, v = .slice a k c ∧ k ≤ c ∧ c ≤ maxLen ∧ NatAt w a n k := by
  rcases h.own.2 with ⟨h1, h2⟩ | ⟨g, cap, cur, hv, hg, hh, hn, hm, hs, ht⟩
  · subst h2
    exact ⟨none, 0, h1, Nat.le_refl _, Nat.zero_le _, NatAt.none _ _⟩
  · subst hv
    refine ⟨_, cap, rfl, hn, hm, fun h0 => ⟨g, 0, rfl, (h.own.lt g rfl).2, fun j hj => ?_⟩⟩
    rw [Nat.zero_add, h.own.cellAt j (by omega), digs_get n k j hj]
theorem news1 (w : World) (v : Value) (T : TypeId) : ∀ j u, ([v] : List Value)[j]? = some u → (w.alloc (.cells #[v] T)).cell? ((⟨w.heap.size, 0, none⟩ : Addr).add j) = some u :=
  World.news_of_block (cs := #[v]) (t := T) (fr := (0, 0)) (heap_alloc_new w _)
set_option maxHeartbeats 2000000 in
/-- plus. -/
theorem nplus_any (m n c d : Nat) (a b : Option Addr) (hmn : m + n < 2 ^ 256) (w : World) (h : NatAt w a m (nl m)) (h' : NatAt w b n (nl n)) :
    Calls Tryd.prog 110 #[.slice a (nl m) c, .slice b (nl n) d] w fun e w' => ∃ a' c', e = .returned (.slice a' (nl (m + n)) c') ∧ NatAt w' a' (m + n) (nl (m + n)) ∧ Below w.heap.size w w' ∧ (∀ p, a' = some p → w.heap.size ≤ p.block) := by
  have hm8 : nl m ≤ 8 := nl_lt256.2 (Nat.lt_of_le_of_lt (Nat.le_add_right _ _) hmn)
  have hn8 : nl n ≤ 8 := nl_lt256.2 (Nat.lt_of_le_of_lt (Nat.le_add_left _ _) hmn)
  have AD := Lib.hid (fun i (hi : i < 8) => add_hw m n i hi)
  rw [sm_add hmn] at AD
  have HC := Lib.hid (fun i => hc_bit m n i)
  have HW := Lib.hid (show ∀ x i, 0 ≤ hw x i ∧ hw x i ≤ 4294967295 from fun x i => ⟨hw_lo x i, hw_hi x i⟩)
  have TOP := Lib.hid (fun K h1 h2 => hc_next (a := m) (b := n) (K := K) h1 h2)
  have SUM := Lib.hid (fun K h1 h2 => nl_sum (a := m) (b := n) (K := K) h1 h2)
  have DA := Lib.hid (fun (i : Nat) (hi : i ≤ 64) x (hb : Below w.heap.size w x) => ndigit_any m i c a (by omega) hi x (h.later hb))
  have DB := Lib.hid (fun (i : Nat) (hi : i ≤ 64) x (hb : Below w.heap.size w x) => ndigit_any n i d b (by omega) hi x (h'.later hb))
  have TR := Lib.hid (fun k c a (hk : k ≤ 64) (hkc : k ≤ c) (hcm : c ≤ maxLen) hl w h => ntrim_any (m + n) k c a hk hkc hcm hl w h)
  have C0 := hc_zero m n
  have D0 := Lib.hid (Dg.start w (m + n))
  have HML := Lib.hid (show ∀ q : Nat, q ≤ 1000 → q + 1 ≤ maxLen from fun q hq => by unfold maxLen; omega)
  have HLT := Lib.hid (show ∀ k, nl (m + n) ≤ k → nl (m + n) ≤ k from fun k h => h)
  obtain ⟨i0, hinf, hz0, hz1, hz2⟩ := info_parts infoU
  clear hmn h h'
  generalize m + n = s at *
  generalize nl m = x at *
  generalize nl n = y at *
  go_enter Tryd.func110, Tryd.ntmps110
  go_wp2
  go_loopg [5, 6, 7] (max x y) (fun gg ov cv iv wr => ∃ i : Nat, i ≤ max x y ∧ max x y - i ≤ gg ∧ iv = .int .i64 (i : Int) ∧ cv = .int .u64 (hc m n i) ∧ Hid (Dg w.heap.size w wr ov s i))
  case atStart => exact ⟨0, by omega, by omega, rfl, by rw [C0], D0⟩
  case round =>
    obtain ⟨i, hi, hgi, rfl, rfl, hD⟩ := hrel
    have hB0 := hD.out.below
    have hba := hD.out.base
    rcases (by omega : (i < x ∨ (¬ i < x ∧ i < y)) ∨ (¬ i < x ∧ ¬ i < y)) with hlt | ⟨hx, hy⟩
    · have hi8 : i < 8 := by omega
      have A := AD.out i hi8
      have b1 := HC.out i
      have b2 := HC.out (i + 1)
      have b3 := HW.out m i
      have b4 := HW.out n i
      have b5 := HW.out s i
      have KA := Lib.hid (DA.out i (by omega) wr hB0)
      have KB := Lib.hid (DB.out i (by omega) wr hB0)
      have hD' := hD
      have e5 : ∃ z, z = hw s i := ⟨_, rfl⟩
      obtain ⟨dg, hdg⟩ := e5
      have HDG := Lib.hid hdg
      rw [← hdg] at A b5
      clear hdg hD AD HC HW TOP SUM DA DB TR HLT D0
      generalize hw m i = p at *
      generalize hw n i = q at *
      generalize hc m n i = cc at *
      generalize hcn : hc m n (i + 1) = cn at *
      have HCN := Lib.hid hcn
      clear hcn
      have r1 : IntKind.u64.wrap (p + q) = p + q := by rw [IntKind.wrap_u64]; omega
      have r2 : IntKind.u64.wrap (p + q + cc) = p + q + cc := by rw [IntKind.wrap_u64]; omega
      have r3 : bits .and .u64 (p + q + cc) 4294967295 = dg := by rw [low32 _ (by omega) (by omega), ← A.1]; congr 1; omega
      have r4 : dg % 4294967296 = dg := by omega
      have r5 : (p + q + cc) / 4294967296 = cn := by rw [← A.2]; congr 1; omega
      clear A b1 b2 b3 b4 b5 C0
      have hil : (x : Int) ≤ 8 ∧ (y : Int) ≤ 8 := by omega
      rcases hlt with hlt | ⟨hlt, hlt2⟩
      · have g1 : (i : Int) < (x : Int) := by omega
        go_wp2_with (first
          | (go_at_call 115; first
              | ((with_reducible refine KA.out.mono ?_); rintro e w1 ⟨rfl, he⟩; subst he)
              | ((with_reducible refine KB.out.mono ?_); rintro e w1 ⟨rfl, he⟩; subst he))
          | (at_builtin; refine wpList_append_lies _ rfl _ _ 113 rfl w.heap.size 153 i0 (.int .u32 0) 1 4 Tryd.underlying113 hinf hz0 hz1 hz2 rfl (by decide) _ i (digs s i) rfl (hD'.out.own.alloc _) ⟨_, 0, none⟩ 1 1 [.int .u32 dg] rfl rfl (news1 _ _ _) (by simp [Value.oneCell']) (by omega) (HML.out i (by omega)) (by omega) (by simp; omega) _ rfl ?_)
          | go_in)
        intro g cap w1 hown hgrow hat hlt
        have hD2 := Lib.hid (hD'.out.push (by rw [← HDG.out]; exact hown) hgrow)
        clear hown hgrow hat hlt hD' hB0 hba KA KB
        go_wp2
        go_roundg (max x y - (i + 1))
        case rel => exact ⟨i + 1, by omega, by omega, by go_num, by rw [HCN.out], hD2⟩
        case measure => omega
      · have g1 : ¬ (i : Int) < (x : Int) := by omega
        have g2 : (i : Int) < (y : Int) := by omega
        go_wp2_with (first
          | (go_at_call 115; first
              | ((with_reducible refine KA.out.mono ?_); rintro e w1 ⟨rfl, he⟩; subst he)
              | ((with_reducible refine KB.out.mono ?_); rintro e w1 ⟨rfl, he⟩; subst he))
          | (at_builtin; refine wpList_append_lies _ rfl _ _ 113 rfl w.heap.size 153 i0 (.int .u32 0) 1 4 Tryd.underlying113 hinf hz0 hz1 hz2 rfl (by decide) _ i (digs s i) rfl (hD'.out.own.alloc _) ⟨_, 0, none⟩ 1 1 [.int .u32 dg] rfl rfl (news1 _ _ _) (by simp [Value.oneCell']) (by omega) (HML.out i (by omega)) (by omega) (by simp; omega) _ rfl ?_)
          | go_in)
        intro g cap w1 hown hgrow hat hlt
        have hD2 := Lib.hid (hD'.out.push (by rw [← HDG.out]; exact hown) hgrow)
        clear hown hgrow hat hlt hD' hB0 hba KA KB
        go_wp2
        go_roundg (max x y - (i + 1))
        case rel => exact ⟨i + 1, by omega, by omega, by go_num, by rw [HCN.out], hD2⟩
        case measure => omega
    · obtain rfl : i = max x y := by omega
      generalize hmx : max x y = K at *
      have e1 := TOP.out K (by omega) (by omega)
      have e2 := SUM.out K (by omega) (by omega)
      have b1 := HC.out K
      rw [e1] at b1 ⊢
      have g1 : ¬ (K : Int) < (x : Int) := by omega
      have g2 : ¬ (K : Int) < (y : Int) := by omega
      have e5 : ∃ z, z = hw s K := ⟨_, rfl⟩
      obtain ⟨dg, hdg⟩ := e5
      have HDG := Lib.hid hdg
      have E2 := Lib.hid e2
      rw [← hdg] at b1 ⊢
      clear hdg AD HC HW TOP SUM DA DB D0 e1 e2
      have r4 : dg % 4294967296 = dg := by omega
      have hK : K ≤ 8 := by omega
      clear hmx hi hx hy b1
      go_wp2_with (first
        | (go_at_call 115; first
            | ((with_reducible refine KA.out.mono ?_); rintro e w1 ⟨rfl, he⟩; subst he)
            | ((with_reducible refine KB.out.mono ?_); rintro e w1 ⟨rfl, he⟩; subst he))
        | (at_builtin; refine wpList_append_lies _ rfl _ _ 113 rfl w.heap.size 153 i0 (.int .u32 0) 1 4 Tryd.underlying113 hinf hz0 hz1 hz2 rfl (by decide) _ K (digs s K) rfl (hD.out.own.alloc _) ⟨_, 0, none⟩ 1 1 [.int .u32 dg] rfl rfl (news1 _ _ _) (by simp [Value.oneCell']) (by omega) (HML.out K (by omega)) (by omega) (by simp; omega) _ rfl ?_)
        | go_in)
      intro g cap w1 hown hgrow hat hlt
      have hD2 := Lib.hid (hD.out.push (by rw [← HDG.out]; exact hown) hgrow)
      clear hown hgrow hat hlt hD
      obtain ⟨a2, c2, e6, h6, h7, h8⟩ := hD2.out.nat
      have hfr := (hD2.out.own.lt g rfl).1
      simp only [Value.slice.injEq] at e6
      obtain ⟨rfl, -, rfl⟩ := e6
      have HN := Lib.hid h8
      have H7 := Lib.hid h7
      have h9 := hD2.out.below
      clear h8 h7 hB0 hba
      go_wp2_with fail
      ((with_reducible refine (TR.out (K + 1) cap _ (by omega) h6 H7.out E2.out _ HN.out).mono ?_); rintro e w2 ⟨rfl, hb2⟩)
      have HR := Lib.hid ((HN.out.less E2.out).later hb2)
      go_wp2
      go_returns
      exact ⟨_, _, rfl, HR.out, by (repeat' (first | (with_reducible exact Below.refl _ _) | (with_reducible assumption) | (with_reducible refine below_alloc ?_ _) | (with_reducible refine Below.drew ?_) | (with_reducible refine Below.setCell ?_ ?_ _) | (with_reducible refine below_after ?_ (by assumption)) | go_size)), fun p hp => by cases hp; exact hfr⟩
set_option maxHeartbeats 2000000 in
/-- minus, for a lesser number. -/
theorem nminus_any (m n c d : Nat) (a b : Option Addr) (hle : n ≤ m) (hm : m < 2 ^ 256) (w : World) (h : NatAt w a m (nl m)) (h' : NatAt w b n (nl n)) :
    Calls Tryd.prog 112 #[.slice a (nl m) c, .slice b (nl n) d] w fun e w' => ∃ a' c', e = .returned (.slice a' (nl (m - n)) c') ∧ NatAt w' a' (m - n) (nl (m - n)) ∧ Below w.heap.size w w' ∧ (∀ p, a' = some p → w.heap.size ≤ p.block) := by
  have hm8 : nl m ≤ 8 := nl_lt256.2 hm
  have hn8 : nl n ≤ 8 := Nat.le_trans (nl_mono hle) hm8
  have AD := Lib.hid (fun i (hi : i < 8) => sub_hw m n i (Nat.le_trans hle (Nat.le_add_right _ _)) hi)
  rw [df_sub hle hm] at AD
  have HC := Lib.hid (fun i => hb_bit m n i)
  have HW := Lib.hid (show ∀ x i, 0 ≤ hw x i ∧ hw x i ≤ 4294967295 from fun x i => ⟨hw_lo x i, hw_hi x i⟩)
  have SUM := Lib.hid (nl_mono (Nat.sub_le m n))
  have DA := Lib.hid (fun (i : Nat) (hi : i ≤ 64) x (hb : Below w.heap.size w x) => ndigit_any m i c a (by omega) hi x (h.later hb))
  have DB := Lib.hid (fun (i : Nat) (hi : i ≤ 64) x (hb : Below w.heap.size w x) => ndigit_any n i d b (by omega) hi x (h'.later hb))
  have TR := Lib.hid (fun k c a (hk : k ≤ 64) (hkc : k ≤ c) (hcm : c ≤ maxLen) hl w h => ntrim_any (m - n) k c a hk hkc hcm hl w h)
  have C0 := hb_zero m n
  have D0 := Lib.hid (Dg.start w (m - n))
  have HML := Lib.hid (show ∀ q : Nat, q ≤ 1000 → q + 1 ≤ maxLen from fun q hq => by unfold maxLen; omega)
  obtain ⟨i0, hinf, hz0, hz1, hz2⟩ := info_parts infoU
  clear hm h h' hle
  generalize m - n = s at *
  generalize nl m = x at *
  generalize nl n = y at *
  go_enter Tryd.func112, Tryd.ntmps112
  go_wp2
  go_loopg [5, 6, 7] x (fun gg ov cv iv wr => ∃ i : Nat, i ≤ x ∧ x - i ≤ gg ∧ iv = .int .i64 (i : Int) ∧ cv = .int .u64 (hb m n i) ∧ Hid (Dg w.heap.size w wr ov s i))
  case atStart => exact ⟨0, by omega, by omega, rfl, by rw [C0], D0⟩
  case round =>
    obtain ⟨i, hi, hgi, rfl, rfl, hD⟩ := hrel
    have hB0 := hD.out.below
    have hba := hD.out.base
    by_cases hlt : i < x
    · have hi8 : i < 8 := by omega
      have A := AD.out i hi8
      have b1 := HC.out i
      have b2 := HC.out (i + 1)
      have b3 := HW.out m i
      have b4 := HW.out n i
      have b5 := HW.out s i
      have KA := Lib.hid (DA.out i (by omega) wr hB0)
      have KB := Lib.hid (DB.out i (by omega) wr hB0)
      have hD' := hD
      have e5 : ∃ z, z = hw s i := ⟨_, rfl⟩
      obtain ⟨dg, hdg⟩ := e5
      have HDG := Lib.hid hdg
      rw [← hdg] at A b5
      clear hdg hD AD HC HW SUM DA DB TR D0
      generalize hw m i = p at *
      generalize hw n i = q at *
      generalize hb m n i = cc at *
      generalize hcn : hb m n (i + 1) = cn at *
      have HCN := Lib.hid hcn
      clear hcn
      have r0 : IntKind.u64.wrap (4294967296 + p) = 4294967296 + p := by rw [IntKind.wrap_u64]; omega
      have r1 : IntKind.u64.wrap (4294967296 + p - q) = 4294967296 + p - q := by rw [IntKind.wrap_u64]; omega
      have r2 : IntKind.u64.wrap (4294967296 + p - q - cc) = 4294967296 + p - q - cc := by rw [IntKind.wrap_u64]; omega
      have r3 : bits .and .u64 (4294967296 + p - q - cc) 4294967295 = dg := by rw [low32 _ (by omega) (by omega), ← A.1]
      have r4 : dg % 4294967296 = dg := by omega
      have r5 : IntKind.u64.wrap (1 - (4294967296 + p - q - cc) / 4294967296) = cn := by rw [A.2, IntKind.wrap_u64]; omega
      clear A b1 b2 b3 b4 b5 C0
      have hil : (x : Int) ≤ 8 ∧ (y : Int) ≤ 8 := by omega
      have g1 : (i : Int) < (x : Int) := by omega
      go_wp2_with (first
        | (go_at_call 115; first
            | ((with_reducible refine KA.out.mono ?_); rintro e w1 ⟨rfl, he⟩; subst he)
            | ((with_reducible refine KB.out.mono ?_); rintro e w1 ⟨rfl, he⟩; subst he))
        | (at_builtin; refine wpList_append_lies _ rfl _ _ 113 rfl w.heap.size 153 i0 (.int .u32 0) 1 4 Tryd.underlying113 hinf hz0 hz1 hz2 rfl (by decide) _ i (digs s i) rfl (hD'.out.own.alloc _) ⟨_, 0, none⟩ 1 1 [.int .u32 dg] rfl rfl (news1 _ _ _) (by simp [Value.oneCell']) (by omega) (HML.out i (by omega)) (by omega) (by simp; omega) _ rfl ?_)
        | go_in)
      intro g cap w1 hown hgrow hat hlt
      have hD2 := Lib.hid (hD'.out.push (by rw [← HDG.out]; exact hown) hgrow)
      clear hown hgrow hat hlt hD' hB0 hba KA KB
      go_wp2
      go_roundg (x - (i + 1))
      case rel => exact ⟨i + 1, by omega, by omega, by go_num, by rw [HCN.out], hD2⟩
      case measure => omega
    · obtain rfl : i = x := by omega
      have g1 : ¬ (i : Int) < (i : Int) := by omega
      obtain ⟨a2, c2, rfl, h6, h7, h8⟩ := hD.out.nat
      have hfr : ∀ p, a2 = some p → w.heap.size ≤ p.block := fun p hp => (hD.out.own.lt p.block (by rw [hp]; rfl)).1
      have HFR := Lib.hid hfr
      clear hfr
      have HN := Lib.hid h8
      have H7 := Lib.hid h7
      clear h8 h7 hba AD HC HW DA DB D0
      go_wp2_with fail
      ((with_reducible refine (TR.out i c2 _ (by omega) h6 H7.out SUM.out _ HN.out).mono ?_); rintro e w2 ⟨rfl, hb2⟩)
      have HR := Lib.hid ((HN.out.less SUM.out).later hb2)
      go_wp2
      go_returns
      exact ⟨_, _, rfl, HR.out, by (repeat' (first | (with_reducible exact Below.refl _ _) | (with_reducible assumption) | (with_reducible refine below_alloc ?_ _) | (with_reducible refine Below.drew ?_) | (with_reducible refine Below.setCell ?_ ?_ _) | (with_reducible refine below_after ?_ (by assumption)) | go_size)), HFR.out⟩
end Go.Proofs.YtfmmnnodihpgmaaDoor
namespace Go.Proofs.YtfmmnnodihpgmaaDoor
set_option linter.all false
open Go Go.RowKit Wd
set_option maxRecDepth 100000
set_option maxHeartbeats 2000000 in
/-- half. -/
theorem nhalf_any (n c : Nat) (a : Option Addr) (hn : n < 2 ^ 256) (w : World) (h : NatAt w a n (nl n)) :
    Calls Tryd.prog 109 #[.slice a (nl n) c] w fun e w' => ∃ a' c', e = .returned (.slice a' (nl (n / 2)) c') ∧ NatAt w' a' (n / 2) (nl (n / 2)) ∧ Below w.heap.size w w' := by
  have hn8 : nl n ≤ 8 := nl_lt256.2 hn
  have AD := Lib.hid (fun i => hw_half n i)
  have HW := Lib.hid (show ∀ x i, 0 ≤ hw x i ∧ hw x i ≤ 4294967295 from fun x i => ⟨hw_lo x i, hw_hi x i⟩)
  have SUM2 := Lib.hid (nl_half (n := n))
  have DA := Lib.hid (fun (i : Nat) (hi : i ≤ 64) x (hb : Below w.heap.size w x) => ndigit_any n i c a (by omega) hi x (h.later hb))
  have TR := Lib.hid (fun k c a (hk : k ≤ 64) (hkc : k ≤ c) (hcm : c ≤ maxLen) hl w h => ntrim_any (n / 2) k c a hk hkc hcm hl w h)
  have D0 := Lib.hid (Dg.start w (n / 2))
  have HML := Lib.hid (show ∀ q : Nat, q ≤ 1000 → q + 1 ≤ maxLen from fun q hq => by unfold maxLen; omega)
  have HN := Lib.hid h
  obtain ⟨i0, hinf, hz0, hz1, hz2⟩ := info_parts infoU
  clear hn h
  generalize n / 2 = s at *
  generalize nl n = x at *
  go_enter Tryd.func109, Tryd.ntmps109
  go_wp2
  go_loopg [3, 4] x (fun gg ov iv wr => ∃ i : Nat, i ≤ x ∧ x - i ≤ gg ∧ iv = .int .i64 (i : Int) ∧ Hid (Dg w.heap.size w wr ov s i))
  case atStart => exact ⟨0, by omega, by omega, rfl, D0⟩
  case round =>
    obtain ⟨i, hi, hgi, rfl, hD⟩ := hrel
    have hB0 := hD.out.below
    have hba := hD.out.base
    by_cases hlt : i < x
    · obtain ⟨b, o, ea, lb, hc⟩ := HN.out (by omega)
      have A := AD.out i
      have b1 := HW.out n i
      have b2 := HW.out n (i + 1)
      have KD := Lib.hid (show ∀ v, Below w.heap.size w v → Calls Tryd.prog 115 #[.slice (some ⟨b, o, none⟩) x c, .int .i64 ((i : Int) + 1)] v fun e w' => e = .returned (.int .u64 (hw n (i + 1))) ∧ w' = v from by
        have K := DA.out (i + 1) (by omega)
        rw [ea] at K
        simpa using K)
      have ci := hc i hlt
      have hS := Lib.hid (show ∀ v, Below w.heap.size w v → v.cell? ⟨b, o + i, none⟩ = some (.int .u32 (hw n i)) ∧ b < v.heap.size from fun v hb => ⟨(hb.cell (p := ⟨b, o + i, none⟩) lb).trans ci, keep_lt hb lb⟩)
      obtain ⟨dg, hdg⟩ : ∃ z, z = hw s i := ⟨_, rfl⟩
      have HDG := Lib.hid hdg
      rw [← hdg] at A
      clear hdg ci hc AD HW SUM2 DA TR D0 HN
      generalize hw n i = p at *
      generalize hw n (i + 1) = q at *
      subst ea
      have g1 : (i : Int) < (x : Int) := by omega
      have r1 : bits .and .u64 q 1 = q % 2 := low1 q b2.1 (by omega)
      have r2 : bits .or .u32 (p / 2) (q % 2 * 2147483648) = dg := by rw [high_or p (q % 2) b1.1 b1.2 (by omega) (by omega), ← A]
      have r3 : IntKind.i64.wrap ((i : Int) + 1) = (i : Int) + 1 := by rw [IntKind.wrap_i64]; omega
      have r4 : IntKind.u32.wrap (q % 2) = q % 2 := by rw [IntKind.wrap_u32]; omega
      have r5 : IntKind.u32.wrap (q % 2 * 2147483648) = q % 2 * 2147483648 := by rw [IntKind.wrap_u32]; omega
      clear A
      have s0 := (hS.out wr hB0).1
      have s1 := (hS.out wr hB0).2
      go_upto_region 5 with (fail)
      refine wp_region_held_drew (S := fun x => x.cell? ⟨b, o + i, none⟩ = some (.int .u32 p) ∧ b < x.heap.size) (by kernel_rfl) (by (refine hS.out _ ?_; (repeat (first | (with_reducible assumption) | (with_reducible refine Below.drew ?_) | ((with_reducible refine below_alloc' ?_ ?_ _); (focus (first | omega | (simp; done) | (simp; omega)))))))) (fun hHeld => ?_)
      iterate 17 (all_goals (first
        | ((refine wpAnyH_take (i := 0) (v := u3) rfl (by kernel_rfl) (by decide +kernel) (by decide +kernel) (fun _ _ _ h => h) (Or.inl ⟨rfl, fun x hx => (by ((try dsimp only at hx); go_simp))⟩) hHeld ?_); (try simp only [List.getElem_toArray, List.getElem_cons_succ, List.getElem_cons_zero, Act.put, List.setIfInBounds_toArray, List.set_cons_zero, List.set_cons_succ]))
        | ((refine wpAnyH_take (i := 1) (v := .slice (some ⟨b, o, none⟩) x c) rfl (by kernel_rfl) (by decide +kernel) (by decide +kernel) (fun _ _ _ h => h) (Or.inl ⟨rfl, fun x hx => (by ((try dsimp only at hx); go_simp))⟩) hHeld ?_); (try simp only [List.getElem_toArray, List.getElem_cons_succ, List.getElem_cons_zero, Act.put, List.setIfInBounds_toArray, List.set_cons_zero, List.set_cons_succ]))
        | ((refine wpAnyH_take (i := 2) (v := .int .i64 (i : Int)) rfl (by kernel_rfl) (by decide +kernel) (by decide +kernel) (fun _ _ _ h => h) (Or.inl ⟨rfl, fun x hx => (by ((try dsimp only at hx); go_simp))⟩) hHeld ?_); (try simp only [List.getElem_toArray, List.getElem_cons_succ, List.getElem_cons_zero, Act.put, List.setIfInBounds_toArray, List.set_cons_zero, List.set_cons_succ]))
        | ((refine wpAnyH_take (i := 3) (v := .pointer (some ⟨b, o + i, none⟩)) rfl (by kernel_rfl) (by decide +kernel) (by decide +kernel) (fun _ _ _ h => h) (Or.inl ⟨rfl, fun x hx => (by ((try dsimp only at hx); go_simp))⟩) hHeld ?_); (try simp only [List.getElem_toArray, List.getElem_cons_succ, List.getElem_cons_zero, Act.put, List.setIfInBounds_toArray, List.set_cons_zero, List.set_cons_succ]))
        | ((refine wpAnyH_take (i := 4) (v := .int .u32 p) rfl (by kernel_rfl) (by decide +kernel) (by decide +kernel) (fun _ _ _ h => h) (Or.inl ⟨rfl, fun x hx => (by ((try dsimp only at hx); go_simp))⟩) hHeld ?_); (try simp only [List.getElem_toArray, List.getElem_cons_succ, List.getElem_cons_zero, Act.put, List.setIfInBounds_toArray, List.set_cons_zero, List.set_cons_succ]))
        | ((refine wpAnyH_take (i := 5) (v := .int .u32 (p / 2)) rfl (by kernel_rfl) (by decide +kernel) (by decide +kernel) (fun _ _ _ h => h) (Or.inl ⟨rfl, fun x hx => (by ((try dsimp only at hx); go_simp))⟩) hHeld ?_); (try simp only [List.getElem_toArray, List.getElem_cons_succ, List.getElem_cons_zero, Act.put, List.setIfInBounds_toArray, List.set_cons_zero, List.set_cons_succ]))
        | ((refine wpAnyH_take (i := 6) (v := .slice (some ⟨b, o, none⟩) x c) rfl (by kernel_rfl) (by decide +kernel) (by decide +kernel) (fun _ _ _ h => h) (Or.inl ⟨rfl, fun x hx => (by ((try dsimp only at hx); go_simp))⟩) hHeld ?_); (try simp only [List.getElem_toArray, List.getElem_cons_succ, List.getElem_cons_zero, Act.put, List.setIfInBounds_toArray, List.set_cons_zero, List.set_cons_succ]))
        | ((refine wpAnyH_take (i := 7) (v := .int .i64 (i : Int)) rfl (by kernel_rfl) (by decide +kernel) (by decide +kernel) (fun _ _ _ h => h) (Or.inl ⟨rfl, fun x hx => (by ((try dsimp only at hx); go_simp))⟩) hHeld ?_); (try simp only [List.getElem_toArray, List.getElem_cons_succ, List.getElem_cons_zero, Act.put, List.setIfInBounds_toArray, List.set_cons_zero, List.set_cons_succ]))
        | ((refine wpAnyH_take (i := 8) (v := .int .i64 ((i : Int) + 1)) rfl (by kernel_rfl) (by decide +kernel) (by decide +kernel) (fun _ _ _ h => h) (Or.inl ⟨rfl, fun x hx => (by ((try dsimp only at hx); go_simp))⟩) hHeld ?_); (try simp only [List.getElem_toArray, List.getElem_cons_succ, List.getElem_cons_zero, Act.put, List.setIfInBounds_toArray, List.set_cons_zero, List.set_cons_succ]))
        | ((refine wpAnyH_take (i := 10) (v := .int .u64 (q % 2)) rfl (by kernel_rfl) (by decide +kernel) (by decide +kernel) (fun _ _ _ h => h) (Or.inl ⟨rfl, fun x hx => (by ((try dsimp only at hx); go_simp))⟩) hHeld ?_); (try simp only [List.getElem_toArray, List.getElem_cons_succ, List.getElem_cons_zero, Act.put, List.setIfInBounds_toArray, List.set_cons_zero, List.set_cons_succ]))
        | ((refine wpAnyH_take (i := 11) (v := .int .u32 (q % 2)) rfl (by kernel_rfl) (by decide +kernel) (by decide +kernel) (fun _ _ _ h => h) (Or.inl ⟨rfl, fun x hx => (by ((try dsimp only at hx); go_simp))⟩) hHeld ?_); (try simp only [List.getElem_toArray, List.getElem_cons_succ, List.getElem_cons_zero, Act.put, List.setIfInBounds_toArray, List.set_cons_zero, List.set_cons_succ]))
        | ((refine wpAnyH_take (i := 12) (v := .int .u32 (q % 2 * 2147483648)) rfl (by kernel_rfl) (by decide +kernel) (by decide +kernel) (fun _ _ _ h => h) (Or.inl ⟨rfl, fun x hx => (by ((try dsimp only at hx); go_simp))⟩) hHeld ?_); (try simp only [List.getElem_toArray, List.getElem_cons_succ, List.getElem_cons_zero, Act.put, List.setIfInBounds_toArray, List.set_cons_zero, List.set_cons_succ]))
        | ((refine wpAnyH_take (i := 13) (v := .int .u32 dg) rfl (by kernel_rfl) (by decide +kernel) (by decide +kernel) (fun _ _ _ h => h) (Or.inl ⟨rfl, fun x hx => (by ((try dsimp only at hx); go_simp))⟩) hHeld ?_); (try simp only [List.getElem_toArray, List.getElem_cons_succ, List.getElem_cons_zero, Act.put, List.setIfInBounds_toArray, List.set_cons_zero, List.set_cons_succ]))
        | ((refine wpAnyH_ready (rs := [9]) (by decide +kernel) (by simp) (AllReadyH.cons rfl (fun K hK => ?_) AllReadyH.nil)) <;> ((first | (first | (go_at_call 115; (with_reducible refine (KD.out _ (by (repeat' (first | (with_reducible exact Below.refl _ _) | (with_reducible assumption) | (with_reducible refine below_alloc ?_ _) | (with_reducible refine Below.drew ?_) | (with_reducible refine Below.setCell ?_ ?_ _) | (with_reducible refine below_after ?_ (by assumption)) | go_size)))).mono ?_); rintro e v1 ⟨rfl, rfl⟩) | (refine step_append_lies _ (by rfl) _ _ _ (by rfl) w.heap.size 153 i0 (.int .u32 0) 1 4 Tryd.underlying113 hinf hz0 hz1 hz2 rfl (by decide) _ i (digs s i) (by rfl) ((hD.out.own.alloc _).drew) ⟨wr.heap.size, 0, none⟩ 1 1 [.int .u32 dg] (by rfl) (by rfl) (World.news_of_block (cs := #[.int .u32 dg]) (t := 153) (fr := (0, 0)) (heap_alloc_new wr _)) (by simp [Value.oneCell']) (by omega) (HML.out i (by omega)) (by omega) (by simp; omega) (wr.heap.size + 1) (by simp) ?_; intro g cap w1 hown hgrow hat hlt1; have HP := Lib.hid (hD.out.pushD (by rw [← HDG.out]; exact hown) hgrow); have hbel1 := HP.out.below)) | (go_simp; (first | (go_at_call 115; (with_reducible refine (KD.out _ (by (repeat' (first | (with_reducible exact Below.refl _ _) | (with_reducible assumption) | (with_reducible refine below_alloc ?_ _) | (with_reducible refine Below.drew ?_) | (with_reducible refine Below.setCell ?_ ?_ _) | (with_reducible refine below_after ?_ (by assumption)) | go_size)))).mono ?_); rintro e v1 ⟨rfl, rfl⟩) | (refine step_append_lies _ (by rfl) _ _ _ (by rfl) w.heap.size 153 i0 (.int .u32 0) 1 4 Tryd.underlying113 hinf hz0 hz1 hz2 rfl (by decide) _ i (digs s i) (by rfl) ((hD.out.own.alloc _).drew) ⟨wr.heap.size, 0, none⟩ 1 1 [.int .u32 dg] (by rfl) (by rfl) (World.news_of_block (cs := #[.int .u32 dg]) (t := 153) (fr := (0, 0)) (heap_alloc_new wr _)) (by simp [Value.oneCell']) (by omega) (HML.out i (by omega)) (by omega) (by simp; omega) (wr.heap.size + 1) (by simp) ?_; intro g cap w1 hown hgrow hat hlt1; have HP := Lib.hid (hD.out.pushD (by rw [← HDG.out]; exact hown) hgrow); have hbel1 := HP.out.below) | skip))); (refine hK.out _ _ ?_ (fun hNew => ?_)); (focus (refine hS.out _ ?_; (repeat (first | (with_reducible assumption) | (with_reducible refine Below.drew ?_) | ((with_reducible refine below_alloc' ?_ ?_ _); (focus (first | omega | (simp; done) | (simp; omega)))))))); clear hHeld hK K; have hHeld := hNew; clear hNew; (try simp only [List.getElem_toArray, List.getElem_cons_succ, List.getElem_cons_zero, Act.put, List.setIfInBounds_toArray, List.set_cons_zero, List.set_cons_succ])))
        | ((refine wpAnyH_ready (rs := [14]) (by decide +kernel) (by simp) (AllReadyH.cons rfl (fun K hK => ?_) AllReadyH.nil)) <;> ((first | (first | (go_at_call 115; (with_reducible refine (KD.out _ (by (repeat' (first | (with_reducible exact Below.refl _ _) | (with_reducible assumption) | (with_reducible refine below_alloc ?_ _) | (with_reducible refine Below.drew ?_) | (with_reducible refine Below.setCell ?_ ?_ _) | (with_reducible refine below_after ?_ (by assumption)) | go_size)))).mono ?_); rintro e v1 ⟨rfl, rfl⟩) | (refine step_append_lies _ (by rfl) _ _ _ (by rfl) w.heap.size 153 i0 (.int .u32 0) 1 4 Tryd.underlying113 hinf hz0 hz1 hz2 rfl (by decide) _ i (digs s i) (by rfl) ((hD.out.own.alloc _).drew) ⟨wr.heap.size, 0, none⟩ 1 1 [.int .u32 dg] (by rfl) (by rfl) (World.news_of_block (cs := #[.int .u32 dg]) (t := 153) (fr := (0, 0)) (heap_alloc_new wr _)) (by simp [Value.oneCell']) (by omega) (HML.out i (by omega)) (by omega) (by simp; omega) (wr.heap.size + 1) (by simp) ?_; intro g cap w1 hown hgrow hat hlt1; have HP := Lib.hid (hD.out.pushD (by rw [← HDG.out]; exact hown) hgrow); have hbel1 := HP.out.below)) | (go_simp; (first | (go_at_call 115; (with_reducible refine (KD.out _ (by (repeat' (first | (with_reducible exact Below.refl _ _) | (with_reducible assumption) | (with_reducible refine below_alloc ?_ _) | (with_reducible refine Below.drew ?_) | (with_reducible refine Below.setCell ?_ ?_ _) | (with_reducible refine below_after ?_ (by assumption)) | go_size)))).mono ?_); rintro e v1 ⟨rfl, rfl⟩) | (refine step_append_lies _ (by rfl) _ _ _ (by rfl) w.heap.size 153 i0 (.int .u32 0) 1 4 Tryd.underlying113 hinf hz0 hz1 hz2 rfl (by decide) _ i (digs s i) (by rfl) ((hD.out.own.alloc _).drew) ⟨wr.heap.size, 0, none⟩ 1 1 [.int .u32 dg] (by rfl) (by rfl) (World.news_of_block (cs := #[.int .u32 dg]) (t := 153) (fr := (0, 0)) (heap_alloc_new wr _)) (by simp [Value.oneCell']) (by omega) (HML.out i (by omega)) (by omega) (by simp; omega) (wr.heap.size + 1) (by simp) ?_; intro g cap w1 hown hgrow hat hlt1; have HP := Lib.hid (hD.out.pushD (by rw [← HDG.out]; exact hown) hgrow); have hbel1 := HP.out.below) | skip))); (refine hK.out _ _ ?_ (fun hNew => ?_)); (focus (refine hS.out _ ?_; (repeat (first | (with_reducible assumption) | (with_reducible refine Below.drew ?_) | ((with_reducible refine below_alloc' ?_ ?_ _); (focus (first | omega | (simp; done) | (simp; omega)))))))); clear hHeld hK K; have hHeld := hNew; clear hNew; (try simp only [List.getElem_toArray, List.getElem_cons_succ, List.getElem_cons_zero, Act.put, List.setIfInBounds_toArray, List.set_cons_zero, List.set_cons_succ])))
        | ((refine wpAnyH_ready (rs := [15]) (by decide +kernel) (by simp) (AllReadyH.cons rfl (fun K hK => ?_) AllReadyH.nil)) <;> ((first | (first | (go_at_call 115; (with_reducible refine (KD.out _ (by (repeat' (first | (with_reducible exact Below.refl _ _) | (with_reducible assumption) | (with_reducible refine below_alloc ?_ _) | (with_reducible refine Below.drew ?_) | (with_reducible refine Below.setCell ?_ ?_ _) | (with_reducible refine below_after ?_ (by assumption)) | go_size)))).mono ?_); rintro e v1 ⟨rfl, rfl⟩) | (refine step_append_lies _ (by rfl) _ _ _ (by rfl) w.heap.size 153 i0 (.int .u32 0) 1 4 Tryd.underlying113 hinf hz0 hz1 hz2 rfl (by decide) _ i (digs s i) (by rfl) ((hD.out.own.alloc _).drew) ⟨wr.heap.size, 0, none⟩ 1 1 [.int .u32 dg] (by rfl) (by rfl) (World.news_of_block (cs := #[.int .u32 dg]) (t := 153) (fr := (0, 0)) (heap_alloc_new wr _)) (by simp [Value.oneCell']) (by omega) (HML.out i (by omega)) (by omega) (by simp; omega) (wr.heap.size + 1) (by simp) ?_; intro g cap w1 hown hgrow hat hlt1; have HP := Lib.hid (hD.out.pushD (by rw [← HDG.out]; exact hown) hgrow); have hbel1 := HP.out.below)) | (go_simp; (first | (go_at_call 115; (with_reducible refine (KD.out _ (by (repeat' (first | (with_reducible exact Below.refl _ _) | (with_reducible assumption) | (with_reducible refine below_alloc ?_ _) | (with_reducible refine Below.drew ?_) | (with_reducible refine Below.setCell ?_ ?_ _) | (with_reducible refine below_after ?_ (by assumption)) | go_size)))).mono ?_); rintro e v1 ⟨rfl, rfl⟩) | (refine step_append_lies _ (by rfl) _ _ _ (by rfl) w.heap.size 153 i0 (.int .u32 0) 1 4 Tryd.underlying113 hinf hz0 hz1 hz2 rfl (by decide) _ i (digs s i) (by rfl) ((hD.out.own.alloc _).drew) ⟨wr.heap.size, 0, none⟩ 1 1 [.int .u32 dg] (by rfl) (by rfl) (World.news_of_block (cs := #[.int .u32 dg]) (t := 153) (fr := (0, 0)) (heap_alloc_new wr _)) (by simp [Value.oneCell']) (by omega) (HML.out i (by omega)) (by omega) (by simp; omega) (wr.heap.size + 1) (by simp) ?_; intro g cap w1 hown hgrow hat hlt1; have HP := Lib.hid (hD.out.pushD (by rw [← HDG.out]; exact hown) hgrow); have hbel1 := HP.out.below) | skip))); (refine hK.out _ _ ?_ (fun hNew => ?_)); (focus (refine hS.out _ ?_; (repeat (first | (with_reducible assumption) | (with_reducible refine Below.drew ?_) | ((with_reducible refine below_alloc' ?_ ?_ _); (focus (first | omega | (simp; done) | (simp; omega)))))))); clear hHeld hK K; have hHeld := hNew; clear hNew; (try simp only [List.getElem_toArray, List.getElem_cons_succ, List.getElem_cons_zero, Act.put, List.setIfInBounds_toArray, List.set_cons_zero, List.set_cons_succ])))
        | ((refine wpAnyH_ready (rs := [16]) (by decide +kernel) (by simp) (AllReadyH.cons rfl (fun K hK => ?_) AllReadyH.nil)) <;> ((first | (first | (go_at_call 115; (with_reducible refine (KD.out _ (by (repeat' (first | (with_reducible exact Below.refl _ _) | (with_reducible assumption) | (with_reducible refine below_alloc ?_ _) | (with_reducible refine Below.drew ?_) | (with_reducible refine Below.setCell ?_ ?_ _) | (with_reducible refine below_after ?_ (by assumption)) | go_size)))).mono ?_); rintro e v1 ⟨rfl, rfl⟩) | (refine step_append_lies _ (by rfl) _ _ _ (by rfl) w.heap.size 153 i0 (.int .u32 0) 1 4 Tryd.underlying113 hinf hz0 hz1 hz2 rfl (by decide) _ i (digs s i) (by rfl) ((hD.out.own.alloc _).drew) ⟨wr.heap.size, 0, none⟩ 1 1 [.int .u32 dg] (by rfl) (by rfl) (World.news_of_block (cs := #[.int .u32 dg]) (t := 153) (fr := (0, 0)) (heap_alloc_new wr _)) (by simp [Value.oneCell']) (by omega) (HML.out i (by omega)) (by omega) (by simp; omega) (wr.heap.size + 1) (by simp) ?_; intro g cap w1 hown hgrow hat hlt1; have HP := Lib.hid (hD.out.pushD (by rw [← HDG.out]; exact hown) hgrow); have hbel1 := HP.out.below)) | (go_simp; (first | (go_at_call 115; (with_reducible refine (KD.out _ (by (repeat' (first | (with_reducible exact Below.refl _ _) | (with_reducible assumption) | (with_reducible refine below_alloc ?_ _) | (with_reducible refine Below.drew ?_) | (with_reducible refine Below.setCell ?_ ?_ _) | (with_reducible refine below_after ?_ (by assumption)) | go_size)))).mono ?_); rintro e v1 ⟨rfl, rfl⟩) | (refine step_append_lies _ (by rfl) _ _ _ (by rfl) w.heap.size 153 i0 (.int .u32 0) 1 4 Tryd.underlying113 hinf hz0 hz1 hz2 rfl (by decide) _ i (digs s i) (by rfl) ((hD.out.own.alloc _).drew) ⟨wr.heap.size, 0, none⟩ 1 1 [.int .u32 dg] (by rfl) (by rfl) (World.news_of_block (cs := #[.int .u32 dg]) (t := 153) (fr := (0, 0)) (heap_alloc_new wr _)) (by simp [Value.oneCell']) (by omega) (HML.out i (by omega)) (by omega) (by simp; omega) (wr.heap.size + 1) (by simp) ?_; intro g cap w1 hown hgrow hat hlt1; have HP := Lib.hid (hD.out.pushD (by rw [← HDG.out]; exact hown) hgrow); have hbel1 := HP.out.below) | skip))); (refine hK.out _ _ ?_ (fun hNew => ?_)); (focus (refine hS.out _ ?_; (repeat (first | (with_reducible assumption) | (with_reducible refine Below.drew ?_) | ((with_reducible refine below_alloc' ?_ ?_ _); (focus (first | omega | (simp; done) | (simp; omega)))))))); clear hHeld hK K; have hHeld := hNew; clear hNew; (try simp only [List.getElem_toArray, List.getElem_cons_succ, List.getElem_cons_zero, Act.put, List.setIfInBounds_toArray, List.set_cons_zero, List.set_cons_succ])))
        | ((refine wpAnyH_ready (rs := [9, 14]) (by decide +kernel) (by simp) (AllReadyH.cons rfl (fun K hK => ?_) (AllReadyH.cons rfl (fun K hK => ?_) AllReadyH.nil))) <;> ((first | (first | (go_at_call 115; (with_reducible refine (KD.out _ (by (repeat' (first | (with_reducible exact Below.refl _ _) | (with_reducible assumption) | (with_reducible refine below_alloc ?_ _) | (with_reducible refine Below.drew ?_) | (with_reducible refine Below.setCell ?_ ?_ _) | (with_reducible refine below_after ?_ (by assumption)) | go_size)))).mono ?_); rintro e v1 ⟨rfl, rfl⟩) | (refine step_append_lies _ (by rfl) _ _ _ (by rfl) w.heap.size 153 i0 (.int .u32 0) 1 4 Tryd.underlying113 hinf hz0 hz1 hz2 rfl (by decide) _ i (digs s i) (by rfl) ((hD.out.own.alloc _).drew) ⟨wr.heap.size, 0, none⟩ 1 1 [.int .u32 dg] (by rfl) (by rfl) (World.news_of_block (cs := #[.int .u32 dg]) (t := 153) (fr := (0, 0)) (heap_alloc_new wr _)) (by simp [Value.oneCell']) (by omega) (HML.out i (by omega)) (by omega) (by simp; omega) (wr.heap.size + 1) (by simp) ?_; intro g cap w1 hown hgrow hat hlt1; have HP := Lib.hid (hD.out.pushD (by rw [← HDG.out]; exact hown) hgrow); have hbel1 := HP.out.below)) | (go_simp; (first | (go_at_call 115; (with_reducible refine (KD.out _ (by (repeat' (first | (with_reducible exact Below.refl _ _) | (with_reducible assumption) | (with_reducible refine below_alloc ?_ _) | (with_reducible refine Below.drew ?_) | (with_reducible refine Below.setCell ?_ ?_ _) | (with_reducible refine below_after ?_ (by assumption)) | go_size)))).mono ?_); rintro e v1 ⟨rfl, rfl⟩) | (refine step_append_lies _ (by rfl) _ _ _ (by rfl) w.heap.size 153 i0 (.int .u32 0) 1 4 Tryd.underlying113 hinf hz0 hz1 hz2 rfl (by decide) _ i (digs s i) (by rfl) ((hD.out.own.alloc _).drew) ⟨wr.heap.size, 0, none⟩ 1 1 [.int .u32 dg] (by rfl) (by rfl) (World.news_of_block (cs := #[.int .u32 dg]) (t := 153) (fr := (0, 0)) (heap_alloc_new wr _)) (by simp [Value.oneCell']) (by omega) (HML.out i (by omega)) (by omega) (by simp; omega) (wr.heap.size + 1) (by simp) ?_; intro g cap w1 hown hgrow hat hlt1; have HP := Lib.hid (hD.out.pushD (by rw [← HDG.out]; exact hown) hgrow); have hbel1 := HP.out.below) | skip))); (refine hK.out _ _ ?_ (fun hNew => ?_)); (focus (refine hS.out _ ?_; (repeat (first | (with_reducible assumption) | (with_reducible refine Below.drew ?_) | ((with_reducible refine below_alloc' ?_ ?_ _); (focus (first | omega | (simp; done) | (simp; omega)))))))); clear hHeld hK K; have hHeld := hNew; clear hNew; (try simp only [List.getElem_toArray, List.getElem_cons_succ, List.getElem_cons_zero, Act.put, List.setIfInBounds_toArray, List.set_cons_zero, List.set_cons_succ])))
        | ((refine wpAnyH_ready (rs := [9, 15]) (by decide +kernel) (by simp) (AllReadyH.cons rfl (fun K hK => ?_) (AllReadyH.cons rfl (fun K hK => ?_) AllReadyH.nil))) <;> ((first | (first | (go_at_call 115; (with_reducible refine (KD.out _ (by (repeat' (first | (with_reducible exact Below.refl _ _) | (with_reducible assumption) | (with_reducible refine below_alloc ?_ _) | (with_reducible refine Below.drew ?_) | (with_reducible refine Below.setCell ?_ ?_ _) | (with_reducible refine below_after ?_ (by assumption)) | go_size)))).mono ?_); rintro e v1 ⟨rfl, rfl⟩) | (refine step_append_lies _ (by rfl) _ _ _ (by rfl) w.heap.size 153 i0 (.int .u32 0) 1 4 Tryd.underlying113 hinf hz0 hz1 hz2 rfl (by decide) _ i (digs s i) (by rfl) ((hD.out.own.alloc _).drew) ⟨wr.heap.size, 0, none⟩ 1 1 [.int .u32 dg] (by rfl) (by rfl) (World.news_of_block (cs := #[.int .u32 dg]) (t := 153) (fr := (0, 0)) (heap_alloc_new wr _)) (by simp [Value.oneCell']) (by omega) (HML.out i (by omega)) (by omega) (by simp; omega) (wr.heap.size + 1) (by simp) ?_; intro g cap w1 hown hgrow hat hlt1; have HP := Lib.hid (hD.out.pushD (by rw [← HDG.out]; exact hown) hgrow); have hbel1 := HP.out.below)) | (go_simp; (first | (go_at_call 115; (with_reducible refine (KD.out _ (by (repeat' (first | (with_reducible exact Below.refl _ _) | (with_reducible assumption) | (with_reducible refine below_alloc ?_ _) | (with_reducible refine Below.drew ?_) | (with_reducible refine Below.setCell ?_ ?_ _) | (with_reducible refine below_after ?_ (by assumption)) | go_size)))).mono ?_); rintro e v1 ⟨rfl, rfl⟩) | (refine step_append_lies _ (by rfl) _ _ _ (by rfl) w.heap.size 153 i0 (.int .u32 0) 1 4 Tryd.underlying113 hinf hz0 hz1 hz2 rfl (by decide) _ i (digs s i) (by rfl) ((hD.out.own.alloc _).drew) ⟨wr.heap.size, 0, none⟩ 1 1 [.int .u32 dg] (by rfl) (by rfl) (World.news_of_block (cs := #[.int .u32 dg]) (t := 153) (fr := (0, 0)) (heap_alloc_new wr _)) (by simp [Value.oneCell']) (by omega) (HML.out i (by omega)) (by omega) (by simp; omega) (wr.heap.size + 1) (by simp) ?_; intro g cap w1 hown hgrow hat hlt1; have HP := Lib.hid (hD.out.pushD (by rw [← HDG.out]; exact hown) hgrow); have hbel1 := HP.out.below) | skip))); (refine hK.out _ _ ?_ (fun hNew => ?_)); (focus (refine hS.out _ ?_; (repeat (first | (with_reducible assumption) | (with_reducible refine Below.drew ?_) | ((with_reducible refine below_alloc' ?_ ?_ _); (focus (first | omega | (simp; done) | (simp; omega)))))))); clear hHeld hK K; have hHeld := hNew; clear hNew; (try simp only [List.getElem_toArray, List.getElem_cons_succ, List.getElem_cons_zero, Act.put, List.setIfInBounds_toArray, List.set_cons_zero, List.set_cons_succ])))
        | ((refine wpAnyH_ready (rs := [9, 16]) (by decide +kernel) (by simp) (AllReadyH.cons rfl (fun K hK => ?_) (AllReadyH.cons rfl (fun K hK => ?_) AllReadyH.nil))) <;> ((first | (first | (go_at_call 115; (with_reducible refine (KD.out _ (by (repeat' (first | (with_reducible exact Below.refl _ _) | (with_reducible assumption) | (with_reducible refine below_alloc ?_ _) | (with_reducible refine Below.drew ?_) | (with_reducible refine Below.setCell ?_ ?_ _) | (with_reducible refine below_after ?_ (by assumption)) | go_size)))).mono ?_); rintro e v1 ⟨rfl, rfl⟩) | (refine step_append_lies _ (by rfl) _ _ _ (by rfl) w.heap.size 153 i0 (.int .u32 0) 1 4 Tryd.underlying113 hinf hz0 hz1 hz2 rfl (by decide) _ i (digs s i) (by rfl) ((hD.out.own.alloc _).drew) ⟨wr.heap.size, 0, none⟩ 1 1 [.int .u32 dg] (by rfl) (by rfl) (World.news_of_block (cs := #[.int .u32 dg]) (t := 153) (fr := (0, 0)) (heap_alloc_new wr _)) (by simp [Value.oneCell']) (by omega) (HML.out i (by omega)) (by omega) (by simp; omega) (wr.heap.size + 1) (by simp) ?_; intro g cap w1 hown hgrow hat hlt1; have HP := Lib.hid (hD.out.pushD (by rw [← HDG.out]; exact hown) hgrow); have hbel1 := HP.out.below)) | (go_simp; (first | (go_at_call 115; (with_reducible refine (KD.out _ (by (repeat' (first | (with_reducible exact Below.refl _ _) | (with_reducible assumption) | (with_reducible refine below_alloc ?_ _) | (with_reducible refine Below.drew ?_) | (with_reducible refine Below.setCell ?_ ?_ _) | (with_reducible refine below_after ?_ (by assumption)) | go_size)))).mono ?_); rintro e v1 ⟨rfl, rfl⟩) | (refine step_append_lies _ (by rfl) _ _ _ (by rfl) w.heap.size 153 i0 (.int .u32 0) 1 4 Tryd.underlying113 hinf hz0 hz1 hz2 rfl (by decide) _ i (digs s i) (by rfl) ((hD.out.own.alloc _).drew) ⟨wr.heap.size, 0, none⟩ 1 1 [.int .u32 dg] (by rfl) (by rfl) (World.news_of_block (cs := #[.int .u32 dg]) (t := 153) (fr := (0, 0)) (heap_alloc_new wr _)) (by simp [Value.oneCell']) (by omega) (HML.out i (by omega)) (by omega) (by simp; omega) (wr.heap.size + 1) (by simp) ?_; intro g cap w1 hown hgrow hat hlt1; have HP := Lib.hid (hD.out.pushD (by rw [← HDG.out]; exact hown) hgrow); have hbel1 := HP.out.below) | skip))); (refine hK.out _ _ ?_ (fun hNew => ?_)); (focus (refine hS.out _ ?_; (repeat (first | (with_reducible assumption) | (with_reducible refine Below.drew ?_) | ((with_reducible refine below_alloc' ?_ ?_ _); (focus (first | omega | (simp; done) | (simp; omega)))))))); clear hHeld hK K; have hHeld := hNew; clear hNew; (try simp only [List.getElem_toArray, List.getElem_cons_succ, List.getElem_cons_zero, Act.put, List.setIfInBounds_toArray, List.set_cons_zero, List.set_cons_succ])))
        | ((refine wpAnyH_ready (rs := [14, 15]) (by decide +kernel) (by simp) (AllReadyH.cons rfl (fun K hK => ?_) (AllReadyH.cons rfl (fun K hK => ?_) AllReadyH.nil))) <;> ((first | (first | (go_at_call 115; (with_reducible refine (KD.out _ (by (repeat' (first | (with_reducible exact Below.refl _ _) | (with_reducible assumption) | (with_reducible refine below_alloc ?_ _) | (with_reducible refine Below.drew ?_) | (with_reducible refine Below.setCell ?_ ?_ _) | (with_reducible refine below_after ?_ (by assumption)) | go_size)))).mono ?_); rintro e v1 ⟨rfl, rfl⟩) | (refine step_append_lies _ (by rfl) _ _ _ (by rfl) w.heap.size 153 i0 (.int .u32 0) 1 4 Tryd.underlying113 hinf hz0 hz1 hz2 rfl (by decide) _ i (digs s i) (by rfl) ((hD.out.own.alloc _).drew) ⟨wr.heap.size, 0, none⟩ 1 1 [.int .u32 dg] (by rfl) (by rfl) (World.news_of_block (cs := #[.int .u32 dg]) (t := 153) (fr := (0, 0)) (heap_alloc_new wr _)) (by simp [Value.oneCell']) (by omega) (HML.out i (by omega)) (by omega) (by simp; omega) (wr.heap.size + 1) (by simp) ?_; intro g cap w1 hown hgrow hat hlt1; have HP := Lib.hid (hD.out.pushD (by rw [← HDG.out]; exact hown) hgrow); have hbel1 := HP.out.below)) | (go_simp; (first | (go_at_call 115; (with_reducible refine (KD.out _ (by (repeat' (first | (with_reducible exact Below.refl _ _) | (with_reducible assumption) | (with_reducible refine below_alloc ?_ _) | (with_reducible refine Below.drew ?_) | (with_reducible refine Below.setCell ?_ ?_ _) | (with_reducible refine below_after ?_ (by assumption)) | go_size)))).mono ?_); rintro e v1 ⟨rfl, rfl⟩) | (refine step_append_lies _ (by rfl) _ _ _ (by rfl) w.heap.size 153 i0 (.int .u32 0) 1 4 Tryd.underlying113 hinf hz0 hz1 hz2 rfl (by decide) _ i (digs s i) (by rfl) ((hD.out.own.alloc _).drew) ⟨wr.heap.size, 0, none⟩ 1 1 [.int .u32 dg] (by rfl) (by rfl) (World.news_of_block (cs := #[.int .u32 dg]) (t := 153) (fr := (0, 0)) (heap_alloc_new wr _)) (by simp [Value.oneCell']) (by omega) (HML.out i (by omega)) (by omega) (by simp; omega) (wr.heap.size + 1) (by simp) ?_; intro g cap w1 hown hgrow hat hlt1; have HP := Lib.hid (hD.out.pushD (by rw [← HDG.out]; exact hown) hgrow); have hbel1 := HP.out.below) | skip))); (refine hK.out _ _ ?_ (fun hNew => ?_)); (focus (refine hS.out _ ?_; (repeat (first | (with_reducible assumption) | (with_reducible refine Below.drew ?_) | ((with_reducible refine below_alloc' ?_ ?_ _); (focus (first | omega | (simp; done) | (simp; omega)))))))); clear hHeld hK K; have hHeld := hNew; clear hNew; (try simp only [List.getElem_toArray, List.getElem_cons_succ, List.getElem_cons_zero, Act.put, List.setIfInBounds_toArray, List.set_cons_zero, List.set_cons_succ])))
        | ((refine wpAnyH_ready (rs := [14, 16]) (by decide +kernel) (by simp) (AllReadyH.cons rfl (fun K hK => ?_) (AllReadyH.cons rfl (fun K hK => ?_) AllReadyH.nil))) <;> ((first | (first | (go_at_call 115; (with_reducible refine (KD.out _ (by (repeat' (first | (with_reducible exact Below.refl _ _) | (with_reducible assumption) | (with_reducible refine below_alloc ?_ _) | (with_reducible refine Below.drew ?_) | (with_reducible refine Below.setCell ?_ ?_ _) | (with_reducible refine below_after ?_ (by assumption)) | go_size)))).mono ?_); rintro e v1 ⟨rfl, rfl⟩) | (refine step_append_lies _ (by rfl) _ _ _ (by rfl) w.heap.size 153 i0 (.int .u32 0) 1 4 Tryd.underlying113 hinf hz0 hz1 hz2 rfl (by decide) _ i (digs s i) (by rfl) ((hD.out.own.alloc _).drew) ⟨wr.heap.size, 0, none⟩ 1 1 [.int .u32 dg] (by rfl) (by rfl) (World.news_of_block (cs := #[.int .u32 dg]) (t := 153) (fr := (0, 0)) (heap_alloc_new wr _)) (by simp [Value.oneCell']) (by omega) (HML.out i (by omega)) (by omega) (by simp; omega) (wr.heap.size + 1) (by simp) ?_; intro g cap w1 hown hgrow hat hlt1; have HP := Lib.hid (hD.out.pushD (by rw [← HDG.out]; exact hown) hgrow); have hbel1 := HP.out.below)) | (go_simp; (first | (go_at_call 115; (with_reducible refine (KD.out _ (by (repeat' (first | (with_reducible exact Below.refl _ _) | (with_reducible assumption) | (with_reducible refine below_alloc ?_ _) | (with_reducible refine Below.drew ?_) | (with_reducible refine Below.setCell ?_ ?_ _) | (with_reducible refine below_after ?_ (by assumption)) | go_size)))).mono ?_); rintro e v1 ⟨rfl, rfl⟩) | (refine step_append_lies _ (by rfl) _ _ _ (by rfl) w.heap.size 153 i0 (.int .u32 0) 1 4 Tryd.underlying113 hinf hz0 hz1 hz2 rfl (by decide) _ i (digs s i) (by rfl) ((hD.out.own.alloc _).drew) ⟨wr.heap.size, 0, none⟩ 1 1 [.int .u32 dg] (by rfl) (by rfl) (World.news_of_block (cs := #[.int .u32 dg]) (t := 153) (fr := (0, 0)) (heap_alloc_new wr _)) (by simp [Value.oneCell']) (by omega) (HML.out i (by omega)) (by omega) (by simp; omega) (wr.heap.size + 1) (by simp) ?_; intro g cap w1 hown hgrow hat hlt1; have HP := Lib.hid (hD.out.pushD (by rw [← HDG.out]; exact hown) hgrow); have hbel1 := HP.out.below) | skip))); (refine hK.out _ _ ?_ (fun hNew => ?_)); (focus (refine hS.out _ ?_; (repeat (first | (with_reducible assumption) | (with_reducible refine Below.drew ?_) | ((with_reducible refine below_alloc' ?_ ?_ _); (focus (first | omega | (simp; done) | (simp; omega)))))))); clear hHeld hK K; have hHeld := hNew; clear hNew; (try simp only [List.getElem_toArray, List.getElem_cons_succ, List.getElem_cons_zero, Act.put, List.setIfInBounds_toArray, List.set_cons_zero, List.set_cons_succ])))
        | ((refine wpAnyH_ready (rs := [15, 16]) (by decide +kernel) (by simp) (AllReadyH.cons rfl (fun K hK => ?_) (AllReadyH.cons rfl (fun K hK => ?_) AllReadyH.nil))) <;> ((first | (first | (go_at_call 115; (with_reducible refine (KD.out _ (by (repeat' (first | (with_reducible exact Below.refl _ _) | (with_reducible assumption) | (with_reducible refine below_alloc ?_ _) | (with_reducible refine Below.drew ?_) | (with_reducible refine Below.setCell ?_ ?_ _) | (with_reducible refine below_after ?_ (by assumption)) | go_size)))).mono ?_); rintro e v1 ⟨rfl, rfl⟩) | (refine step_append_lies _ (by rfl) _ _ _ (by rfl) w.heap.size 153 i0 (.int .u32 0) 1 4 Tryd.underlying113 hinf hz0 hz1 hz2 rfl (by decide) _ i (digs s i) (by rfl) ((hD.out.own.alloc _).drew) ⟨wr.heap.size, 0, none⟩ 1 1 [.int .u32 dg] (by rfl) (by rfl) (World.news_of_block (cs := #[.int .u32 dg]) (t := 153) (fr := (0, 0)) (heap_alloc_new wr _)) (by simp [Value.oneCell']) (by omega) (HML.out i (by omega)) (by omega) (by simp; omega) (wr.heap.size + 1) (by simp) ?_; intro g cap w1 hown hgrow hat hlt1; have HP := Lib.hid (hD.out.pushD (by rw [← HDG.out]; exact hown) hgrow); have hbel1 := HP.out.below)) | (go_simp; (first | (go_at_call 115; (with_reducible refine (KD.out _ (by (repeat' (first | (with_reducible exact Below.refl _ _) | (with_reducible assumption) | (with_reducible refine below_alloc ?_ _) | (with_reducible refine Below.drew ?_) | (with_reducible refine Below.setCell ?_ ?_ _) | (with_reducible refine below_after ?_ (by assumption)) | go_size)))).mono ?_); rintro e v1 ⟨rfl, rfl⟩) | (refine step_append_lies _ (by rfl) _ _ _ (by rfl) w.heap.size 153 i0 (.int .u32 0) 1 4 Tryd.underlying113 hinf hz0 hz1 hz2 rfl (by decide) _ i (digs s i) (by rfl) ((hD.out.own.alloc _).drew) ⟨wr.heap.size, 0, none⟩ 1 1 [.int .u32 dg] (by rfl) (by rfl) (World.news_of_block (cs := #[.int .u32 dg]) (t := 153) (fr := (0, 0)) (heap_alloc_new wr _)) (by simp [Value.oneCell']) (by omega) (HML.out i (by omega)) (by omega) (by simp; omega) (wr.heap.size + 1) (by simp) ?_; intro g cap w1 hown hgrow hat hlt1; have HP := Lib.hid (hD.out.pushD (by rw [← HDG.out]; exact hown) hgrow); have hbel1 := HP.out.below) | skip))); (refine hK.out _ _ ?_ (fun hNew => ?_)); (focus (refine hS.out _ ?_; (repeat (first | (with_reducible assumption) | (with_reducible refine Below.drew ?_) | ((with_reducible refine below_alloc' ?_ ?_ _); (focus (first | omega | (simp; done) | (simp; omega)))))))); clear hHeld hK K; have hHeld := hNew; clear hNew; (try simp only [List.getElem_toArray, List.getElem_cons_succ, List.getElem_cons_zero, Act.put, List.setIfInBounds_toArray, List.set_cons_zero, List.set_cons_succ])))))
      all_goals (refine wpAnyH_done (by kernel_rfl) ?_ _; clear hHeld)
      clear hown hgrow hat hlt1 hbel1 hB0 hba hD s0 s1
      go_wp2
      go_roundg (x - (i + 1))
      case rel => exact ⟨i + 1, by omega, by omega, by go_num, HP⟩
      case measure => omega
    · obtain rfl : i = x := by omega
      have g1 : ¬ (i : Int) < (i : Int) := by omega
      obtain ⟨a2, c2, rfl, h6, h7, h8⟩ := hD.out.nat
      have HR := Lib.hid h8
      have H7 := Lib.hid h7
      clear h8 h7 hba AD HW DA D0
      go_wp2_with fail
      ((with_reducible refine (TR.out i c2 _ (by omega) h6 H7.out SUM2.out _ HR.out).mono ?_); rintro e w2 ⟨rfl, hb2⟩)
      have HS := Lib.hid ((HR.out.less SUM2.out).later hb2)
      go_wp2
      go_returns
      exact ⟨_, _, rfl, HS.out, by (repeat' (first | (with_reducible exact Below.refl _ _) | (with_reducible assumption) | (with_reducible refine below_alloc ?_ _) | (with_reducible refine Below.drew ?_) | (with_reducible refine Below.setCell ?_ ?_ _) | (with_reducible refine below_after ?_ (by assumption)) | go_size))⟩
end Go.Proofs.YtfmmnnodihpgmaaDoor
namespace Go.Proofs.YtfmmnnodihpgmaaDoor.Wd
set_option linter.all false
/-- T with the word at place p = 2^(64 s) put to v -/
@[irreducible] def seth (T s v : Nat) : Nat := T % 2 ^ (32 * s) + 2 ^ (32 * s) * (v + 4294967296 * (T / 2 ^ (32 * s) / 4294967296))
/-- word s of T, as a natural number -/
@[irreducible] def hn (T s : Nat) : Nat := T / 2 ^ (32 * s) % 4294967296
theorem hn_lt (T s : Nat) : hn T s < 4294967296 := by unfold hn; exact Nat.mod_lt _ (by omega)
theorem hw_hn (T s : Nat) : hw T s = (hn T s : Int) := by unfold hw hn; rfl
theorem hw_set_same (T s v : Nat) (hv : v < 4294967296) : hw (seth T s v) s = (v : Int) := by
  unfold hw seth
  have hp : 0 < 2 ^ (32 * s) := Nat.pow_pos (by omega)
  generalize 2 ^ (32 * s) = p at *
  rw [Nat.add_mul_div_left _ _ hp, Nat.div_eq_of_lt (Nat.mod_lt _ hp), Nat.zero_add, Nat.add_mul_mod_self_left, Nat.mod_eq_of_lt hv]
theorem hw_set_high (T s v j : Nat) (hv : v < 4294967296) (h : s < j) : hw (seth T s v) j = hw T j := by
  unfold hw seth
  have hp : 0 < 2 ^ (32 * s) := Nat.pow_pos (by omega)
  have e : 2 ^ (32 * j) = 2 ^ (32 * s) * 4294967296 * 2 ^ (32 * (j - s - 1)) := by
    rw [← pow32_next, ← Nat.pow_add]; congr 1; omega
  rw [e]
  generalize 2 ^ (32 * s) = p at *
  generalize 2 ^ (32 * (j - s - 1)) = q
  rw [← Nat.div_div_eq_div_mul, ← Nat.div_div_eq_div_mul, ← Nat.div_div_eq_div_mul, ← Nat.div_div_eq_div_mul]
  rw [Nat.add_mul_div_left _ _ hp, Nat.div_eq_of_lt (Nat.mod_lt _ hp), Nat.zero_add, Nat.add_mul_div_left _ _ (by omega), Nat.div_eq_of_lt hv, Nat.zero_add]
theorem hw_set_low (T s v j : Nat) (h : j < s) : hw (seth T s v) j = hw T j := by
  unfold hw seth
  have hq : 0 < 2 ^ (32 * j) := Nat.pow_pos (by omega)
  have e : 2 ^ (32 * s) = 2 ^ (32 * j) * (4294967296 * 2 ^ (32 * (s - j - 1))) := by
    rw [← Nat.mul_assoc, ← pow32_next, ← Nat.pow_add]; congr 1; omega
  rw [e]
  generalize 2 ^ (32 * j) = q at *
  generalize 2 ^ (32 * (s - j - 1)) = r
  generalize T / (q * (4294967296 * r)) / 4294967296 = H
  have e2 : q * (4294967296 * r) * (v + 4294967296 * H) = q * (4294967296 * (r * (v + 4294967296 * H))) := by
    simp [Nat.mul_assoc]
  rw [e2, Nat.add_mul_div_left _ _ hq, Nat.add_mul_mod_self_left, Nat.mod_mul_right_div_self, Nat.mod_mul_right_mod]
/-- the number's own split at word s -/
theorem hsplit_at (T s : Nat) : T = T % 2 ^ (32 * s) + 2 ^ (32 * s) * (hn T s + 4294967296 * (T / 2 ^ (32 * s) / 4294967296)) := by
  unfold hn
  have h1 := Nat.mod_add_div T (2 ^ (32 * s))
  have h2 := Nat.mod_add_div (T / 2 ^ (32 * s)) 4294967296
  rw [h2, h1]
/-- one step of the schoolbook product: the word at s and the carry take in a product -/
theorem hmul_step (T s xy c : Nat) : seth T s ((xy + hn T s + c) % 4294967296) + ((xy + hn T s + c) / 4294967296) * 2 ^ (32 * (s + 1)) = T + (xy + c) * 2 ^ (32 * s) := by
  have h := hsplit_at T s
  conv => rhs; rw [h]
  unfold seth
  rw [pow32_next]
  generalize 2 ^ (32 * s) = p
  generalize T / p / 4294967296 = H
  generalize T % p = L
  generalize hn T s = t
  have hv := Nat.mod_add_div (xy + t + c) 4294967296
  generalize (xy + t + c) % 4294967296 = v at *
  generalize (xy + t + c) / 4294967296 = d at *
  have e : xy + c = v + 4294967296 * d - t := by omega
  have e1 : d * (p * 4294967296) = p * (4294967296 * d) := by
    rw [Nat.mul_comm d, Nat.mul_assoc]
  have e2 : (xy + c) * p = p * (xy + c) := Nat.mul_comm _ _
  rw [e1, e2, Nat.add_assoc, Nat.add_assoc, ← Nat.mul_add, ← Nat.mul_add]
  congr 2; omega
theorem seth_lt (T s v m : Nat) (hv : v < 4294967296) (hs : s < m) (hT : T < 2 ^ (32 * m)) : seth T s v < 2 ^ (32 * m) := by
  unfold seth
  have e : 2 ^ (32 * m) = 2 ^ (32 * s) * (4294967296 * 2 ^ (32 * (m - s - 1))) := by
    rw [← Nat.mul_assoc, ← pow32_next, ← Nat.pow_add]; congr 1; omega
  rw [e] at hT ⊢
  have hp : 0 < 2 ^ (32 * s) := Nat.pow_pos (by omega)
  generalize 2 ^ (32 * s) = p at *
  generalize 2 ^ (32 * (m - s - 1)) = r at *
  have h1 : T / p / 4294967296 < r := by
    rw [Nat.div_div_eq_div_mul, Nat.div_lt_iff_lt_mul (by omega)]
    rw [Nat.mul_comm r, Nat.mul_assoc]; exact hT
  generalize T / p / 4294967296 = H at *
  have h2 : v + 4294967296 * H + 1 ≤ 4294967296 * r := by
    have := Nat.mul_le_mul_left 4294967296 (by omega : H + 1 ≤ r)
    omega
  have h3 := Nat.mul_le_mul_left p h2
  rw [Nat.mul_add, Nat.mul_one] at h3
  have h4 := Nat.mod_lt T hp
  omega
/-- a word above the number is 0 -/
theorem hn_high (T s : Nat) (hT : T < 2 ^ (32 * s)) : hn T s = 0 := by
  unfold hn; rw [Nat.div_eq_of_lt hT]
theorem seth_high (T s v : Nat) (hT : T < 2 ^ (32 * s)) : seth T s v = T + v * 2 ^ (32 * s) := by
  unfold seth
  rw [Nat.div_eq_of_lt hT, Nat.mod_eq_of_lt hT]; simp [Nat.mul_comm]
theorem hmod_next (b j : Nat) : b % 2 ^ (32 * (j + 1)) = b % 2 ^ (32 * j) + 2 ^ (32 * j) * hn b j := by
  unfold hn; rw [pow32_next, Nat.mod_mul]
theorem hmul_inv {T0 T c x b k j : Nat} (h : T + c * 2 ^ (32 * (k + j)) = T0 + x * (b % 2 ^ (32 * j)) * 2 ^ (32 * k)) :
    seth T (k + j) ((x * hn b j + hn T (k + j) + c) % 4294967296) + (x * hn b j + hn T (k + j) + c) / 4294967296 * 2 ^ (32 * (k + (j + 1))) = T0 + x * (b % 2 ^ (32 * (j + 1))) * 2 ^ (32 * k) := by
  rw [show k + (j + 1) = (k + j) + 1 by omega, hmul_step, hmod_next]
  have e : 2 ^ (32 * (k + j)) = 2 ^ (32 * k) * 2 ^ (32 * j) := by rw [← Nat.pow_add]; congr 1; omega
  rw [e] at h ⊢
  generalize 2 ^ (32 * k) = K at *
  generalize 2 ^ (32 * j) = J at *
  generalize b % J = m at *
  generalize hn b j = y at *
  have e1 : T + (x * y + c) * (K * J) = (T + c * (K * J)) + x * y * (K * J) := by rw [Nat.add_mul]; omega
  have e2 : x * (m + J * y) * K = x * m * K + x * y * (K * J) := by
    rw [Nat.mul_add, Nat.add_mul]
    congr 1
    rw [Nat.mul_comm J y, ← Nat.mul_assoc, Nat.mul_assoc, Nat.mul_comm J K]
  rw [e1, h, e2]; omega
theorem hrow_next {a b k T c : Nat} (hb : b < 2 ^ 256) (hT : T < 2 ^ (32 * (k + 8))) (h : T + c * 2 ^ (32 * (k + 8)) = (a % 2 ^ (32 * k)) * b + hn a k * (b % 2 ^ (32 * 8)) * 2 ^ (32 * k)) :
    seth T (k + 8) c = (a % 2 ^ (32 * (k + 1))) * b := by
  rw [seth_high _ _ _ hT, h, show 32 * 8 = 256 from rfl, Nat.mod_eq_of_lt hb, hmod_next a k, Nat.add_mul]
  generalize 2 ^ (32 * k) = K
  exact congrArg (a % K * b + ·) ((Nat.mul_comm _ _).trans (Nat.mul_assoc _ _ _).symm)
theorem hrow_lt {a b k : Nat} (hb : b < 2 ^ 256) : (a % 2 ^ (32 * k)) * b < 2 ^ (32 * (k + 8)) := by
  have e : 2 ^ (32 * (k + 8)) = 2 ^ (32 * k) * 2 ^ 256 := by rw [← Nat.pow_add]; congr 1
  rw [e]
  exact Nat.mul_lt_mul_of_lt_of_le (Nat.mod_lt _ (Nat.pow_pos (by omega))) (Nat.le_of_lt hb) (Nat.pow_pos (by omega))
/-- What holds in the middle of the schoolbook product: rows k, columns j are in; T: the array's number, d: the carry. (A word that the walk does not open.) -/
@[irreducible] def HRow (a b k j T d : Nat) : Prop := T < 2 ^ (32 * (k + 8)) ∧ T + d * 2 ^ (32 * (k + j)) = (a % 2 ^ (32 * k)) * b + hn a k * (b % 2 ^ (32 * j)) * 2 ^ (32 * k)
@[irreducible] def hrows (a b k : Nat) : Nat := (a % 2 ^ (32 * k)) * b
theorem HRow.start {a b k : Nat} (hb : b < 2 ^ 256) : HRow a b k 0 (hrows a b k) 0 := by
  unfold HRow hrows
  exact ⟨hrow_lt hb, by simp [Nat.mod_one]⟩
theorem HRow.next {a b k j T d : Nat} (hj : j < 8) (h : HRow a b k j T d) :
    HRow a b k (j + 1) (seth T (k + j) ((hn a k * hn b j + hn T (k + j) + d) % 4294967296)) ((hn a k * hn b j + hn T (k + j) + d) / 4294967296) := by
  unfold HRow at *
  exact ⟨seth_lt _ _ _ _ (Nat.mod_lt _ (by omega)) (by omega) h.1, hmul_inv h.2⟩
theorem HRow.done {a b k T d : Nat} (hb : b < 2 ^ 256) (h : HRow a b k 8 T d) : seth T (k + 8) d = hrows a b (k + 1) := by
  unfold HRow hrows at *
  exact hrow_next hb h.1 h.2
theorem hrows_zero (a b : Nat) : hrows a b 0 = 0 := by unfold hrows; simp [Nat.mod_one]
theorem hrows_eight {a b : Nat} (ha : a < 2 ^ 256) : hrows a b 8 = a * b := by unfold hrows; rw [show 32 * 8 = 256 from rfl, Nat.mod_eq_of_lt ha]
theorem hw_high (P i : Nat) : hw P (8 + i) = hw (P / 2 ^ 256) i := by
  unfold hw
  rw [show 32 * (8 + i) = 256 + 32 * i by omega, Nat.pow_add, Nat.div_div_eq_div_mul]
end Go.Proofs.YtfmmnnodihpgmaaDoor.Wd
namespace Go.Proofs.YtfmmnnodihpgmaaDoor
set_option linter.all false
open Go Go.RowKit Wd
set_option maxRecDepth 100000
/-- K half-words of a number lie in a block of a call's own, which may be stored into. -/
structure Outd (w : World) (B T K : Nat) : Prop where
  cell : ∀ j, j < K → w.cell? ⟨B, j, none⟩ = some (.int .u32 (hw T j))
  froz : ∀ o, w.frozen? ⟨B, o, none⟩ = false
  lt : B < w.heap.size
theorem Outd.drew {w : World} {B T K : Nat} (h : Outd w B T K) : Outd w.drew B T K := ⟨h.cell, h.froz, h.lt⟩
theorem Outd.set {w : World} {B T K s v : Nat} (h : Outd w B T K) (hs : s < K) (hv : v < 4294967296) : Outd (w.setCell ⟨B, s, none⟩ (.int .u32 (v : Int))) B (seth T s v) K :=
  ⟨fun j hj => by
    by_cases e : j = s
    · subst e
      rw [World.cell?_setCell_same _ _ _ (u := .int .u32 (hw T j)) (h.cell j hj), hw_set_same _ _ _ hv]
    · rw [World.cell?_setCell_other _ _ _ _ (fun e2 => e (congrArg Addr.off e2).symm), h.cell j hj]
      rcases Nat.lt_or_ge j s with h1 | h1
      · rw [hw_set_low _ _ _ _ h1]
      · rw [hw_set_high _ _ _ _ hv (by omega)], fun o => by rw [World.frozen?_setCell]; exact h.froz o, by simpa using h.lt⟩
theorem Outd.nat {w : World} {B T K : Nat} (h : Outd w B T K) : NatAt w (some ⟨B, 0, none⟩) T K := fun _ => ⟨B, 0, rfl, h.lt, fun j hj => by rw [Nat.zero_add]; exact h.cell j hj⟩
theorem hw_none (j : Nat) : hw 0 j = 0 := by unfold hw; simp
theorem Outd.made (w : World) (K : Nat) (T : TypeId) : Outd (w.alloc (.cells (madeCells #[.int .u32 0] K) T)) w.heap.size 0 K :=
  ⟨fun j hj => by rw [World.cell?_alloc_new, hw_none]; simp [madeCells, hj, Nat.mod_one], fun o => World.frozen?_alloc_new _ _ _ _, by simp⟩
/-- In the middle of the product: rows k, columns j are in; T: the number so far, d: the carry. -/
@[irreducible] def NRow (a b y k j T d : Nat) : Prop := T < 2 ^ (32 * (k + y)) ∧ T + d * 2 ^ (32 * (k + j)) = (a % 2 ^ (32 * k)) * b + hn a k * (b % 2 ^ (32 * j)) * 2 ^ (32 * k) ∧ d < 4294967296
theorem NRow.start {a b y k : Nat} (hb : b < 2 ^ (32 * y)) : NRow a b y k 0 (hrows a b k) 0 := by
  unfold NRow hrows
  refine ⟨?_, by simp [Nat.mod_one], by omega⟩
  have e : 2 ^ (32 * (k + y)) = 2 ^ (32 * k) * 2 ^ (32 * y) := by rw [← Nat.pow_add]; congr 1; omega
  rw [e]
  exact Nat.mul_lt_mul_of_lt_of_le (Nat.mod_lt _ (Nat.pow_pos (by omega))) (Nat.le_of_lt hb) (Nat.pow_pos (by omega))
theorem word_le {x y t d : Nat} (hx : x < 4294967296) (hy : y < 4294967296) (ht : t < 4294967296) (hd : d < 4294967296) : x * y ≤ 18446744065119617025 ∧ x * y + t + d ≤ 18446744073709551615 := by
  have := Nat.mul_le_mul (by omega : x ≤ 4294967295) (by omega : y ≤ 4294967295)
  omega
theorem NRow.next {a b y k j T d : Nat} (hj : j < y) (h : NRow a b y k j T d) :
    NRow a b y k (j + 1) (seth T (k + j) ((hn a k * hn b j + hn T (k + j) + d) % 4294967296)) ((hn a k * hn b j + hn T (k + j) + d) / 4294967296) := by
  unfold NRow at *
  have := word_le (hn_lt a k) (hn_lt b j) (hn_lt T (k + j)) h.2.2
  exact ⟨seth_lt _ _ _ _ (Nat.mod_lt _ (by omega)) (by omega) h.1, hmul_inv h.2.1, by omega⟩
theorem NRow.carry {a b y k j T d : Nat} (h : NRow a b y k j T d) : d < 4294967296 := by unfold NRow at h; exact h.2.2
theorem NRow.done {a b y k T d : Nat} (hb : b < 2 ^ (32 * y)) (h : NRow a b y k y T d) : seth T (k + y) d = hrows a b (k + 1) := by
  unfold NRow hrows at *
  obtain ⟨hT, h, -⟩ := h
  rw [seth_high _ _ _ hT, h, Nat.mod_eq_of_lt hb, hmod_next a k, Nat.add_mul]
  generalize 2 ^ (32 * k) = K
  exact congrArg (a % K * b + ·) ((Nat.mul_comm _ _).trans (Nat.mul_assoc _ _ _).symm)
theorem hrows_all {a b x : Nat} (ha : a < 2 ^ (32 * x)) : hrows a b x = a * b := by unfold hrows; rw [Nat.mod_eq_of_lt ha]
theorem info_u : (Tryd.prog.info? 153).map (fun i => (i.zero, i.size, i.bytes)) = some (some (.int .u32 0), 1, 4) := by kernel_rfl
set_option maxHeartbeats 4000000 in
/-- times. -/
theorem ntimes_any (m n c d : Nat) (a b : Option Addr) (hm : nl m ≤ 8) (hn8 : nl n ≤ 8) (w : World) (h : NatAt w a m (nl m)) (h' : NatAt w b n (nl n)) :
    Calls Tryd.prog 113 #[.slice a (nl m) c, .slice b (nl n) d] w fun e w' => ∃ a' c', e = .returned (.slice a' (nl (m * n)) c') ∧ NatAt w' a' (m * n) (nl (m * n)) ∧ Below w.heap.size w w' := by
  have hml := nl_le.1 (Nat.le_refl (nl m))
  have hnl := nl_le.1 (Nat.le_refl (nl n))
  have hpl : nl (m * n) ≤ nl m + nl n := nl_le.2 (by rw [Nat.mul_add, Nat.pow_add]; exact Nat.mul_lt_mul_of_lt_of_le hml (Nat.le_of_lt hnl) (Nat.pow_pos (by omega)))
  have R0 := Lib.hid (fun k => NRow.start (a := m) (k := k) hnl)
  have R1 := Lib.hid (fun (k j T d : Nat) hj h => NRow.next (a := m) (b := n) (y := nl n) (k := k) (j := j) (T := T) (d := d) hj h)
  have R2 := Lib.hid (fun (k T d : Nat) h => NRow.done (a := m) (b := n) (y := nl n) (k := k) (T := T) (d := d) hnl h)
  have RZ := Lib.hid (hrows_zero m n)
  have RA := Lib.hid (hrows_all (a := m) (b := n) (x := nl m) hml)
  have TR := Lib.hid (fun k c a (hk : k ≤ 64) (hkc : k ≤ c) (hcm : c ≤ maxLen) hl w h => ntrim_any (m * n) k c a hk hkc hcm hl w h)
  have HA := Lib.hid h
  have HB := Lib.hid h'
  have HP := Lib.hid hpl
  clear hml hnl hpl h h'
  generalize nl m = x at *
  generalize nl n = y at *
  have hmk := run_make_row' (P := Tryd.prog) 113 153 (.int .u32 0) 4 Tryd.underlying113 info_u rfl .i64 .i64 (x + y) (by omega) (by omega)
  rw [show ((x + y : Nat) : Int) = (x : Int) + (y : Int) by omega] at hmk
  go_enter Tryd.func113, Tryd.ntmps113
  go_upto_region 2 with (fail)
  refine wp_world (fun v => Hid (Outd v w.heap.size 0 (x + y) ∧ Below w.heap.size w v)) (Lib.hid ⟨Outd.made _ _ _, by (repeat' (first | (with_reducible exact Below.refl _ _) | (with_reducible assumption) | (with_reducible refine below_alloc ?_ _) | (with_reducible refine Below.drew ?_) | (with_reducible refine Below.setCell ?_ ?_ _) | (with_reducible refine below_after ?_ (by assumption)) | go_size))⟩) ?_
  intro G HG
  go_wp2
  go_loopg [6] x (fun gg iv wr => ∃ i : Nat, i ≤ x ∧ x - i ≤ gg ∧ iv = .int .i64 (i : Int) ∧ Hid (Outd wr w.heap.size (hrows m n i) (x + y) ∧ Below w.heap.size w wr))
  case atStart => exact ⟨0, by omega, by omega, rfl, by rw [RZ.out]; exact HG⟩
  case round =>
    obtain ⟨i, hi, hgi, rfl, HI⟩ := hrel
    by_cases hlt : i < x
    · have hlt' : (i : Int) < (x : Int) := by omega
      obtain ⟨W1, rfl⟩ : ∃ v, v = wr := ⟨_, rfl⟩
      obtain ⟨ba, oa, ea, la, ca⟩ := HA.out (by omega)
      have cai := ca i hlt
      rw [hw_hn] at cai
      have xi := hn_lt m i
      have S0 := Lib.hid (R0.out i)
      have S1 := Lib.hid (fun (j T d : Nat) hj h => R1.out i j T d hj h)
      have S2 := Lib.hid (fun (T d : Nat) h => R2.out i T d h)
      have KA := Lib.hid (show ∀ v, Below w.heap.size w v → v.cell? ⟨ba, oa + i, none⟩ = some (.int .u32 (hn m i : Int)) ∧ ba < v.heap.size from fun v hb => ⟨(hb.cell (p := ⟨ba, oa + i, none⟩) la).trans cai, keep_lt hb la⟩)
      clear ca cai R0 R1 R2 HG la
      generalize hn m i = p at *
      subst ea
      go_wp2
      go_loopg [7, 8] y (fun gg cv kv wr => ∃ k : Nat, k ≤ y ∧ y - k ≤ gg ∧ kv = .int .i64 (k : Int) ∧ ∃ T d : Nat, cv = .int .u64 (d : Int) ∧ Hid (NRow m n y i k T d) ∧ Hid (Outd wr w.heap.size T (x + y) ∧ Below w.heap.size w wr))
      case atStart => exact ⟨0, by omega, by omega, rfl, _, 0, rfl, S0, HI⟩
      case round =>
        obtain ⟨k, hk, hgk, rfl, T, dd, rfl, HR, HO⟩ := hrel
        clear HI
        have hd := HR.out.carry
        by_cases hltk : k < y
        · have hltk' : (k : Int) < (y : Int) := by omega
          obtain ⟨bb, ob, eb, lb, cb⟩ := HB.out (by omega)
          have cbk := cb k hltk
          rw [hw_hn] at cbk
          have yk := hn_lt n k
          have tk := hn_lt T (i + k)
          have ct := HO.out.1.cell (i + k) (by omega)
          rw [hw_hn] at ct
          have NX := Lib.hid (S1.out k T dd hltk HR.out)
          have c1 := (HO.out.2.cell (p := ⟨bb, ob + k, none⟩) lb).trans cbk
          have l1 := keep_lt HO.out.2 lb
          have c2 := (KA.out wr HO.out.2).1
          have l2 := (KA.out wr HO.out.2).2
          clear cb cbk HR
          generalize hn n k = q at *
          generalize hn T (i + k) = t0 at *
          have hwl := word_le xi yk tk hd
          obtain ⟨pq, hpq⟩ : ∃ z : Nat, z = p * q := ⟨_, rfl⟩
          rw [← hpq] at hwl NX
          have r1 : IntKind.u64.wrap ((p : Int) * (q : Int)) = (pq : Int) := by rw [hpq, ← Int.natCast_mul, IntKind.wrap_u64]; omega
          have r2 : IntKind.u64.wrap ((pq : Int) + (t0 : Int)) = (pq : Int) + (t0 : Int) := by rw [IntKind.wrap_u64]; omega
          have r3 : IntKind.u64.wrap ((pq : Int) + (t0 : Int) + (dd : Int)) = (pq : Int) + (t0 : Int) + (dd : Int) := by rw [IntKind.wrap_u64]; omega
          obtain ⟨lo, hlo⟩ : ∃ z : Nat, z = (pq + t0 + dd) % 4294967296 := ⟨_, rfl⟩
          obtain ⟨hi', hhi⟩ : ∃ z : Nat, z = (pq + t0 + dd) / 4294967296 := ⟨_, rfl⟩
          rw [← hlo, ← hhi] at NX
          have r4 : bits .and .u64 ((pq : Int) + (t0 : Int) + (dd : Int)) 4294967295 = (lo : Int) := by rw [low32 _ (by omega) (by omega)]; omega
          have r5 : ((pq : Int) + (t0 : Int) + (dd : Int)) / 4294967296 = (hi' : Int) := by omega
          have hlo2 : lo < 4294967296 := by omega
          have r6 : (lo : Int) % 4294967296 = (lo : Int) := by omega
          clear hlo hhi
          have hpq' := Lib.hid hpq
          clear hpq
          subst eb
          have fz := HO.out.1.froz
          have lz := HO.out.1.lt
          have hik : (i : Int) + (k : Int) < (x : Int) + (y : Int) := by omega
          go_upto_region 9 with (fail)
          go_region
          have NO := Lib.hid ((HO.out.1.drew).set (s := i + k) (v := lo) (by omega) hlo2)
          have HB' := Lib.hid HO.out.2
          clear HO c1 l1 c2 l2
          go_wp2
          go_roundg (y - (k + 1))
          case rel => exact ⟨k + 1, by omega, by omega, by go_num, _, _, rfl, NX, Lib.hid ⟨NO.out, by have := HB'.out; (repeat' (first | (with_reducible exact Below.refl _ _) | (with_reducible assumption) | (with_reducible refine below_alloc ?_ _) | (with_reducible refine Below.drew ?_) | (with_reducible refine Below.setCell ?_ ?_ _) | (with_reducible refine below_after ?_ (by assumption)) | go_size))⟩⟩
          case measure => omega
        · obtain rfl : k = y := by omega
          have hltk' : ¬ (k : Int) < (k : Int) := by omega
          have NX := Lib.hid (S2.out T dd HR.out)
          have ct := HO.out.1.cell (i + k) (by omega)
          have fz := HO.out.1.froz
          have lz := HO.out.1.lt
          have hik : (i : Int) + (k : Int) < (x : Int) + (k : Int) := by omega
          have r6 : (dd : Int) % 4294967296 = (dd : Int) := by omega
          have NO := Lib.hid (HO.out.1.set (s := i + k) (v := dd) (by omega) hd)
          have HB' := Lib.hid HO.out.2
          generalize hw T (i + k) = t0 at *
          clear HR S1 S2 KA HO
          go_wp2
          go_roundg (x - (i + 1))
          case rel => exact ⟨i + 1, by omega, by omega, by go_num, Lib.hid ⟨by rw [← NX.out]; exact NO.out, by have := HB'.out; (repeat' (first | (with_reducible exact Below.refl _ _) | (with_reducible assumption) | (with_reducible refine below_alloc ?_ _) | (with_reducible refine Below.drew ?_) | (with_reducible refine Below.setCell ?_ ?_ _) | (with_reducible refine below_after ?_ (by assumption)) | go_size))⟩⟩
          case measure => omega
    · obtain rfl : i = x := by omega
      have hlt' : ¬ (i : Int) < (i : Int) := by omega
      have HO := HI.out.1
      rw [RA.out] at HO
      have HN := Lib.hid HO.nat
      have HB' := Lib.hid HI.out.2
      clear HI HO R0 R1 R2 HG RA RZ
      go_wp2_with fail
      ((with_reducible refine (TR.out (i + y) (i + y) _ (by omega) (Nat.le_refl _) (by unfold maxLen; omega) HP.out _ HN.out).mono ?_); rintro e w2 ⟨rfl, hb2⟩)
      have HS := Lib.hid ((HN.out.less HP.out).later hb2)
      have hbw := below_after HB'.out hb2
      go_wp2
      go_returns
      exact ⟨_, _, rfl, HS.out, by (repeat' (first | (with_reducible exact Below.refl _ _) | (with_reducible assumption) | (with_reducible refine below_alloc ?_ _) | (with_reducible refine Below.drew ?_) | (with_reducible refine Below.setCell ?_ ?_ _) | (with_reducible refine below_after ?_ (by assumption)) | go_size))⟩
end Go.Proofs.YtfmmnnodihpgmaaDoor
namespace Go.Proofs.YtfmmnnodihpgmaaDoor
set_option linter.all false
open Go Go.RowKit Wd
set_option maxRecDepth 100000
/-- While both are even. -/
@[irreducible] def G1 (m n t a b : Nat) : Prop := t * a = m ∧ t * b = n ∧ 0 < t ∧ 0 < a ∧ 0 < b
theorem G1.start {m n : Nat} (hm : 0 < m) (hn : 0 < n) : G1 m n 1 m n := by unfold G1; simp [hm, hn]
theorem G1.next {m n t a b : Nat} (h : G1 m n t a b) (ha : a % 2 = 0) (hb : b % 2 = 0) : G1 m n (t + t) (a / 2) (b / 2) := by
  unfold G1 at *
  obtain ⟨h1, h2, h3, h4, h5⟩ := h
  refine ⟨?_, ?_, by omega, by omega, by omega⟩
  · have e : a = 2 * (a / 2) := by omega
    rw [← h1]; conv => rhs; rw [e]
    rw [← Nat.mul_assoc]; congr 1; omega
  · have e : b = 2 * (b / 2) := by omega
    rw [← h2]; conv => rhs; rw [e]
    rw [← Nat.mul_assoc]; congr 1; omega
theorem G1.lt {m n t a b : Nat} (h : G1 m n t a b) : t ≤ m ∧ a ≤ m ∧ b ≤ n ∧ 0 < a ∧ 0 < b := by
  unfold G1 at h
  obtain ⟨h1, h2, h3, h4, h5⟩ := h
  exact ⟨by rw [← h1]; exact Nat.le_mul_of_pos_right _ h4, by rw [← h1]; exact Nat.le_mul_of_pos_left _ h3, by rw [← h2]; exact Nat.le_mul_of_pos_left _ h3, h4, h5⟩
theorem G1.gcd {m n t a b : Nat} (h : G1 m n t a b) : t * Nat.gcd a b = Nat.gcd m n := by
  unfold G1 at h
  rw [← h.1, ← h.2.1, Nat.gcd_mul_left]
/-- One of them is odd. -/
@[irreducible] def G2 (g M N a b : Nat) : Prop := Nat.gcd a b = g ∧ a ≤ M ∧ b ≤ N ∧ (a % 2 = 1 ∨ b % 2 = 1)
theorem G2.lt {g M N a b : Nat} (h : G2 g M N a b) : a ≤ M ∧ b ≤ N := by unfold G2 at h; exact ⟨h.2.1, h.2.2.1⟩
theorem ngcd_half {a b : Nat} (ha : a % 2 = 0) (hb : b % 2 = 1) : Nat.gcd (a / 2) b = Nat.gcd a b := by
  have e : a = 2 * (a / 2) := by omega
  have hc : Nat.Coprime 2 b := by
    unfold Nat.Coprime
    rw [Nat.gcd_rec, hb]; rfl
  conv => rhs; rw [e]
  exact (Nat.Coprime.gcd_mul_left_cancel (a / 2) hc).symm
theorem G2.halfA {g M N a b : Nat} (h : G2 g M N a b) (ha : a % 2 = 0) : G2 g M N (a / 2) b := by
  unfold G2 at *
  obtain ⟨h1, h2, h3, h4⟩ := h
  have hb : b % 2 = 1 := by omega
  exact ⟨by rw [ngcd_half ha hb]; exact h1, by omega, h3, Or.inr hb⟩
theorem G2.halfB {g M N a b : Nat} (h : G2 g M N a b) (ha : ¬ a % 2 = 0) (hb : b % 2 = 0) : G2 g M N a (b / 2) := by
  unfold G2 at *
  obtain ⟨h1, h2, h3, h4⟩ := h
  exact ⟨by rw [Nat.gcd_comm, ngcd_half hb (by omega), Nat.gcd_comm]; exact h1, h2, by omega, Or.inl (by omega)⟩
theorem G2.subA {g M N a b : Nat} (h : G2 g M N a b) (hb : ¬ b % 2 = 0) (hl : b ≤ a) : G2 g M N (a - b) b := by
  unfold G2 at *
  obtain ⟨h1, h2, h3, h4⟩ := h
  refine ⟨?_, by omega, h3, Or.inr (by omega)⟩
  rw [← h1]
  conv => rhs; rw [show a = (a - b) + b by omega]
  rw [Nat.gcd_add_self_left]
theorem G2.subB {g M N a b : Nat} (h : G2 g M N a b) (ha : ¬ a % 2 = 0) (hl : a ≤ b) : G2 g M N a (b - a) := by
  unfold G2 at *
  obtain ⟨h1, h2, h3, h4⟩ := h
  refine ⟨?_, h2, by omega, Or.inl (by omega)⟩
  rw [← h1]
  conv => rhs; rw [show b = (b - a) + a by omega]
  rw [Nat.gcd_add_self_right]
theorem G2.done {g M N a b : Nat} (h : G2 g M N a b) (h0 : a = 0 ∨ b = 0) : a + b = g := by
  unfold G2 at h
  rcases h0 with rfl | rfl <;> simpa using h.1
theorem G2.start {g a b : Nat} (hg : Nat.gcd a b = g) (h : ¬ (a % 2 = 0 ∧ b % 2 = 0)) : G2 g a b a b := by
  unfold G2
  exact ⟨hg, Nat.le_refl _, Nat.le_refl _, by omega⟩
theorem nl8 {n : Nat} (h : n < 2 ^ 200) : nl n ≤ 8 := nl_le.2 (Nat.lt_of_lt_of_le h (Nat.pow_le_pow_right (by omega) (show 200 ≤ 32 * 8 by omega)))
set_option maxHeartbeats 4000000 in
/-- gcd of two numbers, neither of which is 0. -/
theorem ngcd_pos (m n c d : Nat) (a b : Option Addr) (hm0 : 0 < m) (hn0 : 0 < n) (hm : m < 2 ^ 90) (hn : n < 2 ^ 90) (w : World) (h : NatAt w a m (nl m)) (h' : NatAt w b n (nl n)) :
    Calls Tryd.prog 100 #[.slice a (nl m) c, .slice b (nl n) d] w fun e w' => ∃ a' c', e = .returned (.slice a' (nl (Nat.gcd m n)) c') ∧ NatAt w' a' (Nat.gcd m n) (nl (Nat.gcd m n)) ∧ Below w.heap.size w w' := by
  have P1 := Lib.hid (show ∀ v, Calls Tryd.prog 103 #[.int .u64 1] v fun e w' => ∃ a c, e = .returned (.slice a (nl 1) c) ∧ NatAt w' a 1 (nl 1) ∧ Below v.heap.size v w' ∧ (∀ p, a = some p → v.heap.size ≤ p.block) from fun v => nsmall_any 1 (by omega) v)
  have S1 := Lib.hid (G1.start hm0 hn0)
  have p0 := nl_pos hm0
  have q0 := nl_pos hn0
  have HA := Lib.hid h
  have HB := Lib.hid h'
  clear h h'
  have hx0 : ¬ (nl m : Int) = 0 := by omega
  have hy0 : ¬ (nl n : Int) = 0 := by omega
  have hx0' : ((nl m : Int) == 0) = false := by simp only [beq_eq_false_iff_ne]; omega
  have hy0' : ((nl n : Int) == 0) = false := by simp only [beq_eq_false_iff_ne]; omega
  go_enter Tryd.func100, Tryd.ntmps100
  go_wp2_with fail
  ((with_reducible refine (P1.out _).mono ?_); rintro e w2 ⟨a8, c8, rfl, hN8, hb8, -⟩)
  have A0 := Lib.hid (HA.out.later hb8)
  have B0 := Lib.hid (HB.out.later hb8)
  have T0 := Lib.hid hN8
  have HB0 := Lib.hid hb8
  clear hN8 hb8 P1 hx0 hy0 hx0' hy0' p0 q0
  go_wp2
  go_loopg [0, 1, 5] m (fun gg v0 v1 v5 wr => ∃ x y t a0 c0 a1 c1 a5 c5, x ≤ gg ∧ v0 = .slice a0 (nl x) c0 ∧ v1 = .slice a1 (nl y) c1 ∧ v5 = .slice a5 (nl t) c5 ∧ Hid (G1 m n t x y) ∧ Hid (NatAt wr a0 x (nl x)) ∧ Hid (NatAt wr a1 y (nl y)) ∧ Hid (NatAt wr a5 t (nl t)) ∧ Hid (Below w.heap.size w wr))
  case atStart => exact ⟨m, n, 1, a, c, b, d, a8, c8, Nat.le_refl _, rfl, rfl, rfl, S1, A0, B0, T0, HB0⟩
  case round =>
    obtain ⟨x, y, t, a0, c0, a1, c1, a5, c5, hgx, rfl, rfl, rfl, HG, H0, H1, H5, HW⟩ := hrel
    clear A0 B0 T0 HB0 S1 HA HB
    have hlt := HG.out.lt
    have hb0 := HW.out
    have E0 := Lib.hid (neven_any x c0 a0 (Nat.le_trans (nl8 (by omega)) (by omega)) wr H0.out)
    have E1 := Lib.hid (neven_any y c1 a1 (Nat.le_trans (nl8 (by omega)) (by omega)) wr H1.out)
    by_cases hev : x % 2 = 0 ∧ y % 2 = 0
    · rw [decide_eq_true hev.1] at E0
      rw [decide_eq_true hev.2] at E1
      have N1 := Lib.hid (HG.out.next hev.1 hev.2)
      have K0 := Lib.hid (nhalf_any x c0 a0 (by omega) wr H0.out)
      have K1 := Lib.hid (fun v h => nhalf_any y c1 a1 (by omega) v h)
      have K2 := Lib.hid (fun v h h2 => nplus_any t t c5 c5 a5 a5 (by omega) v h h2)
      clear HG
      go_wp2_with (first
        | (go_at_call 108; first
            | ((with_reducible refine E0.out.mono ?_); rintro e v1 ⟨rfl, rfl⟩)
            | ((with_reducible refine E1.out.mono ?_); rintro e v1 ⟨rfl, rfl⟩))
        | (go_at_call 109; first
            | ((with_reducible refine K0.out.mono ?_); rintro e w3 ⟨a3, c3, rfl, hN3, hb3⟩)
            | ((with_reducible refine (K1.out _ (H1.out.later hb3)).mono ?_); rintro e w4 ⟨a4, c4, rfl, hN4, hb4⟩))
        | (go_at_call 110; (with_reducible refine (K2.out _ ((H5.out.later hb3).later hb4) ((H5.out.later hb3).later hb4)).mono ?_); rintro e w6 ⟨a6, c6, rfl, hN6, hb6, -⟩))
      go_roundg (x / 2)
      case rel => exact ⟨x / 2, y / 2, t + t, a3, c3, a4, c4, a6, c6, Nat.le_refl _, rfl, rfl, rfl, N1, Lib.hid ((hN3.later hb4).later hb6), Lib.hid (hN4.later hb6), Lib.hid hN6, Lib.hid (by (repeat' (first | (with_reducible exact Below.refl _ _) | (with_reducible assumption) | (with_reducible refine below_alloc ?_ _) | (with_reducible refine Below.drew ?_) | (with_reducible refine Below.setCell ?_ ?_ _) | (with_reducible refine below_after ?_ (by assumption)) | go_size)))⟩
      case measure => omega
    · obtain ⟨W2, rfl⟩ : ∃ v, v = wr := ⟨_, rfl⟩
      obtain ⟨g, hg⟩ : ∃ g, g = Nat.gcd x y := ⟨_, rfl⟩
      have S2 := Lib.hid (G2.start hg.symm hev)
      have HEQ := Lib.hid (show t * g = Nat.gcd m n from by rw [hg]; exact HG.out.gcd)
      have hws := hb0.size
      have hgl : g ≤ x := by rw [hg]; exact Nat.le_of_dvd hlt.2.2.2.1 (Nat.gcd_dvd_left x y)
      have hx1 : (decide (x % 2 = 0) = false) ∨ (decide (x % 2 = 0) = true ∧ decide (y % 2 = 0) = false) := by
        by_cases h1 : x % 2 = 0
        · exact Or.inr ⟨decide_eq_true h1, decide_eq_false (fun h2 => hev ⟨h1, h2⟩)⟩
        · exact Or.inl (decide_eq_false h1)
      clear hg HG
      rcases hx1 with hx1 | ⟨hx1, hx2⟩
      · rw [hx1] at E0
        go_wp2_with (first
          | (go_at_call 108; (with_reducible refine E0.out.mono ?_); rintro e v1 ⟨rfl, he⟩; rw [he]; clear he v1))
        go_loopg [0, 1] (x + y) (fun gg v0 v1 wr => ∃ p q a0 c0 a1 c1, p + q ≤ gg ∧ v0 = .slice a0 (nl p) c0 ∧ v1 = .slice a1 (nl q) c1 ∧ Hid (G2 g x y p q) ∧ Hid (NatAt wr a0 p (nl p)) ∧ Hid (NatAt wr a1 q (nl q)) ∧ Hid (Below W2.heap.size W2 wr))
        case atStart => exact ⟨x, y, a0, c0, a1, c1, Nat.le_refl _, rfl, rfl, S2, H0, H1, Lib.hid (Below.refl _ _)⟩
        case round =>
          obtain ⟨p, q, a0, c0, a1, c1, hpq, rfl, rfl, HG2, H0, H1, HW2⟩ := hrel
          have hl2 := HG2.out.lt
          by_cases hp0 : p = 0
          · have HZ : p = 0 ∨ q = 0 := Or.inl hp0
            have t1 : ¬ (nl p : Int) > 0 := by rw [hp0, nl_zero]; omega
            clear S2 E0 E1 hx1 hev hp0
            have hsum := HG2.out.done HZ
            clear HZ
            have PP := Lib.hid (nplus_any p q c0 c1 a0 a1 (by omega) wr H0.out H1.out)
            have TM := Lib.hid (fun cA aA v h1 h2 => ntimes_any t (p + q) c5 cA a5 aA (nl8 (by omega)) (nl8 (by omega)) v h1 h2)
            rw [hsum, HEQ.out] at TM
            rw [hsum] at PP
            clear HG2
            go_wp2_with (first
              | (go_at_call 110; (with_reducible refine PP.out.mono ?_); rintro e w6 ⟨a6, c6, rfl, hN6, hb6, -⟩)
              | (go_at_call 113; (with_reducible refine (TM.out _ _ _ (H5.out.later (below_after HW2.out hb6)) hN6).mono ?_); rintro e w7 ⟨a7, c7, rfl, hN7, hb7⟩))
            have hfin := below_after (below_after (HW.out.trans (HW2.out.mono hws)) hb6) hb7
            go_returns
            exact ⟨_, _, rfl, hN7, by (repeat' (first | (with_reducible exact Below.refl _ _) | (with_reducible assumption) | (with_reducible refine below_alloc ?_ _) | (with_reducible refine Below.drew ?_) | (with_reducible refine Below.setCell ?_ ?_ _) | (with_reducible refine below_after ?_ (by assumption)) | go_size))⟩
          · by_cases hq0 : q = 0
            · have HZ : p = 0 ∨ q = 0 := Or.inr hq0
              have t1 : (nl p : Int) > 0 := by have := nl_pos (Nat.pos_of_ne_zero hp0); omega
              have t2 : ¬ (nl q : Int) > 0 := by rw [hq0, nl_zero]; omega
              clear S2 E0 E1 hx1 hev hq0 hp0
              have hsum := HG2.out.done HZ
              clear HZ
              have PP := Lib.hid (nplus_any p q c0 c1 a0 a1 (by omega) wr H0.out H1.out)
              have TM := Lib.hid (fun cA aA v h1 h2 => ntimes_any t (p + q) c5 cA a5 aA (nl8 (by omega)) (nl8 (by omega)) v h1 h2)
              rw [hsum, HEQ.out] at TM
              rw [hsum] at PP
              clear HG2
              go_wp2_with (first
                | (go_at_call 110; (with_reducible refine PP.out.mono ?_); rintro e w6 ⟨a6, c6, rfl, hN6, hb6, -⟩)
                | (go_at_call 113; (with_reducible refine (TM.out _ _ _ (H5.out.later (below_after HW2.out hb6)) hN6).mono ?_); rintro e w7 ⟨a7, c7, rfl, hN7, hb7⟩))
              have hfin := below_after (below_after (HW.out.trans (HW2.out.mono hws)) hb6) hb7
              go_returns
              exact ⟨_, _, rfl, hN7, by (repeat' (first | (with_reducible exact Below.refl _ _) | (with_reducible assumption) | (with_reducible refine below_alloc ?_ _) | (with_reducible refine Below.drew ?_) | (with_reducible refine Below.setCell ?_ ?_ _) | (with_reducible refine below_after ?_ (by assumption)) | go_size))⟩
            · have t1 : (nl p : Int) > 0 := by have := nl_pos (Nat.pos_of_ne_zero hp0); omega
              have t2 : (nl q : Int) > 0 := by have := nl_pos (Nat.pos_of_ne_zero hq0); omega
              have F0 := Lib.hid (neven_any p c0 a0 (Nat.le_trans (nl8 (by omega)) (by omega)) wr H0.out)
              have F1 := Lib.hid (neven_any q c1 a1 (Nat.le_trans (nl8 (by omega)) (by omega)) wr H1.out)
              have hbw := HW2.out
              clear S2 E0 E1 hx1 hev
              by_cases hpe : p % 2 = 0
              · rw [decide_eq_true hpe] at F0
                have N2 := Lib.hid (HG2.out.halfA hpe)
                have ZZ := Lib.hid (nhalf_any p c0 a0 (by omega) wr H0.out)
                go_wp2_with (first
                  | (go_at_call 108; first
                      | ((with_reducible refine F0.out.mono ?_); rintro e v1 ⟨rfl, rfl⟩)
                      | ((with_reducible refine F1.out.mono ?_); rintro e v1 ⟨rfl, rfl⟩))
                  | (go_at_call 111; (with_reducible refine CC.out.mono ?_); rintro e v2 ⟨rfl, hbc⟩)
                  | (go_at_call 109; (with_reducible refine ZZ.out.mono ?_); rintro e w6 ⟨a6, c6, rfl, hN6, hb6⟩)
                  | (go_at_call 112; (with_reducible refine (ZZ.out _ hbc).mono ?_); rintro e w6 ⟨a6, c6, rfl, hN6, hb6, -⟩))
                go_roundg (p / 2 + q)
                case rel => exact ⟨p / 2, q, a6, c6, a1, c1, Nat.le_refl _, rfl, rfl, N2, Lib.hid hN6, Lib.hid (H1.out.later hb6), Lib.hid (by (repeat' (first | (with_reducible exact Below.refl _ _) | (with_reducible assumption) | (with_reducible refine below_alloc ?_ _) | (with_reducible refine Below.drew ?_) | (with_reducible refine Below.setCell ?_ ?_ _) | (with_reducible refine below_after ?_ (by assumption)) | go_size)))⟩
                case measure => omega
              · rw [decide_eq_false hpe] at F0
                by_cases hqe : q % 2 = 0
                · rw [decide_eq_true hqe] at F1
                  have N2 := Lib.hid (HG2.out.halfB hpe hqe)
                  have ZZ := Lib.hid (nhalf_any q c1 a1 (by omega) wr H1.out)
                  go_wp2_with (first
                    | (go_at_call 108; first
                        | ((with_reducible refine F0.out.mono ?_); rintro e v1 ⟨rfl, rfl⟩)
                        | ((with_reducible refine F1.out.mono ?_); rintro e v1 ⟨rfl, rfl⟩))
                    | (go_at_call 111; (with_reducible refine CC.out.mono ?_); rintro e v2 ⟨rfl, hbc⟩)
                    | (go_at_call 109; (with_reducible refine ZZ.out.mono ?_); rintro e w6 ⟨a6, c6, rfl, hN6, hb6⟩)
                    | (go_at_call 112; (with_reducible refine (ZZ.out _ hbc).mono ?_); rintro e w6 ⟨a6, c6, rfl, hN6, hb6, -⟩))
                  go_roundg (p + q / 2)
                  case rel => exact ⟨p, q / 2, a0, c0, a6, c6, Nat.le_refl _, rfl, rfl, N2, Lib.hid (H0.out.later hb6), Lib.hid hN6, Lib.hid (by (repeat' (first | (with_reducible exact Below.refl _ _) | (with_reducible assumption) | (with_reducible refine below_alloc ?_ _) | (with_reducible refine Below.drew ?_) | (with_reducible refine Below.setCell ?_ ?_ _) | (with_reducible refine below_after ?_ (by assumption)) | go_size)))⟩
                  case measure => omega
                · rw [decide_eq_false hqe] at F1
                  have CC := Lib.hid (ncompare_any p q c0 c1 a0 a1 (Nat.le_trans (nl8 (by omega)) (by omega)) (Nat.le_trans (nl8 (by omega)) (by omega)) wr H0.out H1.out)
                  rcases Nat.lt_or_ge p q with hcmp | hcmp
                  · have hcv : cmpN p q < 0 := by unfold cmpN; rw [if_pos hcmp]; omega
                    have N2 := Lib.hid (HG2.out.subB hpe (Nat.le_of_lt hcmp))
                    have ZZ := Lib.hid (fun v (h : Below wr.heap.size wr v) => nminus_any q p c1 c0 a1 a0 (Nat.le_of_lt hcmp) (by omega) v (H1.out.later h) (H0.out.later h))
                    generalize cmpN p q = cc at *
                    go_wp2_with (first
                      | (go_at_call 108; first
                          | ((with_reducible refine F0.out.mono ?_); rintro e v1 ⟨rfl, rfl⟩)
                          | ((with_reducible refine F1.out.mono ?_); rintro e v1 ⟨rfl, rfl⟩))
                      | (go_at_call 111; (with_reducible refine CC.out.mono ?_); rintro e v2 ⟨rfl, hbc⟩)
                      | (go_at_call 109; (with_reducible refine ZZ.out.mono ?_); rintro e w6 ⟨a6, c6, rfl, hN6, hb6⟩)
                      | (go_at_call 112; (with_reducible refine (ZZ.out _ hbc).mono ?_); rintro e w6 ⟨a6, c6, rfl, hN6, hb6, -⟩))
                    go_roundg (p + (q - p))
                    case rel => exact ⟨p, q - p, a0, c0, a6, c6, Nat.le_refl _, rfl, rfl, N2, Lib.hid ((H0.out.later hbc).later hb6), Lib.hid hN6, Lib.hid (by (repeat' (first | (with_reducible exact Below.refl _ _) | (with_reducible assumption) | (with_reducible refine below_alloc ?_ _) | (with_reducible refine Below.drew ?_) | (with_reducible refine Below.setCell ?_ ?_ _) | (with_reducible refine below_after ?_ (by assumption)) | go_size)))⟩
                    case measure => omega
                  · have hcv : 0 ≤ cmpN p q := by unfold cmpN; rw [if_neg (by omega)]; split <;> omega
                    have N2 := Lib.hid (HG2.out.subA hqe hcmp)
                    have ZZ := Lib.hid (fun v (h : Below wr.heap.size wr v) => nminus_any p q c0 c1 a0 a1 hcmp (by omega) v (H0.out.later h) (H1.out.later h))
                    generalize cmpN p q = cc at *
                    go_wp2_with (first
                      | (go_at_call 108; first
                          | ((with_reducible refine F0.out.mono ?_); rintro e v1 ⟨rfl, rfl⟩)
                          | ((with_reducible refine F1.out.mono ?_); rintro e v1 ⟨rfl, rfl⟩))
                      | (go_at_call 111; (with_reducible refine CC.out.mono ?_); rintro e v2 ⟨rfl, hbc⟩)
                      | (go_at_call 109; (with_reducible refine ZZ.out.mono ?_); rintro e w6 ⟨a6, c6, rfl, hN6, hb6⟩)
                      | (go_at_call 112; (with_reducible refine (ZZ.out _ hbc).mono ?_); rintro e w6 ⟨a6, c6, rfl, hN6, hb6, -⟩))
                    go_roundg (p - q + q)
                    case rel => exact ⟨p - q, q, a6, c6, a1, c1, Nat.le_refl _, rfl, rfl, N2, Lib.hid hN6, Lib.hid ((H1.out.later hbc).later hb6), Lib.hid (by (repeat' (first | (with_reducible exact Below.refl _ _) | (with_reducible assumption) | (with_reducible refine below_alloc ?_ _) | (with_reducible refine Below.drew ?_) | (with_reducible refine Below.setCell ?_ ?_ _) | (with_reducible refine below_after ?_ (by assumption)) | go_size)))⟩
                    case measure => omega
      · rw [hx1] at E0
        rw [hx2] at E1
        go_wp2_with (first
          | (go_at_call 108; first
              | ((with_reducible refine E0.out.mono ?_); rintro e v1 ⟨rfl, he⟩; rw [he]; clear he v1)
              | ((with_reducible refine E1.out.mono ?_); rintro e v1 ⟨rfl, he⟩; rw [he]; clear he v1)))
        go_loopg [0, 1] (x + y) (fun gg v0 v1 wr => ∃ p q a0 c0 a1 c1, p + q ≤ gg ∧ v0 = .slice a0 (nl p) c0 ∧ v1 = .slice a1 (nl q) c1 ∧ Hid (G2 g x y p q) ∧ Hid (NatAt wr a0 p (nl p)) ∧ Hid (NatAt wr a1 q (nl q)) ∧ Hid (Below W2.heap.size W2 wr))
        case atStart => exact ⟨x, y, a0, c0, a1, c1, Nat.le_refl _, rfl, rfl, S2, H0, H1, Lib.hid (Below.refl _ _)⟩
        case round =>
          obtain ⟨p, q, a0, c0, a1, c1, hpq, rfl, rfl, HG2, H0, H1, HW2⟩ := hrel
          have hl2 := HG2.out.lt
          by_cases hp0 : p = 0
          · have HZ : p = 0 ∨ q = 0 := Or.inl hp0
            have t1 : ¬ (nl p : Int) > 0 := by rw [hp0, nl_zero]; omega
            clear S2 E0 E1 hx1 hev hp0
            have hsum := HG2.out.done HZ
            clear HZ
            have PP := Lib.hid (nplus_any p q c0 c1 a0 a1 (by omega) wr H0.out H1.out)
            have TM := Lib.hid (fun cA aA v h1 h2 => ntimes_any t (p + q) c5 cA a5 aA (nl8 (by omega)) (nl8 (by omega)) v h1 h2)
            rw [hsum, HEQ.out] at TM
            rw [hsum] at PP
            clear HG2
            go_wp2_with (first
              | (go_at_call 110; (with_reducible refine PP.out.mono ?_); rintro e w6 ⟨a6, c6, rfl, hN6, hb6, -⟩)
              | (go_at_call 113; (with_reducible refine (TM.out _ _ _ (H5.out.later (below_after HW2.out hb6)) hN6).mono ?_); rintro e w7 ⟨a7, c7, rfl, hN7, hb7⟩))
            have hfin := below_after (below_after (HW.out.trans (HW2.out.mono hws)) hb6) hb7
            go_returns
            exact ⟨_, _, rfl, hN7, by (repeat' (first | (with_reducible exact Below.refl _ _) | (with_reducible assumption) | (with_reducible refine below_alloc ?_ _) | (with_reducible refine Below.drew ?_) | (with_reducible refine Below.setCell ?_ ?_ _) | (with_reducible refine below_after ?_ (by assumption)) | go_size))⟩
          · by_cases hq0 : q = 0
            · have HZ : p = 0 ∨ q = 0 := Or.inr hq0
              have t1 : (nl p : Int) > 0 := by have := nl_pos (Nat.pos_of_ne_zero hp0); omega
              have t2 : ¬ (nl q : Int) > 0 := by rw [hq0, nl_zero]; omega
              clear S2 E0 E1 hx1 hev hq0 hp0
              have hsum := HG2.out.done HZ
              clear HZ
              have PP := Lib.hid (nplus_any p q c0 c1 a0 a1 (by omega) wr H0.out H1.out)
              have TM := Lib.hid (fun cA aA v h1 h2 => ntimes_any t (p + q) c5 cA a5 aA (nl8 (by omega)) (nl8 (by omega)) v h1 h2)
              rw [hsum, HEQ.out] at TM
              rw [hsum] at PP
              clear HG2
              go_wp2_with (first
                | (go_at_call 110; (with_reducible refine PP.out.mono ?_); rintro e w6 ⟨a6, c6, rfl, hN6, hb6, -⟩)
                | (go_at_call 113; (with_reducible refine (TM.out _ _ _ (H5.out.later (below_after HW2.out hb6)) hN6).mono ?_); rintro e w7 ⟨a7, c7, rfl, hN7, hb7⟩))
              have hfin := below_after (below_after (HW.out.trans (HW2.out.mono hws)) hb6) hb7
              go_returns
              exact ⟨_, _, rfl, hN7, by (repeat' (first | (with_reducible exact Below.refl _ _) | (with_reducible assumption) | (with_reducible refine below_alloc ?_ _) | (with_reducible refine Below.drew ?_) | (with_reducible refine Below.setCell ?_ ?_ _) | (with_reducible refine below_after ?_ (by assumption)) | go_size))⟩
            · have t1 : (nl p : Int) > 0 := by have := nl_pos (Nat.pos_of_ne_zero hp0); omega
              have t2 : (nl q : Int) > 0 := by have := nl_pos (Nat.pos_of_ne_zero hq0); omega
              have F0 := Lib.hid (neven_any p c0 a0 (Nat.le_trans (nl8 (by omega)) (by omega)) wr H0.out)
              have F1 := Lib.hid (neven_any q c1 a1 (Nat.le_trans (nl8 (by omega)) (by omega)) wr H1.out)
              have hbw := HW2.out
              clear S2 E0 E1 hx1 hev
              by_cases hpe : p % 2 = 0
              · rw [decide_eq_true hpe] at F0
                have N2 := Lib.hid (HG2.out.halfA hpe)
                have ZZ := Lib.hid (nhalf_any p c0 a0 (by omega) wr H0.out)
                go_wp2_with (first
                  | (go_at_call 108; first
                      | ((with_reducible refine F0.out.mono ?_); rintro e v1 ⟨rfl, rfl⟩)
                      | ((with_reducible refine F1.out.mono ?_); rintro e v1 ⟨rfl, rfl⟩))
                  | (go_at_call 111; (with_reducible refine CC.out.mono ?_); rintro e v2 ⟨rfl, hbc⟩)
                  | (go_at_call 109; (with_reducible refine ZZ.out.mono ?_); rintro e w6 ⟨a6, c6, rfl, hN6, hb6⟩)
                  | (go_at_call 112; (with_reducible refine (ZZ.out _ hbc).mono ?_); rintro e w6 ⟨a6, c6, rfl, hN6, hb6, -⟩))
                go_roundg (p / 2 + q)
                case rel => exact ⟨p / 2, q, a6, c6, a1, c1, Nat.le_refl _, rfl, rfl, N2, Lib.hid hN6, Lib.hid (H1.out.later hb6), Lib.hid (by (repeat' (first | (with_reducible exact Below.refl _ _) | (with_reducible assumption) | (with_reducible refine below_alloc ?_ _) | (with_reducible refine Below.drew ?_) | (with_reducible refine Below.setCell ?_ ?_ _) | (with_reducible refine below_after ?_ (by assumption)) | go_size)))⟩
                case measure => omega
              · rw [decide_eq_false hpe] at F0
                by_cases hqe : q % 2 = 0
                · rw [decide_eq_true hqe] at F1
                  have N2 := Lib.hid (HG2.out.halfB hpe hqe)
                  have ZZ := Lib.hid (nhalf_any q c1 a1 (by omega) wr H1.out)
                  go_wp2_with (first
                    | (go_at_call 108; first
                        | ((with_reducible refine F0.out.mono ?_); rintro e v1 ⟨rfl, rfl⟩)
                        | ((with_reducible refine F1.out.mono ?_); rintro e v1 ⟨rfl, rfl⟩))
                    | (go_at_call 111; (with_reducible refine CC.out.mono ?_); rintro e v2 ⟨rfl, hbc⟩)
                    | (go_at_call 109; (with_reducible refine ZZ.out.mono ?_); rintro e w6 ⟨a6, c6, rfl, hN6, hb6⟩)
                    | (go_at_call 112; (with_reducible refine (ZZ.out _ hbc).mono ?_); rintro e w6 ⟨a6, c6, rfl, hN6, hb6, -⟩))
                  go_roundg (p + q / 2)
                  case rel => exact ⟨p, q / 2, a0, c0, a6, c6, Nat.le_refl _, rfl, rfl, N2, Lib.hid (H0.out.later hb6), Lib.hid hN6, Lib.hid (by (repeat' (first | (with_reducible exact Below.refl _ _) | (with_reducible assumption) | (with_reducible refine below_alloc ?_ _) | (with_reducible refine Below.drew ?_) | (with_reducible refine Below.setCell ?_ ?_ _) | (with_reducible refine below_after ?_ (by assumption)) | go_size)))⟩
                  case measure => omega
                · rw [decide_eq_false hqe] at F1
                  have CC := Lib.hid (ncompare_any p q c0 c1 a0 a1 (Nat.le_trans (nl8 (by omega)) (by omega)) (Nat.le_trans (nl8 (by omega)) (by omega)) wr H0.out H1.out)
                  rcases Nat.lt_or_ge p q with hcmp | hcmp
                  · have hcv : cmpN p q < 0 := by unfold cmpN; rw [if_pos hcmp]; omega
                    have N2 := Lib.hid (HG2.out.subB hpe (Nat.le_of_lt hcmp))
                    have ZZ := Lib.hid (fun v (h : Below wr.heap.size wr v) => nminus_any q p c1 c0 a1 a0 (Nat.le_of_lt hcmp) (by omega) v (H1.out.later h) (H0.out.later h))
                    generalize cmpN p q = cc at *
                    go_wp2_with (first
                      | (go_at_call 108; first
                          | ((with_reducible refine F0.out.mono ?_); rintro e v1 ⟨rfl, rfl⟩)
                          | ((with_reducible refine F1.out.mono ?_); rintro e v1 ⟨rfl, rfl⟩))
                      | (go_at_call 111; (with_reducible refine CC.out.mono ?_); rintro e v2 ⟨rfl, hbc⟩)
                      | (go_at_call 109; (with_reducible refine ZZ.out.mono ?_); rintro e w6 ⟨a6, c6, rfl, hN6, hb6⟩)
                      | (go_at_call 112; (with_reducible refine (ZZ.out _ hbc).mono ?_); rintro e w6 ⟨a6, c6, rfl, hN6, hb6, -⟩))
                    go_roundg (p + (q - p))
                    case rel => exact ⟨p, q - p, a0, c0, a6, c6, Nat.le_refl _, rfl, rfl, N2, Lib.hid ((H0.out.later hbc).later hb6), Lib.hid hN6, Lib.hid (by (repeat' (first | (with_reducible exact Below.refl _ _) | (with_reducible assumption) | (with_reducible refine below_alloc ?_ _) | (with_reducible refine Below.drew ?_) | (with_reducible refine Below.setCell ?_ ?_ _) | (with_reducible refine below_after ?_ (by assumption)) | go_size)))⟩
                    case measure => omega
                  · have hcv : 0 ≤ cmpN p q := by unfold cmpN; rw [if_neg (by omega)]; split <;> omega
                    have N2 := Lib.hid (HG2.out.subA hqe hcmp)
                    have ZZ := Lib.hid (fun v (h : Below wr.heap.size wr v) => nminus_any p q c0 c1 a0 a1 hcmp (by omega) v (H0.out.later h) (H1.out.later h))
                    generalize cmpN p q = cc at *
                    go_wp2_with (first
                      | (go_at_call 108; first
                          | ((with_reducible refine F0.out.mono ?_); rintro e v1 ⟨rfl, rfl⟩)
                          | ((with_reducible refine F1.out.mono ?_); rintro e v1 ⟨rfl, rfl⟩))
                      | (go_at_call 111; (with_reducible refine CC.out.mono ?_); rintro e v2 ⟨rfl, hbc⟩)
                      | (go_at_call 109; (with_reducible refine ZZ.out.mono ?_); rintro e w6 ⟨a6, c6, rfl, hN6, hb6⟩)
                      | (go_at_call 112; (with_reducible refine (ZZ.out _ hbc).mono ?_); rintro e w6 ⟨a6, c6, rfl, hN6, hb6, -⟩))
                    go_roundg (p - q + q)
                    case rel => exact ⟨p - q, q, a6, c6, a1, c1, Nat.le_refl _, rfl, rfl, N2, Lib.hid hN6, Lib.hid ((H1.out.later hbc).later hb6), Lib.hid (by (repeat' (first | (with_reducible exact Below.refl _ _) | (with_reducible assumption) | (with_reducible refine below_alloc ?_ _) | (with_reducible refine Below.drew ?_) | (with_reducible refine Below.setCell ?_ ?_ _) | (with_reducible refine below_after ?_ (by assumption)) | go_size)))⟩
                    case measure => omega
end Go.Proofs.YtfmmnnodihpgmaaDoor
namespace Go.Proofs.YtfmmnnodihpgmaaDoor.Wd
set_option linter.all false
/-- bit n is set in a multiple of 2^(n+1) -/
theorem hset_bit {Q n h : Nat} (hQ : Q = h * 2 ^ (n + 1)) : seth Q (n / 32) (hn Q (n / 32) + 2 ^ (n % 32)) = Q + 2 ^ n ∧ hn Q (n / 32) + 2 ^ (n % 32) < 4294967296 := by
  have hm : n % 32 < 32 := Nat.mod_lt _ (by omega)
  have hn : n = 32 * (n / 32) + n % 32 := (Nat.div_add_mod n 32).symm
  generalize n % 32 = m at *
  generalize n / 32 = q at *
  subst hn
  have hw : hn Q q = 2 ^ (m + 1) * (h % 2 ^ (31 - m)) := by
    unfold hn
    rw [hQ, show 32 * q + m + 1 = (m + 1) + 32 * q by omega, Nat.pow_add, ← Nat.mul_assoc, Nat.mul_div_cancel _ (Nat.pow_pos (by omega))]
    have e : 4294967296 = 2 ^ (m + 1) * 2 ^ (31 - m) := by rw [← Nat.pow_add, show m + 1 + (31 - m) = 32 by omega]
    rw [e, Nat.mul_comm h, Nat.mul_mod_mul_left]
  have hp := Nat.pow_pos (n := m) (by omega : 0 < 2)
  have hl : hn Q q + 2 ^ m < 4294967296 := by
    have h1 : h % 2 ^ (31 - m) + 1 ≤ 2 ^ (31 - m) := Nat.mod_lt _ (Nat.pow_pos (by omega))
    have h2 := Nat.mul_le_mul_left (2 ^ (m + 1)) h1
    rw [Nat.mul_add, Nat.mul_one, ← Nat.pow_add, show m + 1 + (31 - m) = 32 by omega] at h2
    rw [hw]
    have h3 : 2 ^ (m + 1) = 2 * 2 ^ m := by rw [Nat.pow_succ]; omega
    have h4 : (2 : Nat) ^ 32 = 4294967296 := rfl
    omega
  refine ⟨?_, hl⟩
  · have hs := hsplit_at Q q
    conv => rhs; rw [hs]
    unfold seth
    rw [Nat.pow_add]
    generalize Q / 2 ^ (32 * q) / 4294967296 = H
    generalize Q % 2 ^ (32 * q) = L
    generalize 2 ^ (32 * q) = p
    generalize 2 ^ m = y
    generalize hn Q q = x
    have e : p * (x + y + 4294967296 * H) = p * (x + 4294967296 * H) + p * y := by
      rw [← Nat.mul_add]; exact congrArg (p * ·) (by omega)
    rw [e]; omega
theorem DivInv.hbit {a b n Q R : Nat} (h : DivInv a b (n + 1) Q R) : seth Q (n / 32) (hn Q (n / 32) + 2 ^ (n % 32)) = Q + 2 ^ n ∧ hn Q (n / 32) + 2 ^ (n % 32) < 4294967296 := by
  unfold DivInv at h
  exact hset_bit h.1
theorem tw_low {R c : Nat} (hc : c ≤ 1) : hw (tw R c) 0 = hw (sm R R) 0 + c := by
  unfold tw sm
  rw [hw_mod _ _ (by omega), hw_mod _ _ (by omega), hw0, hw0]
  omega
theorem tw_high {R c i : Nat} (hc : c ≤ 1) (hi : 0 < i) (h8 : i < 8) : hw (tw R c) i = hw (sm R R) i := by
  unfold tw sm
  rw [hw_mod _ _ h8, hw_mod _ _ h8]
  unfold hw
  obtain ⟨m, hm⟩ : ∃ m, 32 * i = m + 1 := ⟨32 * i - 1, by omega⟩
  have e : 2 ^ (32 * i) = 2 * 2 ^ m := by rw [hm, Nat.pow_succ, Nat.mul_comm]
  rw [e, ← Nat.div_div_eq_div_mul, ← Nat.div_div_eq_div_mul, show (2 * R + c) / 2 = R by omega, show (R + R) / 2 = R by omega]
/-- the bit of a number by its half-word -/
theorem hbit_at (a n : Nat) : hn a (n / 32) / 2 ^ (n % 32) % 2 = bitN a n := by
  unfold bitN hn
  have hm : n % 32 < 32 := Nat.mod_lt _ (by omega)
  have hn : n = 32 * (n / 32) + n % 32 := (Nat.div_add_mod n 32).symm
  generalize n % 32 = m at *
  generalize n / 32 = q at *
  subst hn
  rw [Nat.pow_add, ← Nat.div_div_eq_div_mul]
  generalize a / 2 ^ (32 * q) = x
  have e2 : 4294967296 = 2 ^ m * (2 * 2 ^ (31 - m)) := by
    rw [← Nat.mul_assoc, Nat.mul_comm (2 ^ m) 2, Nat.mul_assoc, ← Nat.pow_add, show m + (31 - m) = 31 by omega]
  rw [e2, Nat.mod_mul_right_div_self, Nat.mod_mul_right_mod]
/-- one bit at its place in a half-word, and what a half-word is by it -/
@[irreducible] def pw2 (n : Nat) : Nat := 2 ^ (n % 32)
@[irreducible] def dq (a n : Nat) : Nat := hn a (n / 32) / pw2 n
theorem pw2_pos (n : Nat) : ¬ pw2 n = 0 := by unfold pw2; have := Nat.pow_pos (n := n % 32) (by omega : 0 < 2); omega
theorem pw2_lt (n : Nat) : pw2 n < 4294967296 := by
  unfold pw2
  have : n % 32 < 32 := Nat.mod_lt _ (by omega)
  exact Nat.pow_lt_pow_right (by omega) this
theorem dq_lt (a n : Nat) : dq a n < 4294967296 := by unfold dq; exact Nat.lt_of_le_of_lt (Nat.div_le_self _ _) (hn_lt _ _)
theorem dq_bit (a n : Nat) : dq a n % 2 = bitN a n := by unfold dq pw2; exact hbit_at a n
theorem dq_wrap (a n : Nat) : IntKind.u64.wrap (hw a (n / 32) / (pw2 n : Int)) = (dq a n : Int) := by
  have h := dq_lt a n
  rw [hw_hn, ← Int.natCast_ediv]
  unfold dq at *
  rw [IntKind.wrap_u64]
  generalize hn a (n / 32) / pw2 n = q at *
  omega
/-- where the double with a bit lies -/
theorem ref_word {b R c : Nat} (hb : b < 2 ^ 256) (hR : R < b) (hc : c ≤ 1) :
    (2 ^ 256 ≤ R + R ∧ b ≤ 2 * R + c ∧ df (tw R c) b = 2 * R + c - b) ∨ (¬ 2 ^ 256 ≤ R + R ∧ (cmpN (tw R c) b = 0 ∨ cmpN (tw R c) b = 1) ∧ b ≤ 2 * R + c ∧ df (tw R c) b = 2 * R + c - b) ∨ (¬ 2 ^ 256 ≤ R + R ∧ cmpN (tw R c) b = -1 ∧ 2 * R + c < b ∧ tw R c = 2 * R + c) := by
  have hM : (2 : Nat) ^ 256 = 2 * 2 ^ 255 := by rw [Nat.mul_comm, ← Nat.pow_succ]
  unfold tw df cmpN at *
  generalize 2 ^ 255 = N at *
  generalize 2 ^ 256 = M at *
  subst hM
  by_cases h1 : 2 * N ≤ R + R
  · have e2 : (2 * R + c) % (2 * N) = 2 * R + c - 2 * N := by rw [Nat.mod_eq_sub_mod (by omega), Nat.mod_eq_of_lt (by omega)]
    refine Or.inl ⟨h1, by omega, ?_⟩
    rw [e2, show 2 * R + c - 2 * N + 2 * N - b = 2 * R + c - b by omega, Nat.mod_eq_of_lt (by omega)]
  · have e2 : (2 * R + c) % (2 * N) = 2 * R + c := Nat.mod_eq_of_lt (by omega)
    rw [e2]
    by_cases h2 : 2 * R + c < b
    · exact Or.inr (Or.inr ⟨h1, by rw [if_pos h2], h2, rfl⟩)
    · refine Or.inr (Or.inl ⟨h1, by rw [if_neg h2]; split <;> simp, by omega, ?_⟩)
      rw [show 2 * R + c + 2 * N - b = (2 * R + c - b) + 2 * N by omega, Nat.add_mod_right, Nat.mod_eq_of_lt (by omega)]
end Go.Proofs.YtfmmnnodihpgmaaDoor.Wd
namespace Go.Proofs.YtfmmnnodihpgmaaDoor
set_option linter.all false
open Go Go.RowKit Wd
set_option maxRecDepth 100000
theorem ndiv_start {a b x : Nat} (ha : a < 2 ^ (32 * x)) : DivInv a b (32 * x) 0 0 := by
  unfold DivInv
  rw [Nat.div_eq_of_lt ha]; simp
theorem Outd.later {w x : World} {B T K : Nat} (h : Outd w B T K) (hb : Below w.heap.size w x) : Outd x B T K :=
  ⟨fun j hj => (hb.cell (p := ⟨B, j, none⟩) h.lt).trans (h.cell j hj), fun o => (hb.frozen (p := ⟨B, o, none⟩) h.lt).trans (h.froz o), keep_lt hb h.lt⟩
theorem nbit_and (m t : Nat) : bits .and .u32 ((hn m (t / 32) : Int) / 2 ^ (t % 32)) 1 = (bitN m t : Int) := by
  have hl := hn_lt m (t / 32)
  have e : ((hn m (t / 32) : Int) / 2 ^ (t % 32)) = ((hn m (t / 32) / 2 ^ (t % 32) : Nat) : Int) := by rw [Int.natCast_ediv]; simp
  have hd : hn m (t / 32) / 2 ^ (t % 32) < 4294967296 := Nat.lt_of_le_of_lt (Nat.div_le_self _ _) hl
  rw [e, show (1 : Int) = ((1 : Nat) : Int) from rfl, u32_and_nat _ _ hd (by omega), ← hbit_at m t, nat_mask1]
theorem nbit_or {a b n Q R : Nat} (h : DivInv a b (n + 1) Q R) : bits .or .u32 (hn Q (n / 32) : Int) ((2 : Int) ^ (n % 32) % 4294967296) = ((hn Q (n / 32) + 2 ^ (n % 32) : Nat) : Int) := by
  have hs := h.hbit.2
  unfold DivInv at h
  have h1 := h.1
  generalize a / 2 ^ (n + 1) / b = g at h1
  have hj : n % 32 < 32 := Nat.mod_lt _ (by omega)
  have e : hn Q (n / 32) % 2 ^ (n % 32 + 1) = 0 := by
    unfold hn
    have e3 : Q / 2 ^ (32 * (n / 32)) = g * 2 ^ (n % 32 + 1) := by
      rw [h1]
      conv => lhs; lhs; rw [show n + 1 = 32 * (n / 32) + (n % 32 + 1) by omega]
      rw [Nat.pow_add, ← Nat.mul_assoc, Nat.mul_right_comm, Nat.mul_div_cancel _ (Nat.pow_pos (by omega))]
    rw [e3]
    have e4 : 4294967296 = 2 ^ (n % 32 + 1) * 2 ^ (31 - n % 32) := by rw [← Nat.pow_add, show n % 32 + 1 + (31 - n % 32) = 32 by omega]
    rw [e4, Nat.mod_mul_right_mod, Nat.mul_mod_left]
  have hlt : 2 ^ (n % 32) < 2 ^ (n % 32 + 1) := Nat.pow_lt_pow_right (by omega) (by omega)
  have ec : (2 : Int) ^ (n % 32) % 4294967296 = ((2 ^ (n % 32) : Nat) : Int) := by
    have e5 : (2 : Int) ^ (n % 32) = ((2 ^ (n % 32) : Nat) : Int) := by simp
    rw [e5]
    omega
  rw [ec, u32_or_nat _ _ (hn_lt _ _) (by omega), nat_join (n % 32 + 1) _ _ e hlt]
set_option maxHeartbeats 4000000 in
/-- divide. -/
theorem ndivide_any (m n c d : Nat) (a b : Option Addr) (hm : nl m ≤ 8) (hn0 : 0 < n) (hn8 : n < 2 ^ 200) (w : World) (h : NatAt w a m (nl m)) (h' : NatAt w b n (nl n)) :
    Calls Tryd.prog 101 #[.slice a (nl m) c, .slice b (nl n) d] w fun e w' => ∃ a' c' b' d', e = .returned (.tuple #[.slice a' (nl (m / n)) c', .slice b' (nl (m % n)) d']) ∧ NatAt w' a' (m / n) (nl (m / n)) ∧ Below w.heap.size w w' := by
  have hml := nl_le.1 (Nat.le_refl (nl m))
  have hq : nl (m / n) ≤ nl m := nl_mono (Nat.div_le_self _ _)
  have D0 := Lib.hid (ndiv_start (b := n) hml)
  have TR := Lib.hid (fun k c a (hk : k ≤ 64) (hkc : k ≤ c) (hcm : c ≤ maxLen) hl w h => ntrim_any (m / n) k c a hk hkc hcm hl w h)
  have HA := Lib.hid h
  have HB := Lib.hid h'
  have HQ := Lib.hid hq
  clear hml hq h h'
  generalize nl m = x at *
  have hmk := run_make_row' (P := Tryd.prog) 113 153 (.int .u32 0) 4 Tryd.underlying113 info_u rfl .i64 .i64 x (by omega) (by omega)
  go_enter Tryd.func101, Tryd.ntmps101
  go_upto_region 2 with (fail)
  refine wp_world (fun v => Hid (Outd v w.heap.size 0 x ∧ Below w.heap.size w v)) (Lib.hid ⟨Outd.made _ _ _, by (repeat' (first | (with_reducible exact Below.refl _ _) | (with_reducible assumption) | (with_reducible refine below_alloc ?_ _) | (with_reducible refine Below.drew ?_) | (with_reducible refine Below.setCell ?_ ?_ _) | (with_reducible refine below_after ?_ (by assumption)) | go_size))⟩) ?_
  intro G HG
  go_wp2
  go_loopg [7, 8] (32 * x) (fun gg rv iv wr => ∃ k : Nat, k ≤ 32 * x ∧ k ≤ gg ∧ iv = .int .i64 ((k : Int) - 1) ∧ ∃ Q R a' c', rv = .slice a' (nl R) c' ∧ Hid (DivInv m n k Q R) ∧ Hid (NatAt wr a' R (nl R)) ∧ Hid (Outd wr w.heap.size Q x ∧ Below w.heap.size w wr))
  case atStart => exact ⟨32 * x, by omega, by omega, by congr 1, 0, 0, none, 0, by rw [nl_zero], D0, Lib.hid (by rw [nl_zero]; exact NatAt.none _ _), HG⟩
  case round =>
    obtain ⟨k, hk, hgk, rfl, Q, R, a1, c1, rfl, HD, HR, HO⟩ := hrel
    clear HG D0
    rcases k with _ | t
    · have hge : ¬ (((0 : Nat) : Int) - 1) ≥ 0 := by omega
      obtain ⟨rfl, rfl⟩ := HD.out.done
      have HN := Lib.hid HO.out.1.nat
      have hb0 := HO.out.2
      clear HD HO
      go_wp2_with fail
      ((with_reducible refine (TR.out x x _ (by omega) (Nat.le_refl _) (by unfold maxLen; omega) HQ.out _ HN.out).mono ?_); rintro e w2 ⟨rfl, hb2⟩)
      have HS := Lib.hid ((HN.out.less HQ.out).later hb2)
      have hbw := below_after hb0 hb2
      go_wp2
      go_returns
      exact ⟨_, _, _, _, rfl, HS.out, by (repeat' (first | (with_reducible exact Below.refl _ _) | (with_reducible assumption) | (with_reducible refine below_alloc ?_ _) | (with_reducible refine Below.drew ?_) | (with_reducible refine Below.setCell ?_ ?_ _) | (with_reducible refine below_after ?_ (by assumption)) | go_size))⟩
    · have ht : ((t + 1 : Nat) : Int) - 1 = (t : Int) := by omega
      rw [ht]
      have hge : (t : Int) ≥ 0 := by omega
      have hrl := HD.out.rest_lt hn0
      have PP := Lib.hid (nplus_any R R c1 c1 a1 a1 (by omega))
      obtain ⟨ba, oa, ea, la, ca⟩ := HA.out (by omega)
      have cai := ca (t / 32) (by omega)
      rw [hw_hn] at cai
      have hb0 := HO.out.2
      go_wp2_with fail
      ((with_reducible refine (PP.out _ HR.out HR.out).mono ?_); rintro e w1 ⟨a2, c2, rfl, hN1, hb1, hf1⟩)
      have hbw := below_after hb0 hb1
      have c3 := (hbw.cell (p := ⟨ba, oa + t / 32, none⟩) la).trans cai
      have l3 := keep_lt hbw la
      subst ea
      have hx : (t : Int) / 32 < (x : Int) := by omega
      have htm : (t : Int) % 32 < 32 := by omega
      have pl := hn_lt m (t / 32)
      have hdiv : t / 32 < x := by omega
      have r1 := nbit_and m t
      have hnl : nl n ≤ 64 := Nat.le_trans (nl_le.2 (Nat.lt_of_lt_of_le hn8 (Nat.pow_le_pow_right (by omega) (show 200 ≤ 32 * 8 by omega)))) (show 8 ≤ 64 by omega)
      have HOT := Lib.hid (HO.out.1.later hb1)
      have HD0 := HD
      have hbl := bitN_le m t
      generalize hn m (t / 32) = p at *
      obtain ⟨bt, hbt⟩ : ∃ z, z = bitN m t := ⟨_, rfl⟩
      rw [← hbt] at r1 hbl
      have HBT := Lib.hid hbt
      clear hbt HO hb0 ca cai
      rcases (by omega : bt = 0 ∨ bt = 1) with rfl | rfl
      · have HE := Lib.hid (show 2 * R + bitN m t = R + R from by have := HBT.out; omega)
        have HT := Lib.hid hN1
        have hTl : nl (R + R) ≤ 64 := Nat.le_trans (nl_le.2 (Nat.lt_of_lt_of_le (show R + R < 2 ^ 201 by omega) (Nat.pow_le_pow_right (by omega) (show 201 ≤ 32 * 8 by omega)))) (show 8 ≤ 64 by omega)
        have hbT := hbw
        clear HR hN1 hb1 PP hbw
        rcases Nat.lt_or_ge ((R+R)) n with hcmp | hcmp
        · have hcv : cmpN ((R+R)) n < 0 := by unfold cmpN; rw [if_pos hcmp]; omega
          have CC := Lib.hid (ncompare_any ((R+R)) n c2 d a2 b hTl hnl w1 HT.out (HB.out.later hbT))
          have ND := Lib.hid (HD.out.next_no hn0 (by rw [HE.out]; exact hcmp))
          rw [HE.out] at ND
          generalize cmpN ((R+R)) n = cc at *
          have hO2 := hbT
          clear HD
          go_wp2_with (first | (go_at_call 111; (with_reducible refine CC.out.mono ?_); rintro e w5 ⟨rfl, hb5⟩))
          have hN5 := Lib.hid (HT.out.later hb5)
          have hO5 := Lib.hid (show Outd w5 w.heap.size Q x ∧ Below w.heap.size w w5 from ⟨(HOT.out).later hb5, below_after hbT hb5⟩)
          clear HT HOT hb5 hbT CC
          go_roundg t
          case rel => exact ⟨t, by omega, by omega, rfl, Q, (R+R), a2, c2, rfl, ND, hN5, hO5⟩
          case measure => omega
        · have hcv : 0 ≤ cmpN ((R+R)) n := by unfold cmpN; rw [if_neg (by omega)]; split <;> omega
          have CC := Lib.hid (ncompare_any ((R+R)) n c2 d a2 b hTl hnl w1 HT.out (HB.out.later hbT))
          have MM := Lib.hid (fun v h1 h2 => nminus_any ((R+R)) n c2 d a2 b hcmp (by omega) v h1 h2)
          have ND := Lib.hid (HD.out.next_yes hn0 (by rw [HE.out]; exact hcmp))
          rw [HE.out] at ND
          generalize cmpN ((R+R)) n = cc at *
          clear HD
          go_wp2_with (first
            | (go_at_call 111; (with_reducible refine CC.out.mono ?_); rintro e w5 ⟨rfl, hb5⟩)
            | (go_at_call 112; (with_reducible refine (MM.out _ (HT.out.later hb5) (HB.out.later (below_after hbT hb5))).mono ?_); rintro e w6 ⟨a6, c6, rfl, hN6, hb6, hf6⟩; have hb56 := below_after (below_after hbT hb5) hb6; have hO6 := (HOT.out.later hb5).later hb6; have ct := hO6.cell (t / 32) hdiv; have fz := hO6.froz; have lz := hO6.lt; rw [hw_hn] at ct; have ol := hn_lt Q (t / 32); have hor := nbit_or HD0.out; have SB := HD0.out.hbit; obtain ⟨ov, hov⟩ : ∃ z, z = hn Q (t / 32) + 2 ^ (t % 32) := ⟨_, rfl⟩; rw [← hov] at hor SB; clear hov)
            | fail)
          have hsz := hO6.lt
          have hN7 := Lib.hid (show NatAt (w6.setCell ⟨w.heap.size, t / 32, none⟩ (.int .u32 (ov : Int))) a6 ((R+R) - n) (nl ((R+R) - n)) from fun h0 => by
            obtain ⟨b6, o6, e6, l6, q6⟩ := hN6 h0
            have hne := hf6 _ e6
            have hgt := (below_after hbT hb5).size
            have hOl := HOT.out.lt
            have hbs := hbT.size
            have hb5s := hb5.size
            refine ⟨b6, o6, e6, by simpa using l6, fun j hj => ?_⟩
            rw [World.cell?_setCell_other _ _ _ _ (fun e => by have := congrArg Addr.block e; simp only [] at this hne; omega)]
            exact q6 j hj)
          have hO7 := Lib.hid (show Outd (w6.setCell ⟨w.heap.size, t / 32, none⟩ (.int .u32 (ov : Int))) w.heap.size (Q + 2 ^ t) x from by
            rw [← SB.1]
            exact hO6.set hdiv SB.2)
          clear hO6 ct fz lz hor HT HOT
          go_roundg t
          case rel => exact ⟨t, by omega, by omega, rfl, Q + 2 ^ t, (R+R) - n, a6, c6, rfl, ND, hN7, Lib.hid ⟨hO7.out, by (repeat' (first | (with_reducible exact Below.refl _ _) | (with_reducible assumption) | (with_reducible refine below_alloc ?_ _) | (with_reducible refine Below.drew ?_) | (with_reducible refine Below.setCell ?_ ?_ _) | (with_reducible refine below_after ?_ (by assumption)) | go_size))⟩⟩
          case measure => omega
      · have HE := Lib.hid (show 2 * R + bitN m t = R + R + 1 from by have := HBT.out; omega)
        have P1 := Lib.hid (show ∀ v, Calls Tryd.prog 103 #[.int .u64 1] v fun e w' => ∃ a c, e = .returned (.slice a (nl 1) c) ∧ NatAt w' a 1 (nl 1) ∧ Below v.heap.size v w' ∧ (∀ p, a = some p → v.heap.size ≤ p.block) from fun v => nsmall_any 1 (by omega) v)
        have P2 := Lib.hid (fun cA cB aA aB => nplus_any (R + R) 1 cA cB aA aB (by omega))
        have hTl : nl (R + R + 1) ≤ 64 := Nat.le_trans (nl_le.2 (Nat.lt_of_lt_of_le (show R + R + 1 < 2 ^ 201 by omega) (Nat.pow_le_pow_right (by omega) (show 201 ≤ 32 * 8 by omega)))) (show 8 ≤ 64 by omega)
        clear HR hb1 PP
        go_wp2_with fail
        ((with_reducible refine (P1.out _).mono ?_); rintro e w2 ⟨a8, c8, rfl, hN8, hb8, -⟩)
        go_wp2_with fail
        ((with_reducible refine (P2.out _ _ _ _ _ (hN1.later hb8) hN8).mono ?_); rintro e w3 ⟨a9, c9, rfl, hN9, hb9, -⟩)
        have HT := Lib.hid hN9
        have hbT := below_after (below_after hbw hb8) hb9
        have HOT' := HOT
        have HOT := Lib.hid ((HOT'.out.later hb8).later hb9)
        clear HOT' hN1 hN8 hN9 hb8 hb9 hbw P1 P2 c3 l3
        rcases Nat.lt_or_ge ((R+R+1)) n with hcmp | hcmp
        · have hcv : cmpN ((R+R+1)) n < 0 := by unfold cmpN; rw [if_pos hcmp]; omega
          have CC := Lib.hid (ncompare_any ((R+R+1)) n c9 d a9 b hTl hnl w3 HT.out (HB.out.later hbT))
          have ND := Lib.hid (HD.out.next_no hn0 (by rw [HE.out]; exact hcmp))
          rw [HE.out] at ND
          generalize cmpN ((R+R+1)) n = cc at *
          have hO2 := hbT
          clear HD
          go_wp2_with (first | (go_at_call 111; (with_reducible refine CC.out.mono ?_); rintro e w5 ⟨rfl, hb5⟩))
          have hN5 := Lib.hid (HT.out.later hb5)
          have hO5 := Lib.hid (show Outd w5 w.heap.size Q x ∧ Below w.heap.size w w5 from ⟨(HOT.out).later hb5, below_after hbT hb5⟩)
          clear HT HOT hb5 hbT CC
          go_roundg t
          case rel => exact ⟨t, by omega, by omega, rfl, Q, (R+R+1), a9, c9, rfl, ND, hN5, hO5⟩
          case measure => omega
        · have hcv : 0 ≤ cmpN ((R+R+1)) n := by unfold cmpN; rw [if_neg (by omega)]; split <;> omega
          have CC := Lib.hid (ncompare_any ((R+R+1)) n c9 d a9 b hTl hnl w3 HT.out (HB.out.later hbT))
          have MM := Lib.hid (fun v h1 h2 => nminus_any ((R+R+1)) n c9 d a9 b hcmp (by omega) v h1 h2)
          have ND := Lib.hid (HD.out.next_yes hn0 (by rw [HE.out]; exact hcmp))
          rw [HE.out] at ND
          generalize cmpN ((R+R+1)) n = cc at *
          clear HD
          go_wp2_with (first
            | (go_at_call 111; (with_reducible refine CC.out.mono ?_); rintro e w5 ⟨rfl, hb5⟩)
            | (go_at_call 112; (with_reducible refine (MM.out _ (HT.out.later hb5) (HB.out.later (below_after hbT hb5))).mono ?_); rintro e w6 ⟨a6, c6, rfl, hN6, hb6, hf6⟩; have hb56 := below_after (below_after hbT hb5) hb6; have hO6 := (HOT.out.later hb5).later hb6; have ct := hO6.cell (t / 32) hdiv; have fz := hO6.froz; have lz := hO6.lt; rw [hw_hn] at ct; have ol := hn_lt Q (t / 32); have hor := nbit_or HD0.out; have SB := HD0.out.hbit; obtain ⟨ov, hov⟩ : ∃ z, z = hn Q (t / 32) + 2 ^ (t % 32) := ⟨_, rfl⟩; rw [← hov] at hor SB; clear hov)
            | fail)
          have hsz := hO6.lt
          have hN7 := Lib.hid (show NatAt (w6.setCell ⟨w.heap.size, t / 32, none⟩ (.int .u32 (ov : Int))) a6 ((R+R+1) - n) (nl ((R+R+1) - n)) from fun h0 => by
            obtain ⟨b6, o6, e6, l6, q6⟩ := hN6 h0
            have hne := hf6 _ e6
            have hgt := (below_after hbT hb5).size
            have hOl := HOT.out.lt
            have hbs := hbT.size
            have hb5s := hb5.size
            refine ⟨b6, o6, e6, by simpa using l6, fun j hj => ?_⟩
            rw [World.cell?_setCell_other _ _ _ _ (fun e => by have := congrArg Addr.block e; simp only [] at this hne; omega)]
            exact q6 j hj)
          have hO7 := Lib.hid (show Outd (w6.setCell ⟨w.heap.size, t / 32, none⟩ (.int .u32 (ov : Int))) w.heap.size (Q + 2 ^ t) x from by
            rw [← SB.1]
            exact hO6.set hdiv SB.2)
          clear hO6 ct fz lz hor HT HOT
          go_roundg t
          case rel => exact ⟨t, by omega, by omega, rfl, Q + 2 ^ t, (R+R+1) - n, a6, c6, rfl, ND, hN7, Lib.hid ⟨hO7.out, by (repeat' (first | (with_reducible exact Below.refl _ _) | (with_reducible assumption) | (with_reducible refine below_alloc ?_ _) | (with_reducible refine Below.drew ?_) | (with_reducible refine Below.setCell ?_ ?_ _) | (with_reducible refine below_after ?_ (by assumption)) | go_size))⟩⟩
          case measure => omega
end Go.Proofs.YtfmmnnodihpgmaaDoor
