/-
  Plain arithmetic of 32-bit halves of words, no program in sight.
-/
import Derived.Test.YtnbdccobfmlhbaaDoorMath
namespace Go.Proofs.YtnbdccobfmlhbaaDoor.Wd
set_option linter.all false
/-- half-word i of a natural number -/
@[irreducible] def hw (a i : Nat) : Int := ((a / 2 ^ (32 * i) % 4294967296 : Nat) : Int)
/-- the carry into half-word i of a sum, the borrow into half-word i of a difference -/
@[irreducible] def hc (a b i : Nat) : Int := ((a % 2 ^ (32 * i) + b % 2 ^ (32 * i)) / 2 ^ (32 * i) : Nat)
@[irreducible] def hb (a b i : Nat) : Int := if a % 2 ^ (32 * i) < b % 2 ^ (32 * i) then 1 else 0
theorem pow32_next (i : Nat) : 2 ^ (32 * (i + 1)) = 2 ^ (32 * i) * 4294967296 := by
  rw [show 32 * (i + 1) = 32 * i + 32 from by omega, Nat.pow_add]
theorem hw_lo (a i : Nat) : 0 ≤ hw a i := by unfold hw; exact Int.natCast_nonneg _
theorem hw_hi (a i : Nat) : hw a i ≤ 4294967295 := by
  unfold hw; generalize a / 2 ^ (32 * i) = x; omega
theorem hc_bit (a b i : Nat) : 0 ≤ hc a b i ∧ hc a b i ≤ 1 := by
  unfold hc
  have hp : 0 < 2 ^ (32 * i) := Nat.pow_pos (by omega)
  generalize 2 ^ (32 * i) = p at *
  have h1 := Nat.mod_lt a hp
  have h2 := Nat.mod_lt b hp
  rw [carry_two _ _ _ h1 h2]
  split <;> simp
theorem hc_zero (a b : Nat) : hc a b 0 = 0 := by unfold hc; simp [Nat.mod_one]
theorem hb_zero (a b : Nat) : hb a b 0 = 0 := by unfold hb; simp [Nat.mod_one]
theorem hb_bit (a b i : Nat) : 0 ≤ hb a b i ∧ hb a b i ≤ 1 := by unfold hb; split <;> simp
theorem hw_mod (x i : Nat) (hi : i < 8) : hw (x % 2 ^ 256) i = hw x i := by
  unfold hw
  have e : 2 ^ 256 = 2 ^ (32 * i) * (4294967296 * 2 ^ (32 * (7 - i))) := by
    rw [← Nat.mul_assoc, ← pow32_next, ← Nat.pow_add]; congr 1; omega
  rw [e, Nat.mod_mul_right_div_self, Nat.mod_mul_right_mod]
theorem add_hw (a b i : Nat) (hi : i < 8) : (hc a b i + hw a i + hw b i) % 4294967296 = hw (sm a b) i ∧ (hc a b i + hw a i + hw b i) / 4294967296 = hc a b (i + 1) := by
  have h := add_step_gen a b (2 ^ (32 * i)) 4294967296 (Nat.pow_pos (by omega))
  unfold sm
  rw [hw_mod _ _ hi]
  unfold hw hc
  rw [pow32_next]
  refine ⟨?_, ?_⟩
  · rw [← h.1]
    generalize (a % 2 ^ (32 * i) + b % 2 ^ (32 * i)) / 2 ^ (32 * i) = z
    generalize a / 2 ^ (32 * i) = x
    generalize b / 2 ^ (32 * i) = y
    omega
  · rw [← h.2]
    generalize (a % 2 ^ (32 * i) + b % 2 ^ (32 * i)) / 2 ^ (32 * i) = z
    generalize a / 2 ^ (32 * i) = x
    generalize b / 2 ^ (32 * i) = y
    omega
theorem sub_hw (a b i : Nat) (hle : b ≤ a + 2 ^ 256) (hi : i < 8) : (4294967296 + hw a i - hw b i - hb a b i) % 4294967296 = hw (df a b) i ∧ 1 - (4294967296 + hw a i - hw b i - hb a b i) / 4294967296 = hb a b (i + 1) := by
  unfold df
  rw [hw_mod _ _ hi]
  have hK : b + (a + 2 ^ 256 - b) = a + 2 ^ (32 * i) * 4294967296 * 2 ^ (32 * (7 - i)) := by
    have : 2 ^ (32 * i) * 4294967296 * 2 ^ (32 * (7 - i)) = 2 ^ 256 := by
      rw [← pow32_next, ← Nat.pow_add]; congr 1; omega
    rw [this]
    generalize 2 ^ 256 = M at *; omega
  have h := sub_step_gen a b (a + 2 ^ 256 - b) _ (2 ^ (32 * i)) 4294967296 (Nat.pow_pos (by omega)) (by omega) hK
  unfold hw hb
  rw [pow32_next]
  generalize (a + 2 ^ 256 - b) / 2 ^ (32 * i) % 4294967296 = z at *
  have h1 := h.1
  have h2 := h.2
  generalize a % (2 ^ (32 * i) * 4294967296) = u at *
  generalize b % (2 ^ (32 * i) * 4294967296) = v at *
  have hx := Nat.mod_lt (a / 2 ^ (32 * i)) (show 0 < 4294967296 by omega)
  have hy := Nat.mod_lt (b / 2 ^ (32 * i)) (show 0 < 4294967296 by omega)
  generalize a / 2 ^ (32 * i) % 4294967296 = x at *
  generalize b / 2 ^ (32 * i) % 4294967296 = y at *
  generalize a % 2 ^ (32 * i) = m at *
  generalize b % 2 ^ (32 * i) = n at *
  clear h hK hle
  by_cases hq : m < n <;> by_cases hP : u < v <;> simp only [hq, hP, if_true, if_false, iff_true, iff_false] at * <;> omega
theorem hc_eight {a b : Nat} (ha : a < 2 ^ 256) (hb : b < 2 ^ 256) : hc a b 8 = if a + b < 2 ^ 256 then 0 else 1 := by
  unfold hc
  rw [show 32 * 8 = 256 from rfl, Nat.mod_eq_of_lt ha, Nat.mod_eq_of_lt hb]
  split
  · rename_i h; rw [Nat.div_eq_of_lt h]; rfl
  · rename_i h
    rw [show (a + b) / 2 ^ 256 = 1 from Nat.div_eq_of_lt_le (by omega) (by omega)]; rfl
theorem hw_even (a i : Nat) : hw a (2 * i) = wd a i % 4294967296 := by
  unfold hw wd
  rw [show 32 * (2 * i) = 64 * i by omega]
  generalize a / 2 ^ (64 * i) = x
  omega
theorem hw_odd (a i : Nat) : hw a (2 * i + 1) = wd a i / 4294967296 := by
  unfold hw wd
  rw [show 32 * (2 * i + 1) = 64 * i + 32 by omega, Nat.pow_add, ← Nat.div_div_eq_div_mul]
  generalize a / 2 ^ (64 * i) = x
  omega
theorem wd_halves (a i : Nat) : hw a (2 * i) + 4294967296 * hw a (2 * i + 1) = wd a i := by
  rw [hw_even, hw_odd]
  have := wd_lo a i
  omega
theorem hw0 (a : Nat) : hw a 0 = ((a % 4294967296 : Nat) : Int) := by unfold hw; simp
theorem hw1 (a : Nat) : hw a 1 = ((a / 4294967296 % 4294967296 : Nat) : Int) := by unfold hw; rfl
theorem hw2 (a : Nat) : hw a 2 = ((a / 18446744073709551616 % 4294967296 : Nat) : Int) := by unfold hw; rfl
theorem hw3 (a : Nat) : hw a 3 = ((a / 79228162514264337593543950336 % 4294967296 : Nat) : Int) := by unfold hw; rfl
theorem hw4 (a : Nat) : hw a 4 = ((a / 340282366920938463463374607431768211456 % 4294967296 : Nat) : Int) := by unfold hw; rfl
theorem hw5 (a : Nat) : hw a 5 = ((a / 1461501637330902918203684832716283019655932542976 % 4294967296 : Nat) : Int) := by unfold hw; rfl
theorem hw6 (a : Nat) : hw a 6 = ((a / 6277101735386680763835789423207666416102355444464034512896 % 4294967296 : Nat) : Int) := by unfold hw; rfl
theorem hw7 (a : Nat) : hw a 7 = ((a / 26959946667150639794667015087019630673637144422540572481103610249216 % 4294967296 : Nat) : Int) := by unfold hw; rfl
/-- a number below 2^256 is the sum of its half-words -/
theorem hw_sum (a : Nat) (ha : a < 2 ^ 256) : (a : Int) = hw a 0 + 4294967296 * hw a 1 + 18446744073709551616 * hw a 2 + 79228162514264337593543950336 * hw a 3 + 340282366920938463463374607431768211456 * hw a 4
    + 1461501637330902918203684832716283019655932542976 * hw a 5 + 6277101735386680763835789423207666416102355444464034512896 * hw a 6 + 26959946667150639794667015087019630673637144422540572481103610249216 * hw a 7 := by
  rw [hw0, hw1, hw2, hw3, hw4, hw5, hw6, hw7]
  have := lt256 a ha
  omega
theorem hw_zero (i : Nat) : hw 0 i = 0 := by unfold hw; simp
/-- a number below 2^256 whose half-words are 0 -/
theorem hw_none (a : Nat) (ha : a < 2 ^ 256) (h0 : hw a 0 = 0) (h1 : hw a 1 = 0) (h2 : hw a 2 = 0) (h3 : hw a 3 = 0) (h4 : hw a 4 = 0) (h5 : hw a 5 = 0) (h6 : hw a 6 = 0) (h7 : hw a 7 = 0) : a = 0 := by
  have := hw_sum a ha
  rw [h0, h1, h2, h3, h4, h5, h6, h7] at this
  omega
/-- a number below 2^32: one half-word -/
theorem hw_small {n : Nat} (h : n < 4294967296) : hw n 0 = n ∧ ∀ i, 0 < i → hw n i = 0 := by
  refine ⟨by rw [hw0]; omega, fun i hi => ?_⟩
  unfold hw
  have : n < 2 ^ (32 * i) := Nat.lt_of_lt_of_le h (by
    rw [show (4294967296 : Nat) = 2 ^ 32 from rfl]
    exact Nat.pow_le_pow_right (by omega) (by omega))
  rw [Nat.div_eq_of_lt this]; rfl
/-- how two numbers compare: by their highest half-words that differ -/
theorem high_split (a i : Nat) : ((a / 2 ^ (32 * i) : Nat) : Int) = hw a i + 4294967296 * ((a / 2 ^ (32 * (i + 1)) : Nat) : Int) := by
  unfold hw
  rw [pow32_next, ← Nat.div_div_eq_div_mul]
  generalize a / 2 ^ (32 * i) = x
  omega
theorem same_top {a b : Nat} (ha : a < 2 ^ 256) (hb : b < 2 ^ 256) : a / 2 ^ (32 * (7 + 1)) = b / 2 ^ (32 * (7 + 1)) := by
  rw [show 32 * (7 + 1) = 256 from rfl, Nat.div_eq_of_lt ha, Nat.div_eq_of_lt hb]
theorem same_step {a b i : Nat} (h : a / 2 ^ (32 * (i + 1)) = b / 2 ^ (32 * (i + 1))) (h1 : hw a i ≤ hw b i) (h2 : hw b i ≤ hw a i) : a / 2 ^ (32 * i) = b / 2 ^ (32 * i) := by
  have e1 := high_split a i
  have e2 := high_split b i
  rw [h] at e1
  omega
theorem less_at {a b i : Nat} (h : a / 2 ^ (32 * (i + 1)) = b / 2 ^ (32 * (i + 1))) (h1 : hw a i < hw b i) : cmpN a b = -1 := by
  have e1 := high_split a i
  have e2 := high_split b i
  rw [h] at e1
  have h3 : a / 2 ^ (32 * i) < b / 2 ^ (32 * i) := by omega
  unfold cmpN
  rw [if_pos]
  rcases Nat.lt_or_ge a b with h4 | h4
  · exact h4
  · exact absurd (Nat.div_le_div_right (c := 2 ^ (32 * i)) h4) (by omega)
theorem more_at {a b i : Nat} (h : a / 2 ^ (32 * (i + 1)) = b / 2 ^ (32 * (i + 1))) (h1 : hw b i < hw a i) : cmpN a b = 1 := by
  have e1 := high_split a i
  have e2 := high_split b i
  rw [h] at e1
  have h3 : b / 2 ^ (32 * i) < a / 2 ^ (32 * i) := by omega
  unfold cmpN
  have : b < a := by
    rcases Nat.lt_or_ge b a with h4 | h4
    · exact h4
    · exact absurd (Nat.div_le_div_right (c := 2 ^ (32 * i)) h4) (by omega)
  rw [if_neg (by omega), if_pos this]
theorem same_all {a b : Nat} (h : a / 2 ^ (32 * 0) = b / 2 ^ (32 * 0)) : cmpN a b = 0 := by
  have : a = b := by simpa using h
  unfold cmpN
  rw [if_neg (by omega), if_neg (by omega)]
theorem hcmp_L7 {a b : Nat} (ha : a < 2 ^ 256) (hb : b < 2 ^ 256) (h : hw a 7 < hw b 7) : cmpN a b = -1 := less_at (same_top ha hb) h
theorem hcmp_G7 {a b : Nat} (ha : a < 2 ^ 256) (hb : b < 2 ^ 256) (h : hw b 7 < hw a 7) : cmpN a b = 1 := more_at (same_top ha hb) h
theorem hcmp_L6 {a b : Nat} (ha : a < 2 ^ 256) (hb : b < 2 ^ 256) (e7 : hw b 7 ≤ hw a 7) (f7 : hw a 7 ≤ hw b 7) (h : hw a 6 < hw b 6) : cmpN a b = -1 := less_at (same_step (same_top ha hb) f7 e7) h
theorem hcmp_G6 {a b : Nat} (ha : a < 2 ^ 256) (hb : b < 2 ^ 256) (e7 : hw b 7 ≤ hw a 7) (f7 : hw a 7 ≤ hw b 7) (h : hw b 6 < hw a 6) : cmpN a b = 1 := more_at (same_step (same_top ha hb) f7 e7) h
theorem hcmp_L5 {a b : Nat} (ha : a < 2 ^ 256) (hb : b < 2 ^ 256) (e7 : hw b 7 ≤ hw a 7) (f7 : hw a 7 ≤ hw b 7) (e6 : hw b 6 ≤ hw a 6) (f6 : hw a 6 ≤ hw b 6) (h : hw a 5 < hw b 5) : cmpN a b = -1 := less_at (same_step (same_step (same_top ha hb) f7 e7) f6 e6) h
theorem hcmp_G5 {a b : Nat} (ha : a < 2 ^ 256) (hb : b < 2 ^ 256) (e7 : hw b 7 ≤ hw a 7) (f7 : hw a 7 ≤ hw b 7) (e6 : hw b 6 ≤ hw a 6) (f6 : hw a 6 ≤ hw b 6) (h : hw b 5 < hw a 5) : cmpN a b = 1 := more_at (same_step (same_step (same_top ha hb) f7 e7) f6 e6) h
theorem hcmp_L4 {a b : Nat} (ha : a < 2 ^ 256) (hb : b < 2 ^ 256) (e7 : hw b 7 ≤ hw a 7) (f7 : hw a 7 ≤ hw b 7) (e6 : hw b 6 ≤ hw a 6) (f6 : hw a 6 ≤ hw b 6) (e5 : hw b 5 ≤ hw a 5) (f5 : hw a 5 ≤ hw b 5) (h : hw a 4 < hw b 4) : cmpN a b = -1 := less_at (same_step (same_step (same_step (same_top ha hb) f7 e7) f6 e6) f5 e5) h
theorem hcmp_G4 {a b : Nat} (ha : a < 2 ^ 256) (hb : b < 2 ^ 256) (e7 : hw b 7 ≤ hw a 7) (f7 : hw a 7 ≤ hw b 7) (e6 : hw b 6 ≤ hw a 6) (f6 : hw a 6 ≤ hw b 6) (e5 : hw b 5 ≤ hw a 5) (f5 : hw a 5 ≤ hw b 5) (h : hw b 4 < hw a 4) : cmpN a b = 1 := more_at (same_step (same_step (same_step (same_top ha hb) f7 e7) f6 e6) f5 e5) h
theorem hcmp_L3 {a b : Nat} (ha : a < 2 ^ 256) (hb : b < 2 ^ 256) (e7 : hw b 7 ≤ hw a 7) (f7 : hw a 7 ≤ hw b 7) (e6 : hw b 6 ≤ hw a 6) (f6 : hw a 6 ≤ hw b 6) (e5 : hw b 5 ≤ hw a 5) (f5 : hw a 5 ≤ hw b 5) (e4 : hw b 4 ≤ hw a 4) (f4 : hw a 4 ≤ hw b 4) (h : hw a 3 < hw b 3) : cmpN a b = -1 := less_at (same_step (same_step (same_step (same_step (same_top ha hb) f7 e7) f6 e6) f5 e5) f4 e4) h
theorem hcmp_G3 {a b : Nat} (ha : a < 2 ^ 256) (hb : b < 2 ^ 256) (e7 : hw b 7 ≤ hw a 7) (f7 : hw a 7 ≤ hw b 7) (e6 : hw b 6 ≤ hw a 6) (f6 : hw a 6 ≤ hw b 6) (e5 : hw b 5 ≤ hw a 5) (f5 : hw a 5 ≤ hw b 5) (e4 : hw b 4 ≤ hw a 4) (f4 : hw a 4 ≤ hw b 4) (h : hw b 3 < hw a 3) : cmpN a b = 1 := more_at (same_step (same_step (same_step (same_step (same_top ha hb) f7 e7) f6 e6) f5 e5) f4 e4) h
theorem hcmp_L2 {a b : Nat} (ha : a < 2 ^ 256) (hb : b < 2 ^ 256) (e7 : hw b 7 ≤ hw a 7) (f7 : hw a 7 ≤ hw b 7) (e6 : hw b 6 ≤ hw a 6) (f6 : hw a 6 ≤ hw b 6) (e5 : hw b 5 ≤ hw a 5) (f5 : hw a 5 ≤ hw b 5) (e4 : hw b 4 ≤ hw a 4) (f4 : hw a 4 ≤ hw b 4) (e3 : hw b 3 ≤ hw a 3) (f3 : hw a 3 ≤ hw b 3) (h : hw a 2 < hw b 2) : cmpN a b = -1 := less_at (same_step (same_step (same_step (same_step (same_step (same_top ha hb) f7 e7) f6 e6) f5 e5) f4 e4) f3 e3) h
theorem hcmp_G2 {a b : Nat} (ha : a < 2 ^ 256) (hb : b < 2 ^ 256) (e7 : hw b 7 ≤ hw a 7) (f7 : hw a 7 ≤ hw b 7) (e6 : hw b 6 ≤ hw a 6) (f6 : hw a 6 ≤ hw b 6) (e5 : hw b 5 ≤ hw a 5) (f5 : hw a 5 ≤ hw b 5) (e4 : hw b 4 ≤ hw a 4) (f4 : hw a 4 ≤ hw b 4) (e3 : hw b 3 ≤ hw a 3) (f3 : hw a 3 ≤ hw b 3) (h : hw b 2 < hw a 2) : cmpN a b = 1 := more_at (same_step (same_step (same_step (same_step (same_step (same_top ha hb) f7 e7) f6 e6) f5 e5) f4 e4) f3 e3) h
theorem hcmp_L1 {a b : Nat} (ha : a < 2 ^ 256) (hb : b < 2 ^ 256) (e7 : hw b 7 ≤ hw a 7) (f7 : hw a 7 ≤ hw b 7) (e6 : hw b 6 ≤ hw a 6) (f6 : hw a 6 ≤ hw b 6) (e5 : hw b 5 ≤ hw a 5) (f5 : hw a 5 ≤ hw b 5) (e4 : hw b 4 ≤ hw a 4) (f4 : hw a 4 ≤ hw b 4) (e3 : hw b 3 ≤ hw a 3) (f3 : hw a 3 ≤ hw b 3) (e2 : hw b 2 ≤ hw a 2) (f2 : hw a 2 ≤ hw b 2) (h : hw a 1 < hw b 1) : cmpN a b = -1 := less_at (same_step (same_step (same_step (same_step (same_step (same_step (same_top ha hb) f7 e7) f6 e6) f5 e5) f4 e4) f3 e3) f2 e2) h
theorem hcmp_G1 {a b : Nat} (ha : a < 2 ^ 256) (hb : b < 2 ^ 256) (e7 : hw b 7 ≤ hw a 7) (f7 : hw a 7 ≤ hw b 7) (e6 : hw b 6 ≤ hw a 6) (f6 : hw a 6 ≤ hw b 6) (e5 : hw b 5 ≤ hw a 5) (f5 : hw a 5 ≤ hw b 5) (e4 : hw b 4 ≤ hw a 4) (f4 : hw a 4 ≤ hw b 4) (e3 : hw b 3 ≤ hw a 3) (f3 : hw a 3 ≤ hw b 3) (e2 : hw b 2 ≤ hw a 2) (f2 : hw a 2 ≤ hw b 2) (h : hw b 1 < hw a 1) : cmpN a b = 1 := more_at (same_step (same_step (same_step (same_step (same_step (same_step (same_top ha hb) f7 e7) f6 e6) f5 e5) f4 e4) f3 e3) f2 e2) h
theorem hcmp_L0 {a b : Nat} (ha : a < 2 ^ 256) (hb : b < 2 ^ 256) (e7 : hw b 7 ≤ hw a 7) (f7 : hw a 7 ≤ hw b 7) (e6 : hw b 6 ≤ hw a 6) (f6 : hw a 6 ≤ hw b 6) (e5 : hw b 5 ≤ hw a 5) (f5 : hw a 5 ≤ hw b 5) (e4 : hw b 4 ≤ hw a 4) (f4 : hw a 4 ≤ hw b 4) (e3 : hw b 3 ≤ hw a 3) (f3 : hw a 3 ≤ hw b 3) (e2 : hw b 2 ≤ hw a 2) (f2 : hw a 2 ≤ hw b 2) (e1 : hw b 1 ≤ hw a 1) (f1 : hw a 1 ≤ hw b 1) (h : hw a 0 < hw b 0) : cmpN a b = -1 := less_at (same_step (same_step (same_step (same_step (same_step (same_step (same_step (same_top ha hb) f7 e7) f6 e6) f5 e5) f4 e4) f3 e3) f2 e2) f1 e1) h
theorem hcmp_G0 {a b : Nat} (ha : a < 2 ^ 256) (hb : b < 2 ^ 256) (e7 : hw b 7 ≤ hw a 7) (f7 : hw a 7 ≤ hw b 7) (e6 : hw b 6 ≤ hw a 6) (f6 : hw a 6 ≤ hw b 6) (e5 : hw b 5 ≤ hw a 5) (f5 : hw a 5 ≤ hw b 5) (e4 : hw b 4 ≤ hw a 4) (f4 : hw a 4 ≤ hw b 4) (e3 : hw b 3 ≤ hw a 3) (f3 : hw a 3 ≤ hw b 3) (e2 : hw b 2 ≤ hw a 2) (f2 : hw a 2 ≤ hw b 2) (e1 : hw b 1 ≤ hw a 1) (f1 : hw a 1 ≤ hw b 1) (h : hw b 0 < hw a 0) : cmpN a b = 1 := more_at (same_step (same_step (same_step (same_step (same_step (same_step (same_step (same_top ha hb) f7 e7) f6 e6) f5 e5) f4 e4) f3 e3) f2 e2) f1 e1) h
theorem hcmp_E {a b : Nat} (ha : a < 2 ^ 256) (hb : b < 2 ^ 256) (e7 : hw b 7 ≤ hw a 7) (f7 : hw a 7 ≤ hw b 7) (e6 : hw b 6 ≤ hw a 6) (f6 : hw a 6 ≤ hw b 6) (e5 : hw b 5 ≤ hw a 5) (f5 : hw a 5 ≤ hw b 5) (e4 : hw b 4 ≤ hw a 4) (f4 : hw a 4 ≤ hw b 4) (e3 : hw b 3 ≤ hw a 3) (f3 : hw a 3 ≤ hw b 3) (e2 : hw b 2 ≤ hw a 2) (f2 : hw a 2 ≤ hw b 2) (e1 : hw b 1 ≤ hw a 1) (f1 : hw a 1 ≤ hw b 1) (e0 : hw b 0 ≤ hw a 0) (f0 : hw a 0 ≤ hw b 0) : cmpN a b = 0 := same_all (same_step (same_step (same_step (same_step (same_step (same_step (same_step (same_step (same_top ha hb) f7 e7) f6 e6) f5 e5) f4 e4) f3 e3) f2 e2) f1 e1) f0 e0)
end Go.Proofs.YtnbdccobfmlhbaaDoor.Wd
