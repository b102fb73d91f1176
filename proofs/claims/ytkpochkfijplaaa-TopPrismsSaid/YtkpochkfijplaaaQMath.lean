/-
  Plain arithmetic of 64-bit words, no program in sight.
-/
import Derived.WalkKit

namespace Go.Proofs.Ytkpochkfijplaaa.Wd
set_option linter.all false
/-- one step of a sum, at any base -/
theorem add_step_gen (a b p B : Nat) (hp : 0 < p) :
    ((a / p % B + b / p % B + (a % p + b % p) / p) % B = (a + b) / p % B)
    ∧ (a / p % B + b / p % B + (a % p + b % p) / p) / B = (a % (p * B) + b % (p * B)) / (p * B) := by
  have hs : (a + b) / p = a / p + b / p + (a % p + b % p) / p := by
    have ea := Nat.div_add_mod a p
    have eb := Nat.div_add_mod b p
    have : a + b = (a % p + b % p) + p * (a / p + b / p) := by rw [Nat.mul_add]; omega
    conv => lhs; rw [this]
    rw [Nat.add_mul_div_left _ _ hp]; omega
  constructor
  · rw [hs]
    simp [Nat.add_mod]
  · rw [Nat.mod_mul, Nat.mod_mul, ← Nat.div_div_eq_div_mul]
    have : a % p + p * (a / p % B) + (b % p + p * (b / p % B)) = (a % p + b % p) + p * (a / p % B + b / p % B) := by
      rw [Nat.mul_add]; omega
    rw [this, Nat.add_mul_div_left _ _ hp]
    congr 1; omega
theorem carry_two (c d p : Nat) (hc : c < p) (hd : d < p) : (c + d) / p = if (c + d) % p < c then 1 else 0 := by
  have hp : 0 < p := by omega
  by_cases h : c + d < p
  · rw [Nat.div_eq_of_lt h, Nat.mod_eq_of_lt h, if_neg (by omega)]
  · have h1 : (c + d) % p = c + d - p := by rw [Nat.mod_eq_sub_mod (by omega), Nat.mod_eq_of_lt (by omega)]
    rw [h1, if_pos (by omega)]
    exact Nat.div_eq_of_lt_le (by omega) (by omega)
theorem lex_lt (x y c d p : Nat) (hc : c < p) (hd : d < p) : (c + p * x < d + p * y ↔ x < y + (if c < d then 1 else 0)) := by
  constructor
  · intro h
    split
    · rcases Nat.lt_or_ge x (y + 1) with h1 | h1
      · exact h1
      · have := Nat.mul_le_mul_left p h1; rw [Nat.mul_add] at this; omega
    · rcases Nat.lt_or_ge x (y + 0) with h1 | h1
      · exact h1
      · have := Nat.mul_le_mul_left p (by omega : y ≤ x); omega
  · intro h
    split at h
    · rcases Nat.lt_or_ge x y with h1 | h1
      · have := Nat.mul_le_mul_left p (by omega : x + 1 ≤ y); rw [Nat.mul_add] at this; omega
      · have : x = y := by omega
        subst this; omega
    · have := Nat.mul_le_mul_left p (by omega : x + 1 ≤ y); rw [Nat.mul_add] at this; omega
theorem sub_word (x y z c B : Nat) (hy : y < B) (hz : z < B) (hc : c ≤ 1) (h : (y + z + c) % B = x) : (x + B - y - c) % B = z := by
  by_cases h1 : y + z + c < B
  · rw [Nat.mod_eq_of_lt h1] at h
    have : x + B - y - c = z + B := by omega
    rw [this, Nat.add_mod_right, Nat.mod_eq_of_lt hz]
  · have h2 : (y + z + c) % B = y + z + c - B := by rw [Nat.mod_eq_sub_mod (by omega), Nat.mod_eq_of_lt (by omega)]
    have : x + B - y - c = z := by omega
    rw [this, Nat.mod_eq_of_lt hz]
/-- one step of a difference, at any base; d is the difference, with a multiple of the modulus added -/
theorem sub_step_gen (a b d K p B : Nat) (hp : 0 < p) (hB : 0 < B) (hd : b + d = a + p * B * K) :
    ((a / p % B + B - b / p % B - (if a % p < b % p then 1 else 0)) % B = d / p % B)
    ∧ (a / p % B < b / p % B + (if a % p < b % p then 1 else 0) ↔ a % (p * B) < b % (p * B)) := by
  have ha := Nat.mod_lt a hp
  have hb := Nat.mod_lt b hp
  have hdp := Nat.mod_lt d hp
  constructor
  · have h1 := (add_step_gen b d p B hp).1
    rw [hd] at h1
    have e1 : (a + p * B * K) / p = a / p + B * K := by rw [Nat.mul_assoc, Nat.add_mul_div_left _ _ hp]
    have e2 : (a / p + B * K) % B = a / p % B := by rw [Nat.add_mul_mod_self_left]
    rw [e1, e2] at h1
    have e3 : (b % p + d % p) % p = a % p := by
      rw [← Nat.add_mod, hd, Nat.mul_assoc, Nat.add_mul_mod_self_left]
    have e4 := carry_two (b % p) (d % p) p hb hdp
    rw [e3] at e4
    rw [e4] at h1
    refine sub_word _ _ _ _ _ (Nat.mod_lt _ hB) (Nat.mod_lt _ hB) ?_ h1
    split <;> omega
  · rw [Nat.mod_mul, Nat.mod_mul]
    exact (lex_lt _ _ _ _ _ ha hb).symm

/-- word i of a natural number -/
@[irreducible] def wd (a i : Nat) : Int := ((a / 2 ^ (64 * i) % 18446744073709551616 : Nat) : Int)
/-- the carry into word i of a sum -/
@[irreducible] def cr (a b i : Nat) : Int := ((a % 2 ^ (64 * i) + b % 2 ^ (64 * i)) / 2 ^ (64 * i) : Nat)
/-- the borrow into word i of a difference -/
@[irreducible] def br (a b i : Nat) : Int := if a % 2 ^ (64 * i) < b % 2 ^ (64 * i) then 1 else 0
theorem pow_next (i : Nat) : 2 ^ (64 * (i + 1)) = 2 ^ (64 * i) * 18446744073709551616 := by
  rw [show 64 * (i + 1) = 64 * i + 64 from by omega, Nat.pow_add]
theorem wd_nat (a i : Nat) : ∃ n : Nat, wd a i = (n : Int) ∧ n < 18446744073709551616 ∧ n = a / 2 ^ (64 * i) % 18446744073709551616 := by
  unfold wd
  refine ⟨_, rfl, ?_, rfl⟩
  generalize a / 2 ^ (64 * i) = x; omega
theorem cr_bit (a b i : Nat) : cr a b i = 0 ∨ cr a b i = 1 := by
  unfold cr
  have hp : 0 < 2 ^ (64 * i) := Nat.pow_pos (by omega)
  generalize 2 ^ (64 * i) = p at *
  have h1 := Nat.mod_lt a hp
  have h2 := Nat.mod_lt b hp
  rw [carry_two _ _ _ h1 h2]
  split <;> simp
theorem cr_zero (a b : Nat) : cr a b 0 = 0 := by unfold cr; simp [Nat.mod_one]
theorem br_zero (a b : Nat) : br a b 0 = 0 := by unfold br; simp [Nat.mod_one]
theorem br_bit (a b i : Nat) : br a b i = 0 ∨ br a b i = 1 := by unfold br; split <;> simp
theorem add_wd (a b i : Nat) : (wd a i + wd b i + cr a b i) % 18446744073709551616 = wd (a + b) i ∧ (wd a i + wd b i + cr a b i) / 18446744073709551616 = cr a b (i + 1) := by
  have h := add_step_gen a b (2 ^ (64 * i)) 18446744073709551616 (Nat.pow_pos (by omega))
  unfold wd cr
  rw [pow_next]
  exact ⟨by rw [← h.1]; rfl, by rw [← h.2]; rfl⟩
theorem wd_mod (x i : Nat) (hi : i < 4) : wd (x % 2 ^ 256) i = wd x i := by
  unfold wd
  have e : 2 ^ 256 = 2 ^ (64 * i) * (18446744073709551616 * 2 ^ (64 * (3 - i))) := by
    rw [← Nat.mul_assoc, ← pow_next, ← Nat.pow_add]; congr 1; omega
  rw [e, Nat.mod_mul_right_div_self, Nat.mod_mul_right_mod]
/-- a four-word sum, a four-word difference: what is left of them -/
@[irreducible] def sm (a b : Nat) : Nat := (a + b) % 2 ^ 256
@[irreducible] def df (a b : Nat) : Nat := (a + 2 ^ 256 - b) % 2 ^ 256
theorem sm_lt (a b : Nat) : sm a b < 2 ^ 256 := by unfold sm; exact Nat.mod_lt _ (by decide)
theorem df_lt (a b : Nat) : df a b < 2 ^ 256 := by unfold df; exact Nat.mod_lt _ (by decide)
theorem add_wd' (a b i : Nat) (hi : i < 4) : (wd a i + wd b i + cr a b i) % 18446744073709551616 = wd (sm a b) i ∧ (wd a i + wd b i + cr a b i) / 18446744073709551616 = cr a b (i + 1) := by
  unfold sm; rw [wd_mod _ _ hi]; exact add_wd a b i
theorem sub_wd (a b i : Nat) (hb : b ≤ a + 2 ^ 256) (hi : i < 4) : (wd a i + 18446744073709551616 - wd b i - br a b i) % 18446744073709551616 = wd (df a b) i ∧ (if wd a i < wd b i + br a b i then (1 : Int) else 0) = br a b (i + 1) := by
  unfold df
  rw [wd_mod _ _ hi]
  have hK : b + (a + 2 ^ 256 - b) = a + 2 ^ (64 * i) * 18446744073709551616 * 2 ^ (64 * (3 - i)) := by
    have : 2 ^ (64 * i) * 18446744073709551616 * 2 ^ (64 * (3 - i)) = 2 ^ 256 := by
      rw [← pow_next, ← Nat.pow_add]; congr 1; omega
    rw [this]
    generalize 2 ^ 256 = M at *; omega
  have h := sub_step_gen a b (a + 2 ^ 256 - b) _ (2 ^ (64 * i)) 18446744073709551616 (Nat.pow_pos (by omega)) (by omega) hK
  unfold wd br
  rw [pow_next]
  generalize (a + 2 ^ 256 - b) = d at *
  generalize 2 ^ (64 * i) = p at *
  obtain ⟨h1, h2⟩ := h
  constructor
  · rw [← h1]
    generalize a / p % 18446744073709551616 = x
    have : b / p % 18446744073709551616 < 18446744073709551616 := Nat.mod_lt _ (by omega)
    generalize b / p % 18446744073709551616 = y at *
    split <;> omega
  · generalize a / p = x at *
    generalize b / p = y at *
    by_cases h3 : a % p < b % p
    · simp only [h3, if_true] at h2 ⊢
      by_cases h4 : a % (p * 18446744073709551616) < b % (p * 18446744073709551616)
      · have := h2.2 h4; rw [if_pos h4, if_pos (by omega)]
      · have : ¬ _ := fun h => h4 (h2.1 h)
        rw [if_neg h4, if_neg (by omega)]
    · simp only [h3, if_false] at h2 ⊢
      by_cases h4 : a % (p * 18446744073709551616) < b % (p * 18446744073709551616)
      · have := h2.2 h4; rw [if_pos h4, if_pos (by omega)]
      · have : ¬ _ := fun h => h4 (h2.1 h)
        rw [if_neg h4, if_neg (by omega)]
theorem wd0 (a : Nat) : wd a 0 = ((a % 18446744073709551616 : Nat) : Int) := by unfold wd; simp
theorem wd1 (a : Nat) : wd a 1 = ((a / 18446744073709551616 % 18446744073709551616 : Nat) : Int) := by unfold wd; rfl
theorem wd2 (a : Nat) : wd a 2 = ((a / 340282366920938463463374607431768211456 % 18446744073709551616 : Nat) : Int) := by unfold wd; rfl
theorem wd3 (a : Nat) : wd a 3 = ((a / 6277101735386680763835789423207666416102355444464034512896 % 18446744073709551616 : Nat) : Int) := by unfold wd; rfl
theorem lt256 (a : Nat) (h : a < 2 ^ 256) : a < 115792089237316195423570985008687907853269984665640564039457584007913129639936 := h
/-- how two natural numbers compare -/
@[irreducible] def cmpN (a b : Nat) : Int := if a < b then -1 else if b < a then 1 else 0
theorem cr_four {a b : Nat} (ha : a < 2 ^ 256) (hb : b < 2 ^ 256) : cr a b 4 = if a + b < 2 ^ 256 then 0 else 1 := by
  unfold cr
  rw [show 64 * 4 = 256 from rfl, Nat.mod_eq_of_lt ha, Nat.mod_eq_of_lt hb]
  split
  · rename_i h; rw [Nat.div_eq_of_lt h]; rfl
  · rename_i h
    have : (a + b) / 2 ^ 256 = 1 := by
      generalize 2 ^ 256 = M at *
      exact Nat.div_eq_of_lt_le (by omega) (by omega)
    rw [this]; rfl
theorem br_four {a b : Nat} (ha : a < 2 ^ 256) (hb : b < 2 ^ 256) : br a b 4 = if a < b then 1 else 0 := by
  unfold br
  rw [show 64 * 4 = 256 from rfl, Nat.mod_eq_of_lt ha, Nat.mod_eq_of_lt hb]
theorem sm_eq {a b : Nat} (h : a + b < 2 ^ 256) : sm a b = a + b := by unfold sm; exact Nat.mod_eq_of_lt h
theorem df_eq {a b : Nat} (ha : a < 2 ^ 256) (h : b ≤ a) : df a b = a - b := by
  unfold df
  rw [show a + 2 ^ 256 - b = (a - b) + 2 ^ 256 by omega, Nat.add_mod_right, Nat.mod_eq_of_lt (by omega)]
theorem cmp_L3 {a b : Nat} (ha : a < 2 ^ 256) (hb : b < 2 ^ 256)  (h : wd a 3 < wd b 3) : cmpN a b = -1 := by
  have ha := lt256 a ha
  have hb := lt256 b hb
  simp only [wd0, wd1, wd2, wd3] at *
  unfold cmpN
  rw [if_pos (by omega)]
theorem cmp_G3 {a b : Nat} (ha : a < 2 ^ 256) (hb : b < 2 ^ 256) (h0 : wd b 3 ≤ wd a 3) (h : wd b 3 < wd a 3) : cmpN a b = 1 := by
  have ha := lt256 a ha
  have hb := lt256 b hb
  simp only [wd0, wd1, wd2, wd3] at *
  unfold cmpN
  rw [if_neg (by omega), if_pos (by omega)]
theorem cmp_L2 {a b : Nat} (ha : a < 2 ^ 256) (hb : b < 2 ^ 256) (h0 : wd b 3 ≤ wd a 3) (h1 : wd a 3 ≤ wd b 3) (h : wd a 2 < wd b 2) : cmpN a b = -1 := by
  have ha := lt256 a ha
  have hb := lt256 b hb
  simp only [wd0, wd1, wd2, wd3] at *
  unfold cmpN
  rw [if_pos (by omega)]
theorem cmp_G2 {a b : Nat} (ha : a < 2 ^ 256) (hb : b < 2 ^ 256) (h0 : wd b 3 ≤ wd a 3) (h1 : wd a 3 ≤ wd b 3) (h2 : wd b 2 ≤ wd a 2) (h : wd b 2 < wd a 2) : cmpN a b = 1 := by
  have ha := lt256 a ha
  have hb := lt256 b hb
  simp only [wd0, wd1, wd2, wd3] at *
  unfold cmpN
  rw [if_neg (by omega), if_pos (by omega)]
theorem cmp_L1 {a b : Nat} (ha : a < 2 ^ 256) (hb : b < 2 ^ 256) (h0 : wd b 3 ≤ wd a 3) (h1 : wd a 3 ≤ wd b 3) (h2 : wd b 2 ≤ wd a 2) (h3 : wd a 2 ≤ wd b 2) (h : wd a 1 < wd b 1) : cmpN a b = -1 := by
  have ha := lt256 a ha
  have hb := lt256 b hb
  simp only [wd0, wd1, wd2, wd3] at *
  unfold cmpN
  rw [if_pos (by omega)]
theorem cmp_G1 {a b : Nat} (ha : a < 2 ^ 256) (hb : b < 2 ^ 256) (h0 : wd b 3 ≤ wd a 3) (h1 : wd a 3 ≤ wd b 3) (h2 : wd b 2 ≤ wd a 2) (h3 : wd a 2 ≤ wd b 2) (h4 : wd b 1 ≤ wd a 1) (h : wd b 1 < wd a 1) : cmpN a b = 1 := by
  have ha := lt256 a ha
  have hb := lt256 b hb
  simp only [wd0, wd1, wd2, wd3] at *
  unfold cmpN
  rw [if_neg (by omega), if_pos (by omega)]
theorem cmp_L0 {a b : Nat} (ha : a < 2 ^ 256) (hb : b < 2 ^ 256) (h0 : wd b 3 ≤ wd a 3) (h1 : wd a 3 ≤ wd b 3) (h2 : wd b 2 ≤ wd a 2) (h3 : wd a 2 ≤ wd b 2) (h4 : wd b 1 ≤ wd a 1) (h5 : wd a 1 ≤ wd b 1) (h : wd a 0 < wd b 0) : cmpN a b = -1 := by
  have ha := lt256 a ha
  have hb := lt256 b hb
  simp only [wd0, wd1, wd2, wd3] at *
  unfold cmpN
  rw [if_pos (by omega)]
theorem cmp_G0 {a b : Nat} (ha : a < 2 ^ 256) (hb : b < 2 ^ 256) (h0 : wd b 3 ≤ wd a 3) (h1 : wd a 3 ≤ wd b 3) (h2 : wd b 2 ≤ wd a 2) (h3 : wd a 2 ≤ wd b 2) (h4 : wd b 1 ≤ wd a 1) (h5 : wd a 1 ≤ wd b 1) (h6 : wd b 0 ≤ wd a 0) (h : wd b 0 < wd a 0) : cmpN a b = 1 := by
  have ha := lt256 a ha
  have hb := lt256 b hb
  simp only [wd0, wd1, wd2, wd3] at *
  unfold cmpN
  rw [if_neg (by omega), if_pos (by omega)]
theorem cmp_E {a b : Nat} (ha : a < 2 ^ 256) (hb : b < 2 ^ 256) (h0 : wd b 3 ≤ wd a 3) (h1 : wd a 3 ≤ wd b 3) (h2 : wd b 2 ≤ wd a 2) (h3 : wd a 2 ≤ wd b 2) (h4 : wd b 1 ≤ wd a 1) (h5 : wd a 1 ≤ wd b 1) (h6 : wd b 0 ≤ wd a 0) (h7 : wd a 0 ≤ wd b 0) : cmpN a b = 0 := by
  have ha := lt256 a ha
  have hb := lt256 b hb
  simp only [wd0, wd1, wd2, wd3] at *
  unfold cmpN
  rw [if_neg (by omega), if_neg (by omega)]
end Go.Proofs.Ytkpochkfijplaaa.Wd
