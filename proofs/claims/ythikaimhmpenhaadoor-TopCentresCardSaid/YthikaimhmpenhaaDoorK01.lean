/-
  Plain arithmetic of 64-bit words, no program in sight.
  The values of the program's types as numbers, and how the program compares them: for the translation of this seat.
  What a world keeps of another one: all blocks below a number but some; for regions that draw their order.
  What a hull form's check says, in plain numbers; no program in sight.
  Slices of numbers in memory; what the small functions of a hull's check return: within, outside, ascending, slices.Max, slices.ContainsFunc.
  What hull.Check returns, for all forms.
  What the small functions of package wide return, for all inputs: signed, negative, Of, Neg, Valid, compare, plus, minus.
  (Written by wip/pack.py out of XFMath, XFBase, XFKeep, XFHullM, XFHullA, XFHullB, XFWideA.)
-/
import Derived.WalkKit
import Derived.Test.YthikaimhmpenhaaDoorChecked
import Derived.Handy
import Derived.Outline
import Derived.WalkLawsBesides
import Derived.WalkSpells
import Derived.Lib.Hide
import Derived.Deep.QuietTactic
import Derived.BigQuiet
import Derived.Deep.LoopGhost
import Derived.Deep.RegionHeld3
import Derived.Shelf.Spec.BitsCarry
import Derived.ChangeKeysEq
import Derived.Deep.CutBlock
import Derived.Deep.DeepCutAuto
import Derived.Deep.DrawnRows
import Derived.Test.YthikaimhmpenhaaDoorShelf

namespace Go.Proofs.YthikaimhmpenhaaDoor.Wd
set_option linter.all false
theorem add_step_gen (a b p B : Nat) (hp : 0 < p) :
    ((a / p % B + b / p % B + (a % p + b % p) / p) % B = (a + b) / p % B)
    ∧ (a / p % B + b / p % B + (a % p + b % p) / p) / B = (a % (p * B) + b % (p * B)) / (p * B) := by
  have hs : (a + b) / p = a / p + b / p + (a % p + b % p) / p := by
    have ea := Nat.div_add_mod a p
    have eb := Nat.div_add_mod b p
    have : a + b = (a % p + b % p) + p * (a / p + b / p) := by rw [Nat.mul_add]; omega
    conv => lhs; rw [this]
    rw [Nat.add_mul_div_left _ _ hp]; omega
  constructor
  · rw [hs]
    simp [Nat.add_mod]
  · rw [Nat.mod_mul, Nat.mod_mul, ← Nat.div_div_eq_div_mul]
    have : a % p + p * (a / p % B) + (b % p + p * (b / p % B)) = (a % p + b % p) + p * (a / p % B + b / p % B) := by
      rw [Nat.mul_add]; omega
    rw [this, Nat.add_mul_div_left _ _ hp]
    congr 1; omega
theorem carry_two (c d p : Nat) (hc : c < p) (hd : d < p) : (c + d) / p = if (c + d) % p < c then 1 else 0 := by
  have hp : 0 < p := by omega
  by_cases h : c + d < p
  · rw [Nat.div_eq_of_lt h, Nat.mod_eq_of_lt h, if_neg (by omega)]
  · have h1 : (c + d) % p = c + d - p := by rw [Nat.mod_eq_sub_mod (by omega), Nat.mod_eq_of_lt (by omega)]
    rw [h1, if_pos (by omega)]
    exact Nat.div_eq_of_lt_le (by omega) (by omega)
theorem lex_lt (x y c d p : Nat) (hc : c < p) (hd : d < p) : (c + p * x < d + p * y ↔ x < y + (if c < d then 1 else 0)) := by
  constructor
  · intro h
    split
    · rcases Nat.lt_or_ge x (y + 1) with h1 | h1
      · exact h1
      · have := Nat.mul_le_mul_left p h1; rw [Nat.mul_add] at this; omega
    · rcases Nat.lt_or_ge x (y + 0) with h1 | h1
      · exact h1
      · have := Nat.mul_le_mul_left p (by omega : y ≤ x); omega
  · intro h
    split at h
    · rcases Nat.lt_or_ge x y with h1 | h1
      · have := Nat.mul_le_mul_left p (by omega : x + 1 ≤ y); rw [Nat.mul_add] at this; omega
      · have : x = y := by omega
        subst this; omega
    · have := Nat.mul_le_mul_left p (by omega : x + 1 ≤ y); rw [Nat.mul_add] at this; omega
theorem sub_word (x y z c B : Nat) (hy : y < B) (hz : z < B) (hc : c ≤ 1) (h : (y + z + c) % B = x) : (x + B - y - c) % B = z := by
  by_cases h1 : y + z + c < B
  · rw [Nat.mod_eq_of_lt h1] at h
    have : x + B - y - c = z + B := by omega
    rw [this, Nat.add_mod_right, Nat.mod_eq_of_lt hz]
  · have h2 : (y + z + c) % B = y + z + c - B := by rw [Nat.mod_eq_sub_mod (by omega), Nat.mod_eq_of_lt (by omega)]
    have : x + B - y - c = z := by omega
    rw [this, Nat.mod_eq_of_lt hz]
theorem sub_step_gen (a b d K p B : Nat) (hp : 0 < p) (hB : 0 < B) (hd : b + d = a + p * B * K) :
    ((a / p % B + B - b / p % B - (if a % p < b % p then 1 else 0)) % B = d / p % B)
    ∧ (a / p % B < b / p % B + (if a % p < b % p then 1 else 0) ↔ a % (p * B) < b % (p * B)) := by
  have ha := Nat.mod_lt a hp
  have hb := Nat.mod_lt b hp
  have hdp := Nat.mod_lt d hp
  constructor
  · have h1 := (add_step_gen b d p B hp).1
    rw [hd] at h1
    have e1 : (a + p * B * K) / p = a / p + B * K := by rw [Nat.mul_assoc, Nat.add_mul_div_left _ _ hp]
    have e2 : (a / p + B * K) % B = a / p % B := by rw [Nat.add_mul_mod_self_left]
    rw [e1, e2] at h1
    have e3 : (b % p + d % p) % p = a % p := by
      rw [← Nat.add_mod, hd, Nat.mul_assoc, Nat.add_mul_mod_self_left]
    have e4 := carry_two (b % p) (d % p) p hb hdp
    rw [e3] at e4
    rw [e4] at h1
    refine sub_word _ _ _ _ _ (Nat.mod_lt _ hB) (Nat.mod_lt _ hB) ?_ h1
    split <;> omega
  · rw [Nat.mod_mul, Nat.mod_mul]
    exact (lex_lt _ _ _ _ _ ha hb).symm

@[irreducible] def wd (a i : Nat) : Int := ((a / 2 ^ (64 * i) % 18446744073709551616 : Nat) : Int)
@[irreducible] def cr (a b i : Nat) : Int := ((a % 2 ^ (64 * i) + b % 2 ^ (64 * i)) / 2 ^ (64 * i) : Nat)
@[irreducible] def br (a b i : Nat) : Int := if a % 2 ^ (64 * i) < b % 2 ^ (64 * i) then 1 else 0
theorem pow_next (i : Nat) : 2 ^ (64 * (i + 1)) = 2 ^ (64 * i) * 18446744073709551616 := by
  rw [show 64 * (i + 1) = 64 * i + 64 from by omega, Nat.pow_add]
theorem wd_lo (a i : Nat) : 0 ≤ wd a i := by unfold wd; exact Int.natCast_nonneg _
theorem wd_hi (a i : Nat) : wd a i ≤ 18446744073709551615 := by
  unfold wd; generalize a / 2 ^ (64 * i) = x; omega
theorem wd_nat (a i : Nat) : ∃ n : Nat, wd a i = (n : Int) ∧ n < 18446744073709551616 ∧ n = a / 2 ^ (64 * i) % 18446744073709551616 := by
  unfold wd
  refine ⟨_, rfl, ?_, rfl⟩
  generalize a / 2 ^ (64 * i) = x; omega
theorem cr_bit (a b i : Nat) : cr a b i = 0 ∨ cr a b i = 1 := by
  unfold cr
  have hp : 0 < 2 ^ (64 * i) := Nat.pow_pos (by omega)
  generalize 2 ^ (64 * i) = p at *
  have h1 := Nat.mod_lt a hp
  have h2 := Nat.mod_lt b hp
  rw [carry_two _ _ _ h1 h2]
  split <;> simp
theorem cr_zero (a b : Nat) : cr a b 0 = 0 := by unfold cr; simp [Nat.mod_one]
theorem br_zero (a b : Nat) : br a b 0 = 0 := by unfold br; simp [Nat.mod_one]
theorem br_bit (a b i : Nat) : br a b i = 0 ∨ br a b i = 1 := by unfold br; split <;> simp
theorem add_wd (a b i : Nat) : (wd a i + wd b i + cr a b i) % 18446744073709551616 = wd (a + b) i ∧ (wd a i + wd b i + cr a b i) / 18446744073709551616 = cr a b (i + 1) := by
  have h := add_step_gen a b (2 ^ (64 * i)) 18446744073709551616 (Nat.pow_pos (by omega))
  unfold wd cr
  rw [pow_next]
  exact ⟨by rw [← h.1]; rfl, by rw [← h.2]; rfl⟩
theorem wd_mod (x i : Nat) (hi : i < 4) : wd (x % 2 ^ 256) i = wd x i := by
  unfold wd
  have e : 2 ^ 256 = 2 ^ (64 * i) * (18446744073709551616 * 2 ^ (64 * (3 - i))) := by
    rw [← Nat.mul_assoc, ← pow_next, ← Nat.pow_add]; congr 1; omega
  rw [e, Nat.mod_mul_right_div_self, Nat.mod_mul_right_mod]
@[irreducible] def sm (a b : Nat) : Nat := (a + b) % 2 ^ 256
@[irreducible] def df (a b : Nat) : Nat := (a + 2 ^ 256 - b) % 2 ^ 256
theorem sm_lt (a b : Nat) : sm a b < 2 ^ 256 := by unfold sm; exact Nat.mod_lt _ (by decide)
theorem add_wd' (a b i : Nat) (hi : i < 4) : (wd a i + wd b i + cr a b i) % 18446744073709551616 = wd (sm a b) i ∧ (wd a i + wd b i + cr a b i) / 18446744073709551616 = cr a b (i + 1) := by
  unfold sm; rw [wd_mod _ _ hi]; exact add_wd a b i
theorem sub_wd (a b i : Nat) (hb : b ≤ a + 2 ^ 256) (hi : i < 4) : (wd a i + 18446744073709551616 - wd b i - br a b i) % 18446744073709551616 = wd (df a b) i ∧ (if wd a i < wd b i + br a b i then (1 : Int) else 0) = br a b (i + 1) := by
  unfold df
  rw [wd_mod _ _ hi]
  have hK : b + (a + 2 ^ 256 - b) = a + 2 ^ (64 * i) * 18446744073709551616 * 2 ^ (64 * (3 - i)) := by
    have : 2 ^ (64 * i) * 18446744073709551616 * 2 ^ (64 * (3 - i)) = 2 ^ 256 := by
      rw [← pow_next, ← Nat.pow_add]; congr 1; omega
    rw [this]
    generalize 2 ^ 256 = M at *; omega
  have h := sub_step_gen a b (a + 2 ^ 256 - b) _ (2 ^ (64 * i)) 18446744073709551616 (Nat.pow_pos (by omega)) (by omega) hK
  unfold wd br
  rw [pow_next]
  generalize (a + 2 ^ 256 - b) = d at *
  generalize 2 ^ (64 * i) = p at *
  obtain ⟨h1, h2⟩ := h
  constructor
  · rw [← h1]
    generalize a / p % 18446744073709551616 = x
    have : b / p % 18446744073709551616 < 18446744073709551616 := Nat.mod_lt _ (by omega)
    generalize b / p % 18446744073709551616 = y at *
    split <;> omega
  · generalize a / p = x at *
    generalize b / p = y at *
    by_cases h3 : a % p < b % p
    · simp only [h3, if_true] at h2 ⊢
      by_cases h4 : a % (p * 18446744073709551616) < b % (p * 18446744073709551616)
      · have := h2.2 h4; rw [if_pos h4, if_pos (by omega)]
      · have : ¬ _ := fun h => h4 (h2.1 h)
        rw [if_neg h4, if_neg (by omega)]
    · simp only [h3, if_false] at h2 ⊢
      by_cases h4 : a % (p * 18446744073709551616) < b % (p * 18446744073709551616)
      · have := h2.2 h4; rw [if_pos h4, if_pos (by omega)]
      · have : ¬ _ := fun h => h4 (h2.1 h)
        rw [if_neg h4, if_neg (by omega)]
theorem wd0 (a : Nat) : wd a 0 = ((a % 18446744073709551616 : Nat) : Int) := by unfold wd; simp
theorem wd1 (a : Nat) : wd a 1 = ((a / 18446744073709551616 % 18446744073709551616 : Nat) : Int) := by unfold wd; rfl
theorem wd2 (a : Nat) : wd a 2 = ((a / 340282366920938463463374607431768211456 % 18446744073709551616 : Nat) : Int) := by unfold wd; rfl
theorem wd3 (a : Nat) : wd a 3 = ((a / 6277101735386680763835789423207666416102355444464034512896 % 18446744073709551616 : Nat) : Int) := by unfold wd; rfl
theorem lt256 (a : Nat) (h : a < 2 ^ 256) : a < 115792089237316195423570985008687907853269984665640564039457584007913129639936 := h
@[irreducible] def cmpN (a b : Nat) : Int := if a < b then -1 else if b < a then 1 else 0
theorem br_four {a b : Nat} (ha : a < 2 ^ 256) (hb : b < 2 ^ 256) : br a b 4 = if a < b then 1 else 0 := by
  unfold br
  rw [show 64 * 4 = 256 from rfl, Nat.mod_eq_of_lt ha, Nat.mod_eq_of_lt hb]
theorem sm_eq {a b : Nat} (h : a + b < 2 ^ 256) : sm a b = a + b := by unfold sm; exact Nat.mod_eq_of_lt h
theorem df_eq {a b : Nat} (ha : a < 2 ^ 256) (h : b ≤ a) : df a b = a - b := by
  unfold df
  rw [show a + 2 ^ 256 - b = (a - b) + 2 ^ 256 by omega, Nat.add_mod_right, Nat.mod_eq_of_lt (by omega)]
theorem cmp_L3 {a b : Nat} (ha : a < 2 ^ 256) (hb : b < 2 ^ 256)  (h : wd a 3 < wd b 3) : cmpN a b = -1 := by
  have ha := lt256 a ha
  have hb := lt256 b hb
  simp only [wd0, wd1, wd2, wd3] at *
  unfold cmpN
  rw [if_pos (by omega)]
theorem cmp_G3 {a b : Nat} (ha : a < 2 ^ 256) (hb : b < 2 ^ 256) (h0 : wd b 3 ≤ wd a 3) (h : wd b 3 < wd a 3) : cmpN a b = 1 := by
  have ha := lt256 a ha
  have hb := lt256 b hb
  simp only [wd0, wd1, wd2, wd3] at *
  unfold cmpN
  rw [if_neg (by omega), if_pos (by omega)]
theorem cmp_L2 {a b : Nat} (ha : a < 2 ^ 256) (hb : b < 2 ^ 256) (h0 : wd b 3 ≤ wd a 3) (h1 : wd a 3 ≤ wd b 3) (h : wd a 2 < wd b 2) : cmpN a b = -1 := by
  have ha := lt256 a ha
  have hb := lt256 b hb
  simp only [wd0, wd1, wd2, wd3] at *
  unfold cmpN
  rw [if_pos (by omega)]
theorem cmp_G2 {a b : Nat} (ha : a < 2 ^ 256) (hb : b < 2 ^ 256) (h0 : wd b 3 ≤ wd a 3) (h1 : wd a 3 ≤ wd b 3) (h2 : wd b 2 ≤ wd a 2) (h : wd b 2 < wd a 2) : cmpN a b = 1 := by
  have ha := lt256 a ha
  have hb := lt256 b hb
  simp only [wd0, wd1, wd2, wd3] at *
  unfold cmpN
  rw [if_neg (by omega), if_pos (by omega)]
theorem cmp_L1 {a b : Nat} (ha : a < 2 ^ 256) (hb : b < 2 ^ 256) (h0 : wd b 3 ≤ wd a 3) (h1 : wd a 3 ≤ wd b 3) (h2 : wd b 2 ≤ wd a 2) (h3 : wd a 2 ≤ wd b 2) (h : wd a 1 < wd b 1) : cmpN a b = -1 := by
  have ha := lt256 a ha
  have hb := lt256 b hb
  simp only [wd0, wd1, wd2, wd3] at *
  unfold cmpN
  rw [if_pos (by omega)]
theorem cmp_G1 {a b : Nat} (ha : a < 2 ^ 256) (hb : b < 2 ^ 256) (h0 : wd b 3 ≤ wd a 3) (h1 : wd a 3 ≤ wd b 3) (h2 : wd b 2 ≤ wd a 2) (h3 : wd a 2 ≤ wd b 2) (h4 : wd b 1 ≤ wd a 1) (h : wd b 1 < wd a 1) : cmpN a b = 1 := by
  have ha := lt256 a ha
  have hb := lt256 b hb
  simp only [wd0, wd1, wd2, wd3] at *
  unfold cmpN
  rw [if_neg (by omega), if_pos (by omega)]
theorem cmp_L0 {a b : Nat} (ha : a < 2 ^ 256) (hb : b < 2 ^ 256) (h0 : wd b 3 ≤ wd a 3) (h1 : wd a 3 ≤ wd b 3) (h2 : wd b 2 ≤ wd a 2) (h3 : wd a 2 ≤ wd b 2) (h4 : wd b 1 ≤ wd a 1) (h5 : wd a 1 ≤ wd b 1) (h : wd a 0 < wd b 0) : cmpN a b = -1 := by
  have ha := lt256 a ha
  have hb := lt256 b hb
  simp only [wd0, wd1, wd2, wd3] at *
  unfold cmpN
  rw [if_pos (by omega)]
theorem cmp_G0 {a b : Nat} (ha : a < 2 ^ 256) (hb : b < 2 ^ 256) (h0 : wd b 3 ≤ wd a 3) (h1 : wd a 3 ≤ wd b 3) (h2 : wd b 2 ≤ wd a 2) (h3 : wd a 2 ≤ wd b 2) (h4 : wd b 1 ≤ wd a 1) (h5 : wd a 1 ≤ wd b 1) (h6 : wd b 0 ≤ wd a 0) (h : wd b 0 < wd a 0) : cmpN a b = 1 := by
  have ha := lt256 a ha
  have hb := lt256 b hb
  simp only [wd0, wd1, wd2, wd3] at *
  unfold cmpN
  rw [if_neg (by omega), if_pos (by omega)]
theorem cmp_E {a b : Nat} (ha : a < 2 ^ 256) (hb : b < 2 ^ 256) (h0 : wd b 3 ≤ wd a 3) (h1 : wd a 3 ≤ wd b 3) (h2 : wd b 2 ≤ wd a 2) (h3 : wd a 2 ≤ wd b 2) (h4 : wd b 1 ≤ wd a 1) (h5 : wd a 1 ≤ wd b 1) (h6 : wd b 0 ≤ wd a 0) (h7 : wd a 0 ≤ wd b 0) : cmpN a b = 0 := by
  have ha := lt256 a ha
  have hb := lt256 b hb
  simp only [wd0, wd1, wd2, wd3] at *
  unfold cmpN
  rw [if_neg (by omega), if_neg (by omega)]
end Go.Proofs.YthikaimhmpenhaaDoor.Wd

namespace Go.Proofs.YthikaimhmpenhaaDoor
set_option linter.all false
open Go Go.RowKit Wd
set_option maxRecDepth 100000
@[irreducible] def eqN (a b : Nat) : Bool := decide (a = b)
@[irreducible] def zs (z : Int) : Bool := decide (z < 0)
@[irreducible] def val (s : Bool) (a : Nat) : Int := if s then -(a : Int) else a
theorem bcell {W w1 : World} (hb : Below W.heap.size W w1) : (∀ b o, b < W.heap.size → w1.cell? ⟨b, o, none⟩ = W.cell? ⟨b, o, none⟩) ∧ (∀ b o, b < W.heap.size → w1.frozen? ⟨b, o, none⟩ = W.frozen? ⟨b, o, none⟩) :=
  ⟨fun b o h => hb.cell (p := ⟨b, o, none⟩) h, fun b o h => hb.frozen (p := ⟨b, o, none⟩) h⟩
theorem cells_u64 : Tryd.prog.cellsOf 34 = 1 := by kernel_rfl
theorem eq_mag_words (d : Nat) (a0 a1 a2 a3 b0 b1 b2 b3 : Int) (w : World) :
    (Op.equalIn (d + 2) 35 (.agg #[.int .u64 a0, .int .u64 a1, .int .u64 a2, .int .u64 a3]) (.agg #[.int .u64 b0, .int .u64 b1, .int .u64 b2, .int .u64 b3])).run Tryd.prog w =
      .ok (a0 == b0 && (a1 == b1 && (a2 == b2 && a3 == b3))) w := by
  have h := run_equalIn_array (P := Tryd.prog) w (d + 1) #[.int .u64 a0, .int .u64 a1, .int .u64 a2, .int .u64 a3] #[.int .u64 b0, .int .u64 b1, .int .u64 b2, .int .u64 b3] (i := _) Tryd.underlying35 (by rfl)
  rw [h, cells_u64]
  simp [List.range, List.range.loop, Op.eqItems, go_sem]
  by_cases h0 : a0 = b0 <;> by_cases h1 : a1 = b1 <;> by_cases h2 : a2 = b2 <;> by_cases h3 : a3 = b3 <;> simp [h0, h1, h2, h3]
theorem wd_inj (a b : Nat) (ha : a < 2 ^ 256) (hb : b < 2 ^ 256) : (wd a 0 == wd b 0 && (wd a 1 == wd b 1 && (wd a 2 == wd b 2 && wd a 3 == wd b 3))) = eqN a b := by
  have ha := lt256 a ha
  have hb := lt256 b hb
  unfold eqN
  rw [Bool.eq_iff_iff]
  simp only [Bool.and_eq_true, beq_iff_eq, decide_eq_true_eq, wd0, wd1, wd2, wd3]
  constructor
  · intro h; omega
  · rintro rfl; simp
theorem wd_zero : wd 0 0 = 0 ∧ wd 0 1 = 0 ∧ wd 0 2 = 0 ∧ wd 0 3 = 0 := by refine ⟨?_, ?_, ?_, ?_⟩ <;> simp [wd]
theorem eq_mag (a b : Nat) (ha : a < 2 ^ 256) (hb : b < 2 ^ 256) (w : World) : (Op.equalIn 10000 35 (.agg #[.int .u64 (wd (a) 0), .int .u64 (wd (a) 1), .int .u64 (wd (a) 2), .int .u64 (wd (a) 3)]) (.agg #[.int .u64 (wd (b) 0), .int .u64 (wd (b) 1), .int .u64 (wd (b) 2), .int .u64 (wd (b) 3)])).run Tryd.prog w = .ok (eqN a b) w := by
  rw [eq_mag_words 9998, wd_inj a b ha hb]
theorem eq_mag0 (a : Nat) (ha : a < 2 ^ 256) (w : World) : (Op.equalIn 10000 35 (.agg #[.int .u64 (wd (a) 0), .int .u64 (wd (a) 1), .int .u64 (wd (a) 2), .int .u64 (wd (a) 3)]) (.agg #[.int .u64 0, .int .u64 0, .int .u64 0, .int .u64 0])).run Tryd.prog w = .ok (eqN a 0) w := by
  have h := eq_mag a 0 ha (by decide) w
  rw [wd_zero.1, wd_zero.2.1, wd_zero.2.2.1, wd_zero.2.2.2] at h
  exact h
theorem zs_zero : zs 0 = false := by unfold zs; rfl
theorem zs_val (s : Bool) (a : Nat) : zs (val s a) = (s && !eqN a 0) := by
  unfold zs val eqN
  cases s
  · have : ¬ ((a : Int) < 0) := by omega
    simp
  · by_cases h : a = 0
    · subst h; simp
    · have : (-(a : Int) < 0) := by omega
      simp [h]; omega
theorem abs_val (s : Bool) (a : Nat) : (val s a).natAbs = a := by
  unfold val; split <;> omega
theorem val_zs (z : Int) : val (zs z) z.natAbs = z := by
  unfold val zs
  by_cases h : z < 0
  · simp [h]; omega
  · simp [h]; omega
@[irreducible] def fitZ (z : Int) : Int := if z.natAbs < 2 ^ 256 then z else 0
@[irreducible] def fitE (z : Int) : Int := if z.natAbs < 2 ^ 256 then 0 else 21
theorem fitZ_in {z : Int} (h : z.natAbs < 2 ^ 256) : fitZ z = z := by unfold fitZ; rw [if_pos h]
theorem fitE_in {z : Int} (h : z.natAbs < 2 ^ 256) : fitE z = 0 := by unfold fitE; rw [if_pos h]
theorem fitZ_out {z : Int} (h : ¬ z.natAbs < 2 ^ 256) : fitZ z = 0 := by unfold fitZ; rw [if_neg h]
theorem fitE_out {z : Int} (h : ¬ z.natAbs < 2 ^ 256) : fitE z = 21 := by unfold fitE; rw [if_neg h]
theorem below_after {w W w1 : World} (h : Below w.heap.size w W) (hb : Below W.heap.size W w1) : Below w.heap.size w w1 := h.trans (hb.mono h.size)
theorem below_alloc {w W : World} (h : Below w.heap.size w W) (o : Obj) : Below w.heap.size w (W.alloc o) := h.alloc h.size o
theorem wp_world {P : Program} {c : Code} {Q : Exit → Act → World → Prop} {a : Act} {w0 : World} (p : World → Prop) (hp : p w0) (h : ∀ W, p W → c.wp P Q a W) : c.wp P Q a w0 := h w0 hp
theorem keep_cell {W w1 : World} {B : Nat} {xs : Array Value} (hb : Below W.heap.size W w1) (hz : B < W.heap.size) (h : ∀ o, W.cell? ⟨B, o, none⟩ = xs[o]?) : ∀ o, w1.cell? ⟨B, o, none⟩ = xs[o]? := fun o => (hb.cell (p := ⟨B, o, none⟩) hz).trans (h o)
theorem keep_frozen {W w1 : World} {B : Nat} (hb : Below W.heap.size W w1) (hz : B < W.heap.size) (h : ∀ o, W.frozen? ⟨B, o, none⟩ = false) : ∀ o, w1.frozen? ⟨B, o, none⟩ = false := fun o => (hb.frozen (p := ⟨B, o, none⟩) hz).trans (h o)
theorem keep_one {W w1 : World} {B i : Nat} {v : Value} (hb : Below W.heap.size W w1) (hz : B < W.heap.size) (h : W.cell? ⟨B, i, none⟩ = some v) : w1.cell? ⟨B, i, none⟩ = some v := (hb.cell (p := ⟨B, i, none⟩) hz).trans h
theorem keep_cell_a {W : World} {ob : Obj} {B : Nat} {xs : Array Value} (hz : B < W.heap.size) (h : ∀ o, W.cell? ⟨B, o, none⟩ = xs[o]?) : ∀ o, (W.alloc ob).cell? ⟨B, o, none⟩ = xs[o]? := fun o => (World.cell?_alloc_past ob B o hz).trans (h o)
theorem keep_frozen_a {W : World} {ob : Obj} {B : Nat} (hz : B < W.heap.size) (h : ∀ o, W.frozen? ⟨B, o, none⟩ = false) : ∀ o, (W.alloc ob).frozen? ⟨B, o, none⟩ = false := fun o => (World.frozen?_alloc_past ob B o hz).trans (h o)
theorem keep_lt_a {W : World} {ob : Obj} {B : Nat} (hz : B < W.heap.size) : B < (W.alloc ob).heap.size := by simp; omega
theorem keep_one_c {W : World} {p : Addr} {u : Value} {B i : Nat} {v : Value} (hn : p.block ≠ B) (h : W.cell? ⟨B, i, none⟩ = some v) : (W.setCell p u).cell? ⟨B, i, none⟩ = some v := by
  rw [World.cell?_setCell_other _ _ _ _ (by intro e; exact hn (congrArg Addr.block e)), h]
theorem keep_cell_c {W : World} {p : Addr} {u : Value} {B : Nat} {xs : Array Value} (hn : p.block ≠ B) (h : ∀ o, W.cell? ⟨B, o, none⟩ = xs[o]?) : ∀ o, (W.setCell p u).cell? ⟨B, o, none⟩ = xs[o]? := by
  intro o
  rw [World.cell?_setCell_other _ _ _ _ (by intro e; exact hn (congrArg Addr.block e)), h]
theorem keep_frozen_c {W : World} {p : Addr} {u : Value} {B : Nat} (h : ∀ o, W.frozen? ⟨B, o, none⟩ = false) : ∀ o, (W.setCell p u).frozen? ⟨B, o, none⟩ = false := fun o => by rw [World.frozen?_setCell]; exact h o
theorem keep_lt {W w1 : World} {B : Nat} (hb : Below W.heap.size W w1) (hz : B < W.heap.size) : B < w1.heap.size := Nat.lt_of_lt_of_le hz hb.size
theorem ret_int {k : IntKind} {a b : Int} (h : a = b) : Ending.returned (.int k a) = .returned (.int k b) := by rw [h]
theorem ret_bool {a b : Bool} (h : a = b) : Ending.returned (.bool a) = .returned (.bool b) := by rw [h]
@[irreducible] def cmpZ (x y : Int) : Int := if x < y then -1 else if y < x then 1 else 0
theorem zs_true {z : Int} (h : zs z = true) : z < 0 := by unfold zs at h; simpa using h
theorem zs_false {z : Int} (h : zs z = false) : 0 ≤ z := by unfold zs at h; simpa using h
theorem cmp_nn {s t : Bool} {a b : Nat} (hx : zs (val s a) = true) (hy : zs (val t b) = true) : cmpZ (val s a) (val t b) = cmpN b a := by
  have h1 := zs_true hx
  have h2 := zs_true hy
  unfold val cmpZ cmpN at *
  cases s <;> cases t <;> simp at h1 h2 ⊢ <;> (repeat' split) <;> omega
theorem cmp_np {s t : Bool} {a b : Nat} (hx : zs (val s a) = true) (hy : zs (val t b) = false) : cmpZ (val s a) (val t b) = -1 := by
  have h1 := zs_true hx
  have h2 := zs_false hy
  unfold cmpZ
  rw [if_pos (by omega)]
theorem cmp_pn {s t : Bool} {a b : Nat} (hx : zs (val s a) = false) (hy : zs (val t b) = true) : cmpZ (val s a) (val t b) = 1 := by
  have h1 := zs_false hx
  have h2 := zs_true hy
  unfold cmpZ
  rw [if_neg (by omega), if_pos (by omega)]
theorem cmp_pp {s t : Bool} {a b : Nat} (hx : zs (val s a) = false) (hy : zs (val t b) = false) : cmpZ (val s a) (val t b) = cmpN a b := by
  have h1 := zs_false hx
  have h2 := zs_false hy
  unfold val cmpZ cmpN at *
  cases s <;> cases t <;> simp at h1 h2 ⊢ <;> (repeat' split) <;> omega
theorem wd_small {n : Nat} (h : n < 18446744073709551616) : wd n 0 = n ∧ wd n 1 = 0 ∧ wd n 2 = 0 ∧ wd n 3 = 0 := by
  rw [wd0, wd1, wd2, wd3]; omega
theorem Bq0 {n : Nat} {w : World} : Below n w w := Below.refl _ _
theorem Bq1 {w W : World} {O : Obj} (h : Below w.heap.size w W) : Below w.heap.size w (W.alloc O) := below_alloc h O
theorem Bq2 {n : Nat} {w W : World} (h : Below n w W) : Below n w W.drew := h.drew
theorem Bq3 {n : Nat} {w W : World} {p : Addr} {v : Value} (h : Below n w W) (hp : n ≤ p.block) : Below n w (W.setCell p v) := h.setCell hp v
theorem Bq4 {w W x : World} (h : Below w.heap.size w W) (hb : Below W.heap.size W x) : Below w.heap.size w x := below_after h hb
theorem Nq1 {α : Type} {l : List α} {i : Nat} (h : i < l.toArray.size) : l.toArray[i] = l[i]'(by simpa using h) := by simp
theorem Nq2 {α : Type} {a : α} {l : List α} {i : Nat} (h : i + 1 < (a :: l).length) : (a :: l)[i + 1] = l[i]'(by simpa using h) := rfl
theorem Nq3 {α : Type} {a : α} {l : List α} (h : 0 < (a :: l).length) : (a :: l)[0] = a := rfl
theorem Nq4 {α : Type} {l : List α} {i : Nat} {a : α} : l.toArray.setIfInBounds i a = (l.set i a).toArray := by simp
theorem Nq5 {α : Type} {x a : α} {l : List α} : (x :: l).set 0 a = a :: l := rfl
theorem Nq6 {α : Type} {x a : α} {l : List α} {n : Nat} : (x :: l).set (n + 1) a = x :: l.set n a := rfl
theorem Zq1 {w : World} {O : Obj} : (w.alloc O).heap.size = w.heap.size + 1 := by simp
theorem Zq2 {w : World} : w.drew.heap.size = w.heap.size := by simp
theorem Zq3 {w : World} {p : Addr} {v : Value} : (w.setCell p v).heap.size = w.heap.size := by simp
end Go.Proofs.YthikaimhmpenhaaDoor

namespace Go.Proofs.YthikaimhmpenhaaDoor
set_option linter.all false
open Go Go.RowKit Wd
structure Kp (H : Nat) (L : List Nat) (W x : World) : Prop where
  top : H ≤ W.heap.size
  size : W.heap.size ≤ x.heap.size
  cell : ∀ b o, b < H → b ∉ L → x.cell? ⟨b, o, none⟩ = W.cell? ⟨b, o, none⟩
  froz : ∀ b o, b < H → x.frozen? ⟨b, o, none⟩ = W.frozen? ⟨b, o, none⟩
theorem Kp.refl {H : Nat} {L : List Nat} {W : World} (h : H ≤ W.heap.size) : Kp H L W W := ⟨h, Nat.le_refl _, fun _ _ _ _ => rfl, fun _ _ _ => rfl⟩
theorem Kp.drew {H : Nat} {L : List Nat} {W x : World} (h : Kp H L W x) : Kp H L W x.drew := ⟨h.top, h.size, h.cell, h.froz⟩
theorem Kp.alloc {H : Nat} {L : List Nat} {W x : World} (h : Kp H L W x) (O : Obj) : Kp H L W (x.alloc O) := by
  obtain ⟨h1, h2, h3, h4⟩ := h
  refine ⟨h1, ?_, fun b o hb hl => ?_, fun b o hb => ?_⟩
  · simp; omega
  · rw [World.cell?_alloc_past O b o (by omega)]; exact h3 b o hb hl
  · rw [World.frozen?_alloc_past O b o (by omega)]; exact h4 b o hb
theorem Kp.set {H : Nat} {L : List Nat} {W x : World} (h : Kp H L W x) {p : Addr} (hp : H ≤ p.block ∨ p.block ∈ L) (v : Value) : Kp H L W (x.setCell p v) := by
  obtain ⟨h1, h2, h3, h4⟩ := h
  refine ⟨h1, by simpa using h2, fun b o hb hl => ?_, fun b o hb => ?_⟩
  · rw [World.cell?_setCell_other _ _ _ _ (fun e => ?_)]
    · exact h3 b o hb hl
    · have e2 : p.block = b := congrArg Addr.block e
      rcases hp with h | h
      · omega
      · rw [e2] at h; exact hl h
  · rw [World.frozen?_setCell]; exact h4 b o hb
theorem Kp.after {H : Nat} {L : List Nat} {W X x : World} (h : Kp H L W X) (hb : Below X.heap.size X x) : Kp H L W x := by
  obtain ⟨h1, h2, h3, h4⟩ := h
  refine ⟨h1, Nat.le_trans h2 hb.size, fun b o hb' hl => ?_, fun b o hb' => ?_⟩
  · rw [hb.cell (p := ⟨b, o, none⟩) (by simp only []; omega)]; exact h3 b o hb' hl
  · rw [hb.frozen (p := ⟨b, o, none⟩) (by simp only []; omega)]; exact h4 b o hb'
theorem set_at {W : World} {B i : Nat} {v : Value} {xs : Array Value} (h : ∀ o, W.cell? ⟨B, o, none⟩ = xs[o]?) : ∀ o, (W.setCell ⟨B, i, none⟩ v).cell? ⟨B, o, none⟩ = (xs.setIfInBounds i v)[o]? := by
  intro o
  by_cases ho : o = i
  · subst ho
    rw [Array.getElem?_setIfInBounds_self]
    by_cases hs : o < xs.size
    · rw [if_pos hs, World.cell?_setCell_same _ _ _ (u := xs[o]) (by rw [h]; simp [hs])]
    · have h0 : W.cell? ⟨B, o, none⟩ = none := by rw [h]; simp; omega
      rw [if_neg hs]
      unfold World.setCell World.cell? at *
      simp only [Array.getElem?_modify] at *
      cases hB : W.heap[B]? with
      | none => simp
      | some O =>
        rw [hB] at h0
        cases O <;> simp_all
        have h1 := h o
        rw [Array.getElem?_eq_none hs] at h1
        simpa using h1
  · rw [World.cell?_setCell_other _ _ _ _ (by intro e; exact ho (congrArg Addr.off e).symm), h, Array.getElem?_setIfInBounds_ne (by omega)]
theorem Kp.put {H : Nat} {L : List Nat} {W x : World} {p : Addr} (hp : H ≤ p.block ∨ p.block ∈ L) (h : Kp H L W x) (v : Value) : Kp H L W (x.setCell p v) := h.set hp v
theorem Kp.later {H : Nat} {L : List Nat} {W X x : World} (hb : Below X.heap.size X x) (h : Kp H L W X) : Kp H L W x := h.after hb
theorem Kq0 {L : List Nat} {w : World} : Kp w.heap.size L w w := Kp.refl (Nat.le_refl _)
theorem Kq1 {H : Nat} {L : List Nat} {W x : World} (h : Kp H L W x) : Kp H L W x.drew := h.drew
theorem Kq2 {H : Nat} {L : List Nat} {W x : World} {O : Obj} (h : Kp H L W x) : Kp H L W (x.alloc O) := h.alloc O
theorem Kq3 {H : Nat} {L : List Nat} {W x : World} {p : Addr} {v : Value} (hp : H ≤ p.block ∨ p.block ∈ L) (h : Kp H L W x) : Kp H L W (x.setCell p v) := h.set hp v
end Go.Proofs.YthikaimhmpenhaaDoor

namespace Go.Proofs.YthikaimhmpenhaaDoor
set_option linter.all false
open Go Go.RowKit Wd
set_option maxRecDepth 100000
@[irreducible] def ix (l : List Int) (j : Nat) : Int := l[j]!
@[irreducible] def row (H : List (List Int)) (i : Nat) : List Int := H[i]!
@[irreducible] def out (m x : Int) : Bool := !(decide (0 ≤ x) && decide (x ≤ m))
theorem out_neg {m x : Int} (h : x < 0) : out m x = true := by unfold out; simp; omega
theorem out_big {m x : Int} (h : m < x) : out m x = true := by unfold out; simp; omega
theorem out_in {m x : Int} (h : 0 ≤ x) (h' : x ≤ m) : out m x = false := by unfold out; simp; omega
theorem in_of {m x : Int} (h : out m x = false) : 0 ≤ x ∧ x ≤ m := by unfold out at h; simp at h; omega
@[irreducible] def ascTo (l : List Int) (k : Nat) : Bool := (List.range k).all fun i => decide (ix l i < ix l (i + 1))
@[irreducible] def asc (l : List Int) : Bool := ascTo l (l.length - 1)
theorem ascTo_zero (l : List Int) : ascTo l 0 = true := by unfold ascTo; rfl
theorem ascTo_succ (l : List Int) (k : Nat) : ascTo l (k + 1) = (ascTo l k && decide (ix l k < ix l (k + 1))) := by
  unfold ascTo; rw [List.range_succ, List.all_append]; simp
theorem asc_all {l : List Int} (h : ascTo l (l.length - 1) = true) : asc l = true := by unfold asc; exact h
theorem asc_not {l : List Int} {k : Nat} (hk : k + 1 < l.length) (h : ix l (k + 1) ≤ ix l k) : asc l = false := by
  unfold asc ascTo
  rw [List.all_eq_false]
  exact ⟨k, by simp; omega, by simp; omega⟩
theorem asc_lt {l : List Int} (h : asc l = true) {i : Nat} (hi : i + 1 < l.length) : ix l i < ix l (i + 1) := by
  unfold asc ascTo at h
  rw [List.all_eq_true] at h
  simpa using h i (by simp; omega)
@[irreducible] def nil0 (l : List Int) : Bool := l.all fun x => decide (x = 0)
@[irreducible] def anyOut (m : Int) (l : List Int) : Bool := l.any (out m)
@[irreducible] def badRows (m : Nat) (H : List (List Int)) : Bool := H.any fun l => !decide (l.length = m)
@[irreducible] def rowsOut (m : Int) (H : List (List Int)) (k : Nat) : Bool := (H.take k).any (anyOut m)
@[irreducible] def rowsNil (H : List (List Int)) (k : Nat) : Bool := (H.take k).all nil0
@[irreducible] def chk (X Z : List Int) (H : List (List Int)) : Int :=
  if X.length < 2 ∨ Z.length < 2 then 3
  else if 24 < X.length ∨ 16 < Z.length then 4
  else if H.length ≠ X.length ∨ badRows Z.length H = true then 17
  else if anyOut 32768 X = true ∨ anyOut 4096 Z = true then 9
  else if rowsOut 4096 H H.length = true then 9
  else if asc X = false ∨ asc Z = false ∨ ix Z 0 ≠ 0 then 11
  else if rowsNil H H.length = true then 17
  else 0
theorem ix_get {l : List Int} {j : Nat} (h : j < l.length) : ix l j = l[j] := by unfold ix; exact getElem!_pos l j h
theorem row_get {H : List (List Int)} {j : Nat} (h : j < H.length) : row H j = H[j] := by unfold row; exact getElem!_pos H j h
theorem rowsOut_zero (m : Int) (H : List (List Int)) : rowsOut m H 0 = false := by unfold rowsOut; rfl
theorem rowsNil_zero (H : List (List Int)) : rowsNil H 0 = true := by unfold rowsNil; rfl
theorem rowsOut_succ (m : Int) {H : List (List Int)} {k : Nat} (hk : k < H.length) : rowsOut m H (k + 1) = (rowsOut m H k || anyOut m (row H k)) := by
  unfold rowsOut; rw [List.take_succ_eq_append_getElem hk, List.any_append, row_get hk]; simp
theorem rowsNil_succ {H : List (List Int)} {k : Nat} (hk : k < H.length) : rowsNil H (k + 1) = (rowsNil H k && nil0 (row H k)) := by
  unfold rowsNil; rw [List.take_succ_eq_append_getElem hk, List.all_append, row_get hk]; simp
theorem rowsOut_more {m : Int} {H : List (List Int)} {k : Nat} (hk : k ≤ H.length) (h : rowsOut m H k = true) : rowsOut m H H.length = true := by
  unfold rowsOut at *
  rw [List.take_length]
  rw [List.any_eq_true] at *
  obtain ⟨x, hx, h⟩ := h
  exact ⟨x, List.mem_of_mem_take hx, h⟩
theorem anyOut_at {m : Int} {l : List Int} (h : anyOut m l = false) {j : Nat} (hj : j < l.length) : 0 ≤ ix l j ∧ ix l j ≤ m := by
  unfold anyOut at h
  rw [List.any_eq_false] at h
  rw [ix_get hj]
  exact in_of (by simpa using h _ (List.getElem_mem hj))
theorem badRows_at {m : Nat} {H : List (List Int)} (h : badRows m H = false) {i : Nat} (hi : i < H.length) : (row H i).length = m := by
  unfold badRows at h
  rw [List.any_eq_false] at h
  rw [row_get hi]
  simpa using h _ (List.getElem_mem hi)
theorem rowsOut_at {m : Int} {H : List (List Int)} (h : rowsOut m H H.length = false) {i : Nat} (hi : i < H.length) : anyOut m (row H i) = false := by
  unfold rowsOut at h
  rw [List.take_length, List.any_eq_false] at h
  rw [row_get hi]
  simpa using h _ (List.getElem_mem hi)
@[irreducible] def maxTo (l : List Int) (k : Nat) : Int := (List.range k).foldl (fun m i => max m (ix l (i + 1))) (ix l 0)
theorem maxTo_zero (l : List Int) : maxTo l 0 = ix l 0 := by unfold maxTo; rfl
theorem maxTo_succ (l : List Int) (k : Nat) : maxTo l (k + 1) = max (maxTo l k) (ix l (k + 1)) := by unfold maxTo; rw [List.range_succ, List.foldl_append]; rfl
theorem le_maxTo (l : List Int) (k : Nat) : ∀ j, j ≤ k → ix l j ≤ maxTo l k := by
  induction k with
  | zero => intro j hj; rw [maxTo_zero, show j = 0 by omega]; omega
  | succ k ih =>
    intro j hj
    rw [maxTo_succ]
    by_cases h : j = k + 1
    · subst h; omega
    · have := ih j (by omega); omega
theorem maxTo_mem (l : List Int) (k : Nat) : ∃ j, j ≤ k ∧ maxTo l k = ix l j := by
  induction k with
  | zero => exact ⟨0, by omega, maxTo_zero l⟩
  | succ k ih =>
    obtain ⟨j, hj, e⟩ := ih
    rw [maxTo_succ]
    by_cases h : maxTo l k ≤ ix l (k + 1)
    · exact ⟨k + 1, by omega, by omega⟩
    · exact ⟨j, by omega, by omega⟩
theorem max_nil {m : Int} {l : List Int} (h0 : 0 < l.length) (h : anyOut m l = false) : (maxTo l (l.length - 1) == 0) = nil0 l := by
  rw [Bool.eq_iff_iff, beq_iff_eq]
  unfold nil0
  rw [List.all_eq_true]
  constructor
  · intro hm x hx
    obtain ⟨j, hj, rfl⟩ := List.mem_iff_getElem.1 hx
    have h1 := anyOut_at h hj
    have h2 := le_maxTo l (l.length - 1) j (by omega)
    rw [ix_get hj] at h1 h2
    simp; omega
  · intro ha
    obtain ⟨j, hj, e⟩ := maxTo_mem l (l.length - 1)
    rw [e, ix_get (by omega : j < l.length)]
    simpa using ha _ (List.getElem_mem (by omega : j < l.length))
structure Fine (X Z : List Int) (H : List (List Int)) : Prop where
  x2 : 2 ≤ X.length
  z2 : 2 ≤ Z.length
  x24 : X.length ≤ 24
  z16 : Z.length ≤ 16
  hl : H.length = X.length
  hr : ∀ i, i < H.length → (row H i).length = Z.length
  xr : ∀ i, i < X.length → 0 ≤ ix X i ∧ ix X i ≤ 32768
  zr : ∀ i, i < Z.length → 0 ≤ ix Z i ∧ ix Z i ≤ 4096
  hv : ∀ i, i < H.length → ∀ k, k < Z.length → 0 ≤ ix (row H i) k ∧ ix (row H i) k ≤ 4096
  xa : ∀ i, i + 1 < X.length → ix X i < ix X (i + 1)
  za : ∀ i, i + 1 < Z.length → ix Z i < ix Z (i + 1)
  z0 : ix Z 0 = 0
theorem chk_fine {X Z : List Int} {H : List (List Int)} (h : chk X Z H = 0) : Fine X Z H := by
  unfold chk at h
  split at h
  · omega
  split at h
  · omega
  split at h
  · omega
  split at h
  · omega
  split at h
  · omega
  split at h
  · omega
  split at h
  · omega
  rename_i h1 h2 h3 h4 h5 h6 h7
  have b1 : badRows Z.length H = false := by cases hb : badRows Z.length H <;> simp [hb] at h3 ⊢
  have b2 : anyOut 32768 X = false := by cases hb : anyOut 32768 X <;> simp [hb] at h4 ⊢
  have b3 : anyOut 4096 Z = false := by cases hb : anyOut 4096 Z <;> simp [hb] at h4 ⊢
  have b4 : rowsOut 4096 H H.length = false := by cases hb : rowsOut 4096 H H.length <;> simp [hb] at h5 ⊢
  have b5 : asc X = true := by cases hb : asc X <;> simp [hb] at h6 ⊢
  have b6 : asc Z = true := by cases hb : asc Z <;> simp [hb] at h6 ⊢
  exact ⟨by omega, by omega, by omega, by omega, by omega, fun i hi => badRows_at b1 hi, fun i hi => anyOut_at b2 hi, fun i hi => anyOut_at b3 hi,
    fun i hi k hk => anyOut_at (rowsOut_at b4 hi) (by rw [badRows_at b1 hi]; exact hk), fun i hi => asc_lt b5 hi, fun i hi => asc_lt b6 hi, by omega⟩
end Go.Proofs.YthikaimhmpenhaaDoor

namespace Go.Proofs.YthikaimhmpenhaaDoor
set_option linter.all false
open Go Go.RowKit Wd
set_option maxRecDepth 100000
structure Ints (w : World) (b off : Nat) (l : List Int) : Prop where
  lt : b < w.heap.size
  cell : ∀ j, j < l.length → w.cell? ⟨b, off + j, none⟩ = some (.int .i64 (ix l j))
theorem Ints.later {w w' : World} {b off : Nat} {l : List Int} (h : Ints w b off l) (hb : Below w.heap.size w w') : Ints w' b off l :=
  ⟨Nat.lt_of_lt_of_le h.lt hb.size, fun j hj => (hb.cell (p := ⟨b, off + j, none⟩) h.lt).trans (h.cell j hj)⟩
theorem Ints.first {w : World} {b off : Nat} {l : List Int} (h : Ints w b off l) (h0 : 0 < l.length) : w.cell? ⟨b, off, none⟩ = some (.int .i64 (ix l 0)) := h.cell 0 h0
def Has (w : World) (a : Option Addr) (l : List Int) : Prop := 0 < l.length → ∃ b o, a = some ⟨b, o, none⟩ ∧ Ints w b o l
theorem Has.later {w w' : World} {a : Option Addr} {l : List Int} (h : Has w a l) (hb : Below w.heap.size w w') : Has w' a l := fun h0 => by
  obtain ⟨b, o, e, hi⟩ := h h0
  exact ⟨b, o, e, hi.later hb⟩
structure Rws (w : World) (b off : Nat) (A : Nat → Option Addr) (C : Nat → Nat) (H : List (List Int)) : Prop where
  lt : b < w.heap.size
  cell : ∀ i, i < H.length → w.cell? ⟨b, off + i, none⟩ = some (.slice (A i) (row H i).length (C i))
  row : ∀ i, i < H.length → Has w (A i) (row H i)
theorem Rws.later {w w' : World} {b off : Nat} {A : Nat → Option Addr} {C : Nat → Nat} {H : List (List Int)} (h : Rws w b off A C H) (hb : Below w.heap.size w w') : Rws w' b off A C H :=
  ⟨Nat.lt_of_lt_of_le h.lt hb.size, fun j hj => (hb.cell (p := ⟨b, off + j, none⟩) h.lt).trans (h.cell j hj), fun j hj => (h.row j hj).later hb⟩
def HasRws (w : World) (a : Option Addr) (A : Nat → Option Addr) (C : Nat → Nat) (H : List (List Int)) : Prop := 0 < H.length → ∃ b o, a = some ⟨b, o, none⟩ ∧ Rws w b o A C H
theorem HasRws.later {w w' : World} {a : Option Addr} {A : Nat → Option Addr} {C : Nat → Nat} {H : List (List Int)} (h : HasRws w a A C H) (hb : Below w.heap.size w w') : HasRws w' a A C H := fun h0 => by
  obtain ⟨b, o, e, hi⟩ := h h0
  exact ⟨b, o, e, hi.later hb⟩
theorem within_any (x m : Int) (w : World) :
    Calls Tryd.prog 53 #[.int .i64 x, .int .i64 0, .int .i64 m] w fun e w' => e = .returned (.bool (!out m x)) ∧ w' = w := by
  rcases (by omega : x < 0 ∨ (0 ≤ x ∧ m < x) ∨ (0 ≤ x ∧ x ≤ m)) with h | ⟨h, h'⟩ | ⟨h, h'⟩
  · rw [out_neg (m := m) h]
    go_enter Tryd.func53, Tryd.ntmps53
    go_wp2
    go_returns
    exact ⟨ret_bool (by simp; try omega), rfl⟩
  · rw [out_big h']
    go_enter Tryd.func53, Tryd.ntmps53
    go_wp2
    go_returns
    exact ⟨ret_bool (by simp; try omega), rfl⟩
  · rw [out_in h h']
    go_enter Tryd.func53, Tryd.ntmps53
    go_wp2
    go_returns
    exact ⟨ret_bool (by simp; try omega), rfl⟩
theorem outside_pred (m : Int) (B : Nat) (w : World) (hB : B < w.heap.size) (hc : w.cell? ⟨B, 0, none⟩ = some (.int .i64 m)) :
    PredAt Tryd.prog 52 #[.pointer (some ⟨B, 0, none⟩)] (fun x : Int => .int .i64 x) (out m) w := fun W x hb => by
  have hc' : W.cell? ⟨B, 0, none⟩ = some (.int .i64 m) := (hb.cell (p := ⟨B, 0, none⟩) hB).trans hc
  have K := within_any x m
  generalize out m x = r at *
  unfold FnGives
  go_enter Tryd.func52, Tryd.ntmps52
  go_wp2_with fail
  ((with_reducible refine (K _).mono ?_); rintro e w1 ⟨rfl, rfl⟩)
  go_wp2
  go_ret
  exact ⟨by simp, 0, rfl⟩
theorem outside_any (m : Int) (w : World) :
    Calls Tryd.prog 31 #[.int .i64 m] w fun e w' => e = .returned (.func (.func 52) #[] #[.pointer (some ⟨w.heap.size, 0, none⟩)]) ∧ w'.heap.size = w.heap.size + 1 ∧ w'.cell? ⟨w.heap.size, 0, none⟩ = some (.int .i64 m) ∧ Below w.heap.size w w' := by
  go_enter Tryd.func31, Tryd.ntmps31
  go_wp2
  go_ret
  exact ⟨rfl, by simp, by simp [go_sem], by go_grown⟩
theorem ix_default (l : List Int) (j : Nat) : l[j]! = ix l j := by unfold ix; rfl
theorem anyOut_call (m : Int) (l : List Int) (a : Option Addr) (c B : Nat) (hl : l.length ≤ 9223372036854775807) (w : World) (h : Has w a l) (hB : B < w.heap.size) (hc : w.cell? ⟨B, 0, none⟩ = some (.int .i64 m)) :
    Calls Tryd.prog 30 #[.slice a l.length c, .func (.func 52) #[] #[.pointer (some ⟨B, 0, none⟩)]] w fun e w' => e = .returned (.bool (anyOut m l)) ∧ Below w.heap.size w w' := by
  by_cases h0 : 0 < l.length
  · obtain ⟨b, o, rfl, hi⟩ := h h0
    refine (Tryd.slices_ContainsFunc_f30 (fun x : Int => .int .i64 x) (out m) _ _ (enters_of Tryd.func52 (by kernel_rfl) rfl) b o l.length c l w (outside_pred m B w hB hc) (Nat.le_refl _) hl (fun j hj => by rw [hi.cell j hj, ix_default])).mono ?_
    rintro e w' ⟨rfl, q, rfl⟩
    exact ⟨by unfold anyOut; rw [List.take_length], below_drewN' (Below.refl _ w) q⟩
  · have e0 : l = [] := List.length_eq_zero_iff.1 (by omega)
    subst e0
    refine (Tryd.slices_ContainsFunc_empty_f30 (α := Int) a c _ w).mono ?_
    rintro e w' ⟨rfl, rfl⟩
    exact ⟨by unfold anyOut; rfl, Below.refl _ _⟩
set_option maxHeartbeats 1000000 in
theorem ascending_any (l : List Int) (a : Option Addr) (c : Nat) (hl : l.length ≤ 1000000) (w : World) (h : Has w a l) :
    Calls Tryd.prog 33 #[.slice a l.length c] w fun e w' => e = .returned (.bool (asc l)) ∧ Below w.heap.size w w' := by
  by_cases h0 : 0 < l.length
  · obtain ⟨b, o, rfl, hi⟩ := h h0
    have hcl := Lib.hid hi.cell
    have hlt := hi.lt
    clear hi h
    generalize hn : l.length = n at *
    have HN := Lib.hid hn
    clear hn
    go_enter Tryd.func33, Tryd.ntmps33
    go_wp2
    go_loopw [3] (fun i wr => ∃ k : Nat, 1 ≤ k ∧ k ≤ n ∧ i = .int .i64 (k : Int) ∧ Hid (ascTo l (k - 1) = true) ∧ Hid (Below w.heap.size w wr)) (fun i _ => n - (intOf i).toNat)
    case atStart => exact ⟨1, by omega, by omega, rfl, Lib.hid (ascTo_zero l), Lib.hid (by go_grown)⟩
    case round =>
      obtain ⟨k, hk1, hk, rfl, hA, hW⟩ := hrel
      obtain ⟨k, rfl⟩ : ∃ j, k = j + 1 := ⟨k - 1, by omega⟩
      by_cases hlt2 : k + 1 < n
      · have c1 : wr.cell? ⟨b, o + k, none⟩ = some (.int .i64 (ix l k)) := (hW.out.cell (p := ⟨b, o + k, none⟩) hlt).trans (hcl.out k (by omega))
        have c2 : wr.cell? ⟨b, o + (k + 1), none⟩ = some (.int .i64 (ix l (k + 1))) := (hW.out.cell (p := ⟨b, o + (k + 1), none⟩) hlt).trans (hcl.out (k + 1) hlt2)
        have H1 : ix l (k + 1) ≤ ix l k → false = asc l := fun h => (asc_not (by rw [HN.out]; exact hlt2) h).symm
        have h1 := Lib.hid H1
        have H2 : ix l k < ix l (k + 1) → ascTo l (k + 1) = true := fun h => by rw [ascTo_succ, show ascTo l k = true from hA.out]; simpa using h
        have h2 := Lib.hid H2
        clear H1 H2
        generalize ix l k = x at *
        generalize ix l (k + 1) = y at *
        go_wp2
        go_region
        go_wp2
        · go_returns
          exact ⟨ret_bool (h1.out (by assumption)), by have := hW.out; (repeat' first | (with_reducible first | exact Bq0 | assumption | refine Bq1 ?_ | refine Bq2 ?_ | refine Bq3 ?_ ?_ | refine Bq4 ?_ (by assumption)) | go_size)⟩
        · go_roundw
          case rel => exact ⟨k + 1 + 1, by omega, by omega, by go_num, Lib.hid (h2.out (by assumption)), Lib.hid (by have := hW.out; (repeat' first | (with_reducible first | exact Bq0 | assumption | refine Bq1 ?_ | refine Bq2 ?_ | refine Bq3 ?_ ?_ | refine Bq4 ?_ (by assumption)) | go_size))⟩
          case measure => simp [intOf]; omega
      · have e1 : k + 1 = n := by omega
        have hA' : ascTo l k = true := hA.out
        go_wp2
        go_returns
        exact ⟨ret_bool (asc_all (by rw [HN.out, ← e1]; exact hA')).symm, hW.out⟩
  · have e0 : l = [] := List.length_eq_zero_iff.1 (by omega)
    subst e0
    have h1 : asc [] = true := by unfold asc ascTo; rfl
    rw [h1]
    go_enter Tryd.func33, Tryd.ntmps33
    go_wp2
    go_loopw [3] (fun i wr => i = .int .i64 1 ∧ wr = w) (fun i _ => 0)
    case atStart => exact ⟨rfl, rfl⟩
    case round =>
      obtain ⟨rfl, rfl⟩ := hrel
      go_wp2
      go_returns
      exact ⟨rfl, by go_grown⟩
set_option maxHeartbeats 1000000 in
theorem max_any (l : List Int) (b o c : Nat) (h0 : 0 < l.length) (hl : l.length ≤ 1000000) (w : World) (hi : Ints w b o l) :
    Calls Tryd.prog 32 #[.slice (some ⟨b, o, none⟩) l.length c] w fun e w' => e = .returned (.int .i64 (maxTo l (l.length - 1))) ∧ Below w.heap.size w w' := by
  have hcl := Lib.hid hi.cell
  have c0 : w.cell? ⟨b, o, none⟩ = some (.int .i64 (ix l 0)) := hi.first h0
  have hlt := hi.lt
  clear hi
  generalize hn : l.length = n at *
  clear hn
  go_enter Tryd.func32, Tryd.ntmps32
  go_wp2
  go_loopw [3, 4] (fun m i wr => ∃ k : Nat, k + 1 ≤ n ∧ i = .int .i64 ((k : Int) + 1) ∧ m = .int .i64 (maxTo l k) ∧ wr = w) (fun _ i _ => n - (intOf i).toNat)
  case atStart => exact ⟨0, by omega, rfl, by rw [maxTo_zero], rfl⟩
  case round =>
    obtain ⟨k, hk, rfl, rfl, rfl⟩ := hrel
    by_cases hlt2 : k + 1 < n
    · have c1 : wr.cell? ⟨b, o + (k + 1), none⟩ = some (.int .i64 (ix l (k + 1))) := hcl.out (k + 1) hlt2
      go_wp2
      go_roundw
      case rel => exact ⟨k + 1, by omega, by go_num, by rw [maxTo_succ], by first | rfl | trivial⟩
      case measure => simp [intOf]; omega
    · have e1 : k = n - 1 := by omega
      go_wp2
      go_returns
      exact ⟨ret_int (by first | rfl | rw [e1]), by go_grown⟩
end Go.Proofs.YthikaimhmpenhaaDoor

namespace Go.Proofs.YthikaimhmpenhaaDoor
set_option linter.all false
open Go Go.RowKit Wd
set_option maxRecDepth 100000
theorem Ints.kp {w x : World} {b off : Nat} {l : List Int} (h : Ints w b off l) (k : Kp w.heap.size [] w x) : Ints x b off l :=
  ⟨Nat.lt_of_lt_of_le h.lt k.size, fun j hj => (k.cell _ _ h.lt (by simp)).trans (h.cell j hj)⟩
theorem Has.kp {w x : World} {a : Option Addr} {l : List Int} (h : Has w a l) (k : Kp w.heap.size [] w x) : Has x a l := fun h0 => by
  obtain ⟨b, o, e, hi⟩ := h h0
  exact ⟨b, o, e, hi.kp k⟩
theorem Rws.kp {w x : World} {b off : Nat} {A : Nat → Option Addr} {C : Nat → Nat} {H : List (List Int)} (h : Rws w b off A C H) (k : Kp w.heap.size [] w x) : Rws x b off A C H :=
  ⟨Nat.lt_of_lt_of_le h.lt k.size, fun j hj => (k.cell _ _ h.lt (by simp)).trans (h.cell j hj), fun j hj => (h.row j hj).kp k⟩
theorem HasRws.kp {w x : World} {a : Option Addr} {A : Nat → Option Addr} {C : Nat → Nat} {H : List (List Int)} (h : HasRws w a A C H) (k : Kp w.heap.size [] w x) : HasRws x a A C H := fun h0 => by
  obtain ⟨b, o, e, hi⟩ := h h0
  exact ⟨b, o, e, hi.kp k⟩
structure Frm (w : World) (ax az ah : Option Addr) (A : Nat → Option Addr) (C : Nat → Nat) (X Z : List Int) (H : List (List Int)) : Prop where
  x : Has w ax X
  z : Has w az Z
  h : HasRws w ah A C H
theorem Frm.later {w w' : World} {ax az ah : Option Addr} {A : Nat → Option Addr} {C : Nat → Nat} {X Z : List Int} {H : List (List Int)} (h : Frm w ax az ah A C X Z H) (hb : Below w.heap.size w w') : Frm w' ax az ah A C X Z H := ⟨h.x.later hb, h.z.later hb, h.h.later hb⟩
theorem Frm.kp {w w' : World} {ax az ah : Option Addr} {A : Nat → Option Addr} {C : Nat → Nat} {X Z : List Int} {H : List (List Int)} (h : Frm w ax az ah A C X Z H) (hb : Kp w.heap.size [] w w') : Frm w' ax az ah A C X Z H := ⟨h.x.kp hb, h.z.kp hb, h.h.kp hb⟩
theorem Below.kp {w x : World} (h : Below w.heap.size w x) : Kp w.heap.size [] w x := (Kp.refl (Nat.le_refl _)).later h
instance : Inhabited (Option Addr × Nat × Nat) := ⟨(none, 0, 0)⟩
theorem rowlen_pred (m : Nat) (az : Option Addr) (cz B : Nat) (w : World) (hB : B < w.heap.size) (hc : w.cell? ⟨B, 1, none⟩ = some (.slice az m cz)) :
    PredAt Tryd.prog 29 #[.pointer (some ⟨B, 0, none⟩)] (fun t : Option Addr × Nat × Nat => .slice t.1 t.2.1 t.2.2) (fun t => !decide (t.2.1 = m)) w := fun W x hb => by
  obtain ⟨a, n, c⟩ := x
  have hc' : W.cell? ⟨B, 1, none⟩ = some (.slice az m cz) := (hb.cell (p := ⟨B, 1, none⟩) hB).trans hc
  unfold FnGives
  by_cases h : n = m
  · subst h
    go_enter Tryd.func29, Tryd.ntmps29
    go_wp2
    go_returns
    exact ⟨ret_bool (by simp), 0, rfl⟩
  · have h' : ¬ (n : Int) = (m : Int) := by omega
    go_enter Tryd.func29, Tryd.ntmps29
    go_wp2
    go_returns
    exact ⟨ret_bool (by simp [h]; omega), 0, rfl⟩
theorem badRows_call (m : Nat) (az : Option Addr) (cz B : Nat) (H : List (List Int)) (a : Option Addr) (A : Nat → Option Addr) (C : Nat → Nat) (c : Nat) (hl : H.length ≤ 9223372036854775807) (w : World) (h : HasRws w a A C H) (hB : B < w.heap.size) (hc : w.cell? ⟨B, 1, none⟩ = some (.slice az m cz)) :
    Calls Tryd.prog 28 #[.slice a H.length c, .func (.func 29) #[] #[.pointer (some ⟨B, 0, none⟩)]] w fun e w' => e = .returned (.bool (badRows m H)) ∧ Below w.heap.size w w' := by
  by_cases h0 : 0 < H.length
  · obtain ⟨b, o, rfl, hi⟩ := h h0
    have hlen : ((List.range H.length).map fun i => (A i, (row H i).length, C i)).length = H.length := by simp
    refine (Tryd.slices_ContainsFunc_f28 (fun t : Option Addr × Nat × Nat => .slice t.1 t.2.1 t.2.2) (fun t => !decide (t.2.1 = m)) _ _ (enters_of Tryd.func29 (by kernel_rfl) rfl) b o H.length c ((List.range H.length).map fun i => (A i, (row H i).length, C i)) w (rowlen_pred m az cz B w hB hc) (by rw [hlen]; exact Nat.le_refl _) hl (fun j hj => ?_)).mono ?_
    · rw [hlen] at hj
      rw [hi.cell j hj, getElem!_pos _ j (by rw [hlen]; exact hj)]
      simp
    · rintro e w' ⟨rfl, q, rfl⟩
      refine ⟨ret_bool ?_, below_drewN' (Below.refl _ w) q⟩
      rw [List.take_of_length_le (by rw [hlen]; exact Nat.le_refl _)]
      unfold badRows
      rw [Bool.eq_iff_iff, List.any_eq_true, List.any_eq_true]
      constructor
      · rintro ⟨t, ht, h1⟩
        obtain ⟨i, hi2, rfl⟩ := List.mem_map.1 ht
        have hi3 := List.mem_range.1 hi2
        refine ⟨H[i], List.getElem_mem hi3, ?_⟩
        rw [row_get hi3] at h1
        exact h1
      · rintro ⟨l, hl2, h1⟩
        obtain ⟨i, hi3, rfl⟩ := List.mem_iff_getElem.1 hl2
        refine ⟨(A i, (row H i).length, C i), List.mem_map.2 ⟨i, List.mem_range.2 hi3, rfl⟩, ?_⟩
        simp only [row_get hi3]
        exact h1
  · have e0 : H = [] := List.length_eq_zero_iff.1 (by omega)
    subst e0
    refine (Tryd.slices_ContainsFunc_empty_f28 (α := Int) a c _ w).mono ?_
    rintro e w' ⟨rfl, rfl⟩
    exact ⟨by unfold badRows; rfl, Below.refl _ _⟩
end Go.Proofs.YthikaimhmpenhaaDoor

namespace Go.Proofs.YthikaimhmpenhaaDoor
set_option linter.all false
open Go Go.RowKit Wd
set_option maxRecDepth 100000
set_option maxHeartbeats 400000 in
theorem signed_any (s : Bool) (a : Nat) (ha : a < 2 ^ 256) (w : World) :
    Calls Tryd.prog 84 #[.bool s, (.agg #[.int .u64 (wd (a) 0), .int .u64 (wd (a) 1), .int .u64 (wd (a) 2), .int .u64 (wd (a) 3)])] w fun e w' => e = .returned (.agg #[.bool (zs (val s a)), .int .u64 (wd (Int.natAbs (val s a)) 0), .int .u64 (wd (Int.natAbs (val s a)) 1), .int .u64 (wd (Int.natAbs (val s a)) 2), .int .u64 (wd (Int.natAbs (val s a)) 3)]) ∧ Below w.heap.size w w' := by
  have h0 := eq_mag0 a ha
  rw [zs_val s a, abs_val s a]
  clear ha
  go_enter Tryd.func84, Tryd.ntmps84
  cases s
  all_goals go_wp2
  all_goals go_region
  all_goals go_wp2
  all_goals go_returns
  all_goals exact ⟨rfl, by go_grown⟩
set_option maxHeartbeats 1000000 in
theorem compare_any (a b : Nat) (ha : a < 2 ^ 256) (hb : b < 2 ^ 256) (w : World) :
    Calls Tryd.prog 89 #[(.agg #[.int .u64 (wd (a) 0), .int .u64 (wd (a) 1), .int .u64 (wd (a) 2), .int .u64 (wd (a) 3)]), (.agg #[.int .u64 (wd (b) 0), .int .u64 (wd (b) 1), .int .u64 (wd (b) 2), .int .u64 (wd (b) 3)])] w fun e w' => e = .returned (.int .i64 (cmpN a b)) ∧ Below w.heap.size w w' := by
  have Ha := Lib.hid ha
  have Hb := Lib.hid hb
  clear ha hb
  go_enter Tryd.func89, Tryd.ntmps89
  go_wp2
  refine wp_loop_rounds 5 ?_
  rw [rounds_succ]; go_wp2; go_region; go_wp2
  · go_returns; exact ⟨ret_int (by rw [cmp_L3 Ha.out Hb.out (by assumption)]), by go_grown⟩
  go_region; go_wp2
  · go_returns; exact ⟨ret_int (by rw [cmp_G3 Ha.out Hb.out (by assumption) (by assumption)]), by go_grown⟩
  rw [rounds_succ]; go_wp2; go_region; go_wp2
  · go_returns; exact ⟨ret_int (by rw [cmp_L2 Ha.out Hb.out (by assumption) (by assumption) (by assumption)]), by go_grown⟩
  go_region; go_wp2
  · go_returns; exact ⟨ret_int (by rw [cmp_G2 Ha.out Hb.out (by assumption) (by assumption) (by assumption) (by assumption)]), by go_grown⟩
  rw [rounds_succ]; go_wp2; go_region; go_wp2
  · go_returns; exact ⟨ret_int (by rw [cmp_L1 Ha.out Hb.out (by assumption) (by assumption) (by assumption) (by assumption) (by assumption)]), by go_grown⟩
  go_region; go_wp2
  · go_returns; exact ⟨ret_int (by rw [cmp_G1 Ha.out Hb.out (by assumption) (by assumption) (by assumption) (by assumption) (by assumption) (by assumption)]), by go_grown⟩
  rw [rounds_succ]; go_wp2; go_region; go_wp2
  · go_returns; exact ⟨ret_int (by rw [cmp_L0 Ha.out Hb.out (by assumption) (by assumption) (by assumption) (by assumption) (by assumption) (by assumption) (by assumption)]), by go_grown⟩
  go_region; go_wp2
  · go_returns; exact ⟨ret_int (by rw [cmp_G0 Ha.out Hb.out (by assumption) (by assumption) (by assumption) (by assumption) (by assumption) (by assumption) (by assumption) (by assumption)]), by go_grown⟩
  rw [rounds_succ]; go_wp2
  go_returns; exact ⟨ret_int (by rw [cmp_E Ha.out Hb.out (by assumption) (by assumption) (by assumption) (by assumption) (by assumption) (by assumption) (by assumption) (by assumption)]), by go_grown⟩
set_option maxHeartbeats 400000 in
theorem negative_any (s : Bool) (a : Nat) (ha : a < 2 ^ 256) (w : World) :
    Calls Tryd.prog 97 #[(.agg #[.bool (s), .int .u64 (wd (a) 0), .int .u64 (wd (a) 1), .int .u64 (wd (a) 2), .int .u64 (wd (a) 3)])] w fun e w' => e = .returned (.bool (zs (val s a))) ∧ Below w.heap.size w w' := by
  have h0 := eq_mag0 a ha
  rw [zs_val s a]
  clear ha
  cases s
  all_goals go_enter Tryd.func97, Tryd.ntmps97
  all_goals go_wp2
  all_goals go_returns
  all_goals exact ⟨rfl, by go_grown⟩
set_option maxHeartbeats 400000 in
theorem valid_any (s : Bool) (a : Nat) (ha : a < 2 ^ 256) (w : World) :
    Calls Tryd.prog 82 #[(.agg #[.bool (s), .int .u64 (wd (a) 0), .int .u64 (wd (a) 1), .int .u64 (wd (a) 2), .int .u64 (wd (a) 3)])] w fun e w' => e = .returned (.bool (!(s && eqN a 0))) ∧ Below w.heap.size w w' := by
  have h0 := eq_mag0 a ha
  clear ha
  cases s
  all_goals go_enter Tryd.func82, Tryd.ntmps82
  all_goals go_wp2
  all_goals go_returns
  all_goals exact ⟨rfl, by go_grown⟩
set_option maxHeartbeats 400000 in
theorem neg_any (s : Bool) (a : Nat) (ha : a < 2 ^ 256) (w : World) :
    Calls Tryd.prog 83 #[(.agg #[.bool (s), .int .u64 (wd (a) 0), .int .u64 (wd (a) 1), .int .u64 (wd (a) 2), .int .u64 (wd (a) 3)])] w fun e w' => e = .returned (.agg #[.bool (zs (val (!s) a)), .int .u64 (wd (Int.natAbs (val (!s) a)) 0), .int .u64 (wd (Int.natAbs (val (!s) a)) 1), .int .u64 (wd (Int.natAbs (val (!s) a)) 2), .int .u64 (wd (Int.natAbs (val (!s) a)) 3)]) ∧ Below w.heap.size w w' := by
  have Ha := Lib.hid ha
  clear ha
  go_enter Tryd.func83, Tryd.ntmps83
  go_wp2_with fail
  refine (signed_any (!s) a Ha.out _).mono ?_
  rintro e w1 ⟨rfl, hb⟩
  obtain ⟨hc, hf⟩ := bcell hb
  have hz : w.heap.size + 1 < w1.heap.size := by have := hb.size; simp at this; omega
  go_wp2
  refine bodyPost_ret (by simp [results, Tryd.results83, go_sem, hc, hz]; try rfl) rfl ?_
  exact ⟨rfl, by (repeat' first | (with_reducible first | exact Bq0 | assumption | refine Bq1 ?_ | refine Bq2 ?_ | refine Bq3 ?_ ?_ | refine Bq4 ?_ (by assumption)) | go_size)⟩
theorem run_add64_wd (a b k : Nat) (hk : k < 4) (w : World) : (callFunc 93 #[.int .u64 (wd a k), .int .u64 (wd b k), .int .u64 (cr a b k)]).run Tryd.prog w =
      .ok (.value (.tuple #[.int .u64 (wd (sm a b) k), .int .u64 (cr a b (k + 1))])) w := by
  rw [run_callFunc_extern Tryd.func93 (by kernel_rfl) (by kernel_rfl) (by kernel_rfl) (e := add64Entry) (by kernel_rfl)]
  have h := add_wd' a b k hk
  obtain ⟨x, hx, hx', -⟩ := wd_nat a k
  obtain ⟨y, hy, hy', -⟩ := wd_nat b k
  rw [← h.1, ← h.2]
  have hc : ∃ c : Nat, cr a b k = c ∧ c ≤ 1 := by
    rcases cr_bit a b k with h | h
    · exact ⟨0, h, by omega⟩
    · exact ⟨1, h, by omega⟩
  obtain ⟨c, hc, hc'⟩ := hc
  rw [hx, hy, hc, run_add64 x y c (by omega) (by omega) (by omega) (by omega)]
  simp only [Result.andThen]
theorem run_add64_z (a b : Nat) (w : World) : (callFunc 93 #[.int .u64 (wd a 0), .int .u64 (wd b 0), .int .u64 0]).run Tryd.prog w =
      .ok (.value (.tuple #[.int .u64 (wd (sm a b) 0), .int .u64 (cr a b 1)])) w := by
  have := run_add64_wd a b 0 (by omega) w
  rwa [cr_zero] at this
theorem run_sub64_wd (a b k : Nat) (hb : b ≤ a + 2 ^ 256) (hk : k < 4) (w : World) : (callFunc 96 #[.int .u64 (wd a k), .int .u64 (wd b k), .int .u64 (br a b k)]).run Tryd.prog w =
      .ok (.value (.tuple #[.int .u64 (wd (df a b) k), .int .u64 (br a b (k + 1))])) w := by
  rw [run_callFunc_extern Tryd.func96 (by kernel_rfl) (by kernel_rfl) (by kernel_rfl) (e := sub64Entry) (by kernel_rfl)]
  have h := sub_wd a b k hb hk
  obtain ⟨x, hx, hx', -⟩ := wd_nat a k
  obtain ⟨y, hy, hy', -⟩ := wd_nat b k
  rw [← h.1, ← h.2]
  have hc : ∃ c : Nat, br a b k = c ∧ c ≤ 1 := by
    rcases br_bit a b k with h | h
    · exact ⟨0, h, by omega⟩
    · exact ⟨1, h, by omega⟩
  obtain ⟨c, hc, hc'⟩ := hc
  rw [hx, hy, hc, run_sub64 x y c hc']
  simp only [Result.andThen]
  have e1 : (((x + 18446744073709551616 - y - c) % 18446744073709551616 : Nat) : Int) = ((x : Int) + 18446744073709551616 - y - c) % 18446744073709551616 := by omega
  have e2 : ((if x < y + c then 1 else 0 : Nat) : Int) = if (x : Int) < (y : Int) + c then 1 else 0 := by split <;> split <;> omega
  rw [e1, e2]
theorem run_sub64_z (a b : Nat) (hb : b ≤ a + 2 ^ 256) (w : World) : (callFunc 96 #[.int .u64 (wd a 0), .int .u64 (wd b 0), .int .u64 0]).run Tryd.prog w =
      .ok (.value (.tuple #[.int .u64 (wd (df a b) 0), .int .u64 (br a b 1)])) w := by
  have := run_sub64_wd a b 0 hb (by omega) w
  rwa [br_zero] at this
set_option maxHeartbeats 400000 in
theorem plus_any (a b : Nat) (w : World) :
    Calls Tryd.prog 87 #[(.agg #[.int .u64 (wd (a) 0), .int .u64 (wd (a) 1), .int .u64 (wd (a) 2), .int .u64 (wd (a) 3)]), (.agg #[.int .u64 (wd (b) 0), .int .u64 (wd (b) 1), .int .u64 (wd (b) 2), .int .u64 (wd (b) 3)])] w fun e w' => e = .returned (.tuple #[(.agg #[.int .u64 (wd (sm a b) 0), .int .u64 (wd (sm a b) 1), .int .u64 (wd (sm a b) 2), .int .u64 (wd (sm a b) 3)]), .int .u64 (cr a b 4)]) ∧ Below w.heap.size w w' := by
  have h0 := run_add64_z a b
  have h1 := run_add64_wd a b 1 (by omega)
  have h2 := run_add64_wd a b 2 (by omega)
  have h3 := run_add64_wd a b 3 (by omega)
  go_enter Tryd.func87, Tryd.ntmps87
  go_wp2
  refine wp_loop_rounds 5 ?_
  iterate 4 (rw [rounds_succ]; go_wp2; go_region; go_wp2)
  rw [rounds_succ]
  go_wp2
  go_returns
  exact ⟨rfl, by go_grown⟩
set_option maxHeartbeats 400000 in
theorem minus_any (a b : Nat) (hb : b ≤ a + 2 ^ 256) (w : World) :
    Calls Tryd.prog 90 #[(.agg #[.int .u64 (wd (a) 0), .int .u64 (wd (a) 1), .int .u64 (wd (a) 2), .int .u64 (wd (a) 3)]), (.agg #[.int .u64 (wd (b) 0), .int .u64 (wd (b) 1), .int .u64 (wd (b) 2), .int .u64 (wd (b) 3)])] w fun e w' => e = .returned (.tuple #[(.agg #[.int .u64 (wd (df a b) 0), .int .u64 (wd (df a b) 1), .int .u64 (wd (df a b) 2), .int .u64 (wd (df a b) 3)]), .int .u64 (br a b 4)]) ∧ Below w.heap.size w w' := by
  have h0 := run_sub64_z a b hb
  have h1 := run_sub64_wd a b 1 hb (by omega)
  have h2 := run_sub64_wd a b 2 hb (by omega)
  have h3 := run_sub64_wd a b 3 hb (by omega)
  clear hb
  go_enter Tryd.func90, Tryd.ntmps90
  go_wp2
  refine wp_loop_rounds 5 ?_
  iterate 4 (rw [rounds_succ]; go_wp2; go_region; go_wp2)
  rw [rounds_succ]
  go_wp2
  go_returns
  exact ⟨rfl, by go_grown⟩
end Go.Proofs.YthikaimhmpenhaaDoor
