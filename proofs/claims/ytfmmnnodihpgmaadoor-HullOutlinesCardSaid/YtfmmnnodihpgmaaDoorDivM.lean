/-
  Plain arithmetic of a division bit by bit; no program in sight.
-/
import Derived.Test.YtfmmnnodihpgmaaDoorMulM
namespace Go.Proofs.YtfmmnnodihpgmaaDoor.Wd
set_option linter.all false
/-- Quotient and rest of the bits of a from k on, by b; the quotient at its place. -/
@[irreducible] def DivInv (a b k Q R : Nat) : Prop := Q = a / 2 ^ k / b * 2 ^ k ∧ R = a / 2 ^ k % b
theorem DivInv.start {a b : Nat} (ha : a < 2 ^ 256) : DivInv a b 256 0 0 := by
  unfold DivInv
  rw [Nat.div_eq_of_lt ha]; simp
theorem DivInv.done {a b Q R : Nat} (h : DivInv a b 0 Q R) : Q = a / b ∧ R = a % b := by
  unfold DivInv at h
  simpa using h
theorem DivInv.rest_lt {a b k Q R : Nat} (hb : 0 < b) (h : DivInv a b k Q R) : R < b := by
  unfold DivInv at h
  rw [h.2]; exact Nat.mod_lt _ hb
theorem half_split (a n : Nat) : a / 2 ^ n = 2 * (a / 2 ^ (n + 1)) + bitN a n := by
  unfold bitN
  rw [Nat.pow_succ, ← Nat.div_div_eq_div_mul]; omega
theorem div_twice {x b c R : Nat} (hb : 0 < b) (hR : R = x % b) (h : b ≤ 2 * R + c) (hc : c ≤ 1) : (2 * x + c) / b = 2 * (x / b) + 1 ∧ (2 * x + c) % b = 2 * R + c - b := by
  have e := Nat.div_add_mod x b
  have hr := Nat.mod_lt x hb
  have e2 : 2 * x + c = (2 * R + c - b) + b * (2 * (x / b) + 1) := by
    rw [Nat.mul_add, Nat.mul_one, Nat.mul_left_comm]; omega
  have hl : 2 * R + c - b < b := by omega
  rw [e2]
  exact ⟨by rw [Nat.add_mul_div_left _ _ hb, Nat.div_eq_of_lt hl]; omega, by rw [Nat.add_mul_mod_self_left, Nat.mod_eq_of_lt hl]⟩
theorem div_twice' {x b c R : Nat} (hb : 0 < b) (hR : R = x % b) (h : 2 * R + c < b) : (2 * x + c) / b = 2 * (x / b) ∧ (2 * x + c) % b = 2 * R + c := by
  have e := Nat.div_add_mod x b
  have e2 : 2 * x + c = (2 * R + c) + b * (2 * (x / b)) := by
    rw [Nat.mul_left_comm]; omega
  rw [e2]
  exact ⟨by rw [Nat.add_mul_div_left _ _ hb, Nat.div_eq_of_lt h]; omega, by rw [Nat.add_mul_mod_self_left, Nat.mod_eq_of_lt h]⟩
theorem DivInv.next_no {a b n Q R : Nat} (hb : 0 < b) (h : DivInv a b (n + 1) Q R) (hT : 2 * R + bitN a n < b) : DivInv a b n Q (2 * R + bitN a n) := by
  unfold DivInv at *
  have h2 := div_twice' hb h.2 hT
  rw [half_split a n, h2.1, h2.2, h.1]
  exact ⟨by rw [Nat.pow_succ]; simp only [Nat.mul_comm, Nat.mul_left_comm, Nat.mul_assoc], rfl⟩
theorem DivInv.next_yes {a b n Q R : Nat} (hb : 0 < b) (h : DivInv a b (n + 1) Q R) (hT : b ≤ 2 * R + bitN a n) : DivInv a b n (Q + 2 ^ n) (2 * R + bitN a n - b) := by
  unfold DivInv at *
  have h2 := div_twice hb h.2 hT (bitN_le a n)
  rw [half_split a n, h2.1, h2.2, h.1]
  exact ⟨by rw [Nat.add_mul, Nat.pow_succ]; simp only [Nat.mul_comm, Nat.mul_left_comm, Nat.mul_assoc, Nat.one_mul, Nat.mul_one], rfl⟩
/-- what the program makes of it: the double in four words, the bit that is lost, the difference, the borrow -/
theorem div_word {b R c : Nat} (hb : b < 2 ^ 256) (hR : R < b) (hc : c ≤ 1) :
    (twLost R c = 1 ∧ b ≤ 2 * R + c ∧ df (tw R c) b = 2 * R + c - b) ∨ (twLost R c = 0 ∧ br (tw R c) b 4 = 0 ∧ b ≤ 2 * R + c ∧ df (tw R c) b = 2 * R + c - b) ∨ (twLost R c = 0 ∧ br (tw R c) b 4 = 1 ∧ 2 * R + c < b ∧ tw R c = 2 * R + c) := by
  have h0 : tw R c < 2 ^ 256 := by unfold tw; exact Nat.mod_lt _ (Nat.pow_pos (by omega))
  rw [br_four h0 hb]
  unfold twLost tw df at *
  generalize 2 ^ 256 = M at *
  by_cases h1 : M ≤ 2 * R + c
  · have e1 : (2 * R + c) / M = 1 := Nat.div_eq_of_lt_le (by omega) (by omega)
    have e2 : (2 * R + c) % M = 2 * R + c - M := by rw [Nat.mod_eq_sub_mod h1, Nat.mod_eq_of_lt (by omega)]
    refine Or.inl ⟨e1, by omega, ?_⟩
    rw [e2, show 2 * R + c - M + M - b = 2 * R + c - b by omega, Nat.mod_eq_of_lt (by omega)]
  · have e1 : (2 * R + c) / M = 0 := Nat.div_eq_of_lt (by omega)
    have e2 : (2 * R + c) % M = 2 * R + c := Nat.mod_eq_of_lt (by omega)
    rw [e1, e2]
    by_cases h2 : 2 * R + c < b
    · exact Or.inr (Or.inr ⟨rfl, by rw [if_pos h2], h2, rfl⟩)
    · refine Or.inr (Or.inl ⟨rfl, by rw [if_neg h2], by omega, ?_⟩)
      rw [show 2 * R + c + M - b = (2 * R + c - b) + M by omega, Nat.add_mod_right, Nat.mod_eq_of_lt (by omega)]
theorem tw_lt (a c : Nat) : tw a c < 2 ^ 256 := by unfold tw; exact Nat.mod_lt _ (Nat.pow_pos (by omega))
/-- bit n is set in a multiple of 2^(n+1) -/
theorem set_bit {Q n h : Nat} (hQ : Q = h * 2 ^ (n + 1)) : setw Q (n / 64) (wn Q (n / 64) + 2 ^ (n % 64)) = Q + 2 ^ n ∧ bits .or .u64 (wd Q (n / 64)) ((2 ^ (n % 64) : Nat) : Int) = ((wn Q (n / 64) + 2 ^ (n % 64) : Nat) : Int) ∧ wn Q (n / 64) + 2 ^ (n % 64) < 18446744073709551616 := by
  have hm : n % 64 < 64 := Nat.mod_lt _ (by omega)
  have hn : n = 64 * (n / 64) + n % 64 := (Nat.div_add_mod n 64).symm
  generalize n % 64 = m at *
  generalize n / 64 = q at *
  subst hn
  have hw : wn Q q = 2 ^ (m + 1) * (h % 2 ^ (63 - m)) := by
    unfold wn
    rw [hQ, show 64 * q + m + 1 = (m + 1) + 64 * q by omega, Nat.pow_add, ← Nat.mul_assoc, Nat.mul_div_cancel _ (Nat.pow_pos (by omega))]
    have e : 18446744073709551616 = 2 ^ (m + 1) * 2 ^ (63 - m) := by rw [← Nat.pow_add, show m + 1 + (63 - m) = 64 by omega]
    rw [e, Nat.mul_comm h, Nat.mul_mod_mul_left]
  have hp := Nat.pow_pos (n := m) (by omega : 0 < 2)
  have hl : wn Q q + 2 ^ m < 18446744073709551616 := by
    have h1 : h % 2 ^ (63 - m) + 1 ≤ 2 ^ (63 - m) := Nat.mod_lt _ (Nat.pow_pos (by omega))
    have h2 := Nat.mul_le_mul_left (2 ^ (m + 1)) h1
    rw [Nat.mul_add, Nat.mul_one, ← Nat.pow_add, show m + 1 + (63 - m) = 64 by omega] at h2
    rw [hw]
    have h3 : 2 ^ (m + 1) = 2 * 2 ^ m := by rw [Nat.pow_succ]; omega
    have h4 : (2 : Nat) ^ 64 = 18446744073709551616 := rfl
    omega
  refine ⟨?_, ?_, hl⟩
  · have hs := split_at Q q
    conv => rhs; rw [hs]
    unfold setw
    rw [Nat.pow_add]
    generalize Q / 2 ^ (64 * q) / 18446744073709551616 = H
    generalize Q % 2 ^ (64 * q) = L
    generalize 2 ^ (64 * q) = p
    generalize 2 ^ m = y
    generalize wn Q q = x
    have e : p * (x + y + 18446744073709551616 * H) = p * (x + 18446744073709551616 * H) + p * y := by
      rw [← Nat.mul_add]; exact congrArg (p * ·) (by omega)
    rw [e]; omega
  · rw [wd_wn, u64_or_nat _ _ (by omega) (by omega)]
    rw [nat_join (m + 1) _ _ (by rw [hw]; exact Nat.mul_mod_right _ _) (by rw [Nat.pow_succ]; omega)]
theorem DivInv.bit {a b n Q R : Nat} (h : DivInv a b (n + 1) Q R) : setw Q (n / 64) (wn Q (n / 64) + 2 ^ (n % 64)) = Q + 2 ^ n ∧ bits .or .u64 (wd Q (n / 64)) (IntKind.u64.wrap (2 ^ (n % 64))) = ((wn Q (n / 64) + 2 ^ (n % 64) : Nat) : Int) ∧ wn Q (n / 64) + 2 ^ (n % 64) < 18446744073709551616 := by
  unfold DivInv at h
  have hs := set_bit h.1
  have hl : 2 ^ (n % 64) < 18446744073709551616 := Nat.lt_of_le_of_lt (Nat.le_add_left _ _) hs.2.2
  have e : IntKind.u64.wrap (2 ^ (n % 64)) = ((2 ^ (n % 64) : Nat) : Int) := by
    rw [IntKind.wrap_u64, show (2 : Int) ^ (n % 64) = ((2 ^ (n % 64) : Nat) : Int) by rw [Int.natCast_pow]; rfl]
    clear hs h
    generalize 2 ^ (n % 64) = y at *
    omega
  rw [e]
  exact hs
end Go.Proofs.YtfmmnnodihpgmaaDoor.Wd
