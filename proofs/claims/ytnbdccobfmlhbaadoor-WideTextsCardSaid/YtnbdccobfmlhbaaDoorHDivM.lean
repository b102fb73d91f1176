/-
  Plain arithmetic of a division bit by bit over half-words; no program in sight.
-/
import Derived.Test.YtnbdccobfmlhbaaDoorHMulM
import Derived.Test.YtnbdccobfmlhbaaDoorDivM
namespace Go.Proofs.YtnbdccobfmlhbaaDoor.Wd
set_option linter.all false
/-- bit n is set in a multiple of 2^(n+1) -/
theorem hset_bit {Q n h : Nat} (hQ : Q = h * 2 ^ (n + 1)) : seth Q (n / 32) (hn Q (n / 32) + 2 ^ (n % 32)) = Q + 2 ^ n ∧ hn Q (n / 32) + 2 ^ (n % 32) < 4294967296 := by
  have hm : n % 32 < 32 := Nat.mod_lt _ (by omega)
  have hn : n = 32 * (n / 32) + n % 32 := (Nat.div_add_mod n 32).symm
  generalize n % 32 = m at *
  generalize n / 32 = q at *
  subst hn
  have hw : hn Q q = 2 ^ (m + 1) * (h % 2 ^ (31 - m)) := by
    unfold hn
    rw [hQ, show 32 * q + m + 1 = (m + 1) + 32 * q by omega, Nat.pow_add, ← Nat.mul_assoc, Nat.mul_div_cancel _ (Nat.pow_pos (by omega))]
    have e : 4294967296 = 2 ^ (m + 1) * 2 ^ (31 - m) := by rw [← Nat.pow_add, show m + 1 + (31 - m) = 32 by omega]
    rw [e, Nat.mul_comm h, Nat.mul_mod_mul_left]
  have hp := Nat.pow_pos (n := m) (by omega : 0 < 2)
  have hl : hn Q q + 2 ^ m < 4294967296 := by
    have h1 : h % 2 ^ (31 - m) + 1 ≤ 2 ^ (31 - m) := Nat.mod_lt _ (Nat.pow_pos (by omega))
    have h2 := Nat.mul_le_mul_left (2 ^ (m + 1)) h1
    rw [Nat.mul_add, Nat.mul_one, ← Nat.pow_add, show m + 1 + (31 - m) = 32 by omega] at h2
    rw [hw]
    have h3 : 2 ^ (m + 1) = 2 * 2 ^ m := by rw [Nat.pow_succ]; omega
    have h4 : (2 : Nat) ^ 32 = 4294967296 := rfl
    omega
  refine ⟨?_, hl⟩
  · have hs := hsplit_at Q q
    conv => rhs; rw [hs]
    unfold seth
    rw [Nat.pow_add]
    generalize Q / 2 ^ (32 * q) / 4294967296 = H
    generalize Q % 2 ^ (32 * q) = L
    generalize 2 ^ (32 * q) = p
    generalize 2 ^ m = y
    generalize hn Q q = x
    have e : p * (x + y + 4294967296 * H) = p * (x + 4294967296 * H) + p * y := by
      rw [← Nat.mul_add]; exact congrArg (p * ·) (by omega)
    rw [e]; omega
theorem DivInv.hbit {a b n Q R : Nat} (h : DivInv a b (n + 1) Q R) : seth Q (n / 32) (hn Q (n / 32) + 2 ^ (n % 32)) = Q + 2 ^ n ∧ hn Q (n / 32) + 2 ^ (n % 32) < 4294967296 := by
  unfold DivInv at h
  exact hset_bit h.1
theorem tw_low {R c : Nat} (hc : c ≤ 1) : hw (tw R c) 0 = hw (sm R R) 0 + c := by
  unfold tw sm
  rw [hw_mod _ _ (by omega), hw_mod _ _ (by omega), hw0, hw0]
  omega
theorem tw_high {R c i : Nat} (hc : c ≤ 1) (hi : 0 < i) (h8 : i < 8) : hw (tw R c) i = hw (sm R R) i := by
  unfold tw sm
  rw [hw_mod _ _ h8, hw_mod _ _ h8]
  unfold hw
  obtain ⟨m, hm⟩ : ∃ m, 32 * i = m + 1 := ⟨32 * i - 1, by omega⟩
  have e : 2 ^ (32 * i) = 2 * 2 ^ m := by rw [hm, Nat.pow_succ, Nat.mul_comm]
  rw [e, ← Nat.div_div_eq_div_mul, ← Nat.div_div_eq_div_mul, show (2 * R + c) / 2 = R by omega, show (R + R) / 2 = R by omega]
/-- the bit of a number by its half-word -/
theorem hbit_at (a n : Nat) : hn a (n / 32) / 2 ^ (n % 32) % 2 = bitN a n := by
  unfold bitN hn
  have hm : n % 32 < 32 := Nat.mod_lt _ (by omega)
  have hn : n = 32 * (n / 32) + n % 32 := (Nat.div_add_mod n 32).symm
  generalize n % 32 = m at *
  generalize n / 32 = q at *
  subst hn
  rw [Nat.pow_add, ← Nat.div_div_eq_div_mul]
  generalize a / 2 ^ (32 * q) = x
  have e2 : 4294967296 = 2 ^ m * (2 * 2 ^ (31 - m)) := by
    rw [← Nat.mul_assoc, Nat.mul_comm (2 ^ m) 2, Nat.mul_assoc, ← Nat.pow_add, show m + (31 - m) = 31 by omega]
  rw [e2, Nat.mod_mul_right_div_self, Nat.mod_mul_right_mod]
/-- one bit at its place in a half-word, and what a half-word is by it -/
@[irreducible] def pw2 (n : Nat) : Nat := 2 ^ (n % 32)
@[irreducible] def dq (a n : Nat) : Nat := hn a (n / 32) / pw2 n
theorem pw2_pos (n : Nat) : ¬ pw2 n = 0 := by unfold pw2; have := Nat.pow_pos (n := n % 32) (by omega : 0 < 2); omega
theorem pw2_lt (n : Nat) : pw2 n < 4294967296 := by
  unfold pw2
  have : n % 32 < 32 := Nat.mod_lt _ (by omega)
  exact Nat.pow_lt_pow_right (by omega) this
theorem dq_lt (a n : Nat) : dq a n < 4294967296 := by unfold dq; exact Nat.lt_of_le_of_lt (Nat.div_le_self _ _) (hn_lt _ _)
theorem dq_bit (a n : Nat) : dq a n % 2 = bitN a n := by unfold dq pw2; exact hbit_at a n
theorem dq_wrap (a n : Nat) : IntKind.u64.wrap (hw a (n / 32) / (pw2 n : Int)) = (dq a n : Int) := by
  have h := dq_lt a n
  rw [hw_hn, ← Int.natCast_ediv]
  unfold dq at *
  rw [IntKind.wrap_u64]
  generalize hn a (n / 32) / pw2 n = q at *
  omega
/-- where the double with a bit lies -/
theorem ref_word {b R c : Nat} (hb : b < 2 ^ 256) (hR : R < b) (hc : c ≤ 1) :
    (2 ^ 256 ≤ R + R ∧ b ≤ 2 * R + c ∧ df (tw R c) b = 2 * R + c - b) ∨ (¬ 2 ^ 256 ≤ R + R ∧ (cmpN (tw R c) b = 0 ∨ cmpN (tw R c) b = 1) ∧ b ≤ 2 * R + c ∧ df (tw R c) b = 2 * R + c - b) ∨ (¬ 2 ^ 256 ≤ R + R ∧ cmpN (tw R c) b = -1 ∧ 2 * R + c < b ∧ tw R c = 2 * R + c) := by
  have hM : (2 : Nat) ^ 256 = 2 * 2 ^ 255 := by rw [Nat.mul_comm, ← Nat.pow_succ]
  unfold tw df cmpN at *
  generalize 2 ^ 255 = N at *
  generalize 2 ^ 256 = M at *
  subst hM
  by_cases h1 : 2 * N ≤ R + R
  · have e2 : (2 * R + c) % (2 * N) = 2 * R + c - 2 * N := by rw [Nat.mod_eq_sub_mod (by omega), Nat.mod_eq_of_lt (by omega)]
    refine Or.inl ⟨h1, by omega, ?_⟩
    rw [e2, show 2 * R + c - 2 * N + 2 * N - b = 2 * R + c - b by omega, Nat.mod_eq_of_lt (by omega)]
  · have e2 : (2 * R + c) % (2 * N) = 2 * R + c := Nat.mod_eq_of_lt (by omega)
    rw [e2]
    by_cases h2 : 2 * R + c < b
    · exact Or.inr (Or.inr ⟨h1, by rw [if_pos h2], h2, rfl⟩)
    · refine Or.inr (Or.inl ⟨h1, by rw [if_neg h2]; split <;> simp, by omega, ?_⟩)
      rw [show 2 * R + c + 2 * N - b = (2 * R + c - b) + 2 * N by omega, Nat.add_mod_right, Nat.mod_eq_of_lt (by omega)]
end Go.Proofs.YtnbdccobfmlhbaaDoor.Wd
