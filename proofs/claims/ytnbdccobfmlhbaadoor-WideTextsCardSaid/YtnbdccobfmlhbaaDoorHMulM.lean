/-
  Plain arithmetic of the schoolbook product of words, and of setting one word of a number; no program in sight: half-words.
-/
import Derived.Test.YtnbdccobfmlhbaaDoorHalfM
namespace Go.Proofs.YtnbdccobfmlhbaaDoor.Wd
set_option linter.all false
/-- T with the word at place p = 2^(64 s) put to v -/
@[irreducible] def seth (T s v : Nat) : Nat := T % 2 ^ (32 * s) + 2 ^ (32 * s) * (v + 4294967296 * (T / 2 ^ (32 * s) / 4294967296))
/-- word s of T, as a natural number -/
@[irreducible] def hn (T s : Nat) : Nat := T / 2 ^ (32 * s) % 4294967296
theorem hn_lt (T s : Nat) : hn T s < 4294967296 := by unfold hn; exact Nat.mod_lt _ (by omega)
theorem hw_hn (T s : Nat) : hw T s = (hn T s : Int) := by unfold hw hn; rfl
theorem hw_set_same (T s v : Nat) (hv : v < 4294967296) : hw (seth T s v) s = (v : Int) := by
  unfold hw seth
  have hp : 0 < 2 ^ (32 * s) := Nat.pow_pos (by omega)
  generalize 2 ^ (32 * s) = p at *
  rw [Nat.add_mul_div_left _ _ hp, Nat.div_eq_of_lt (Nat.mod_lt _ hp), Nat.zero_add, Nat.add_mul_mod_self_left, Nat.mod_eq_of_lt hv]
theorem hw_set_high (T s v j : Nat) (hv : v < 4294967296) (h : s < j) : hw (seth T s v) j = hw T j := by
  unfold hw seth
  have hp : 0 < 2 ^ (32 * s) := Nat.pow_pos (by omega)
  have e : 2 ^ (32 * j) = 2 ^ (32 * s) * 4294967296 * 2 ^ (32 * (j - s - 1)) := by
    rw [← pow32_next, ← Nat.pow_add]; congr 1; omega
  rw [e]
  generalize 2 ^ (32 * s) = p at *
  generalize 2 ^ (32 * (j - s - 1)) = q
  rw [← Nat.div_div_eq_div_mul, ← Nat.div_div_eq_div_mul, ← Nat.div_div_eq_div_mul, ← Nat.div_div_eq_div_mul]
  rw [Nat.add_mul_div_left _ _ hp, Nat.div_eq_of_lt (Nat.mod_lt _ hp), Nat.zero_add, Nat.add_mul_div_left _ _ (by omega), Nat.div_eq_of_lt hv, Nat.zero_add]
theorem hw_set_low (T s v j : Nat) (h : j < s) : hw (seth T s v) j = hw T j := by
  unfold hw seth
  have hq : 0 < 2 ^ (32 * j) := Nat.pow_pos (by omega)
  have e : 2 ^ (32 * s) = 2 ^ (32 * j) * (4294967296 * 2 ^ (32 * (s - j - 1))) := by
    rw [← Nat.mul_assoc, ← pow32_next, ← Nat.pow_add]; congr 1; omega
  rw [e]
  generalize 2 ^ (32 * j) = q at *
  generalize 2 ^ (32 * (s - j - 1)) = r
  generalize T / (q * (4294967296 * r)) / 4294967296 = H
  have e2 : q * (4294967296 * r) * (v + 4294967296 * H) = q * (4294967296 * (r * (v + 4294967296 * H))) := by
    simp [Nat.mul_assoc]
  rw [e2, Nat.add_mul_div_left _ _ hq, Nat.add_mul_mod_self_left, Nat.mod_mul_right_div_self, Nat.mod_mul_right_mod]
/-- the number's own split at word s -/
theorem hsplit_at (T s : Nat) : T = T % 2 ^ (32 * s) + 2 ^ (32 * s) * (hn T s + 4294967296 * (T / 2 ^ (32 * s) / 4294967296)) := by
  unfold hn
  have h1 := Nat.mod_add_div T (2 ^ (32 * s))
  have h2 := Nat.mod_add_div (T / 2 ^ (32 * s)) 4294967296
  rw [h2, h1]
/-- one step of the schoolbook product: the word at s and the carry take in a product -/
theorem hmul_step (T s xy c : Nat) : seth T s ((xy + hn T s + c) % 4294967296) + ((xy + hn T s + c) / 4294967296) * 2 ^ (32 * (s + 1)) = T + (xy + c) * 2 ^ (32 * s) := by
  have h := hsplit_at T s
  conv => rhs; rw [h]
  unfold seth
  rw [pow32_next]
  generalize 2 ^ (32 * s) = p
  generalize T / p / 4294967296 = H
  generalize T % p = L
  generalize hn T s = t
  have hv := Nat.mod_add_div (xy + t + c) 4294967296
  generalize (xy + t + c) % 4294967296 = v at *
  generalize (xy + t + c) / 4294967296 = d at *
  have e : xy + c = v + 4294967296 * d - t := by omega
  have e1 : d * (p * 4294967296) = p * (4294967296 * d) := by
    rw [Nat.mul_comm d, Nat.mul_assoc]
  have e2 : (xy + c) * p = p * (xy + c) := Nat.mul_comm _ _
  rw [e1, e2, Nat.add_assoc, Nat.add_assoc, ← Nat.mul_add, ← Nat.mul_add]
  congr 2; omega
theorem seth_lt (T s v m : Nat) (hv : v < 4294967296) (hs : s < m) (hT : T < 2 ^ (32 * m)) : seth T s v < 2 ^ (32 * m) := by
  unfold seth
  have e : 2 ^ (32 * m) = 2 ^ (32 * s) * (4294967296 * 2 ^ (32 * (m - s - 1))) := by
    rw [← Nat.mul_assoc, ← pow32_next, ← Nat.pow_add]; congr 1; omega
  rw [e] at hT ⊢
  have hp : 0 < 2 ^ (32 * s) := Nat.pow_pos (by omega)
  generalize 2 ^ (32 * s) = p at *
  generalize 2 ^ (32 * (m - s - 1)) = r at *
  have h1 : T / p / 4294967296 < r := by
    rw [Nat.div_div_eq_div_mul, Nat.div_lt_iff_lt_mul (by omega)]
    rw [Nat.mul_comm r, Nat.mul_assoc]; exact hT
  generalize T / p / 4294967296 = H at *
  have h2 : v + 4294967296 * H + 1 ≤ 4294967296 * r := by
    have := Nat.mul_le_mul_left 4294967296 (by omega : H + 1 ≤ r)
    omega
  have h3 := Nat.mul_le_mul_left p h2
  rw [Nat.mul_add, Nat.mul_one] at h3
  have h4 := Nat.mod_lt T hp
  omega
/-- a word above the number is 0 -/
theorem hn_high (T s : Nat) (hT : T < 2 ^ (32 * s)) : hn T s = 0 := by
  unfold hn; rw [Nat.div_eq_of_lt hT]
theorem seth_high (T s v : Nat) (hT : T < 2 ^ (32 * s)) : seth T s v = T + v * 2 ^ (32 * s) := by
  unfold seth
  rw [Nat.div_eq_of_lt hT, Nat.mod_eq_of_lt hT]; simp [Nat.mul_comm]
theorem hmod_next (b j : Nat) : b % 2 ^ (32 * (j + 1)) = b % 2 ^ (32 * j) + 2 ^ (32 * j) * hn b j := by
  unfold hn; rw [pow32_next, Nat.mod_mul]
theorem hmul_inv {T0 T c x b k j : Nat} (h : T + c * 2 ^ (32 * (k + j)) = T0 + x * (b % 2 ^ (32 * j)) * 2 ^ (32 * k)) :
    seth T (k + j) ((x * hn b j + hn T (k + j) + c) % 4294967296) + (x * hn b j + hn T (k + j) + c) / 4294967296 * 2 ^ (32 * (k + (j + 1))) = T0 + x * (b % 2 ^ (32 * (j + 1))) * 2 ^ (32 * k) := by
  rw [show k + (j + 1) = (k + j) + 1 by omega, hmul_step, hmod_next]
  have e : 2 ^ (32 * (k + j)) = 2 ^ (32 * k) * 2 ^ (32 * j) := by rw [← Nat.pow_add]; congr 1; omega
  rw [e] at h ⊢
  generalize 2 ^ (32 * k) = K at *
  generalize 2 ^ (32 * j) = J at *
  generalize b % J = m at *
  generalize hn b j = y at *
  have e1 : T + (x * y + c) * (K * J) = (T + c * (K * J)) + x * y * (K * J) := by rw [Nat.add_mul]; omega
  have e2 : x * (m + J * y) * K = x * m * K + x * y * (K * J) := by
    rw [Nat.mul_add, Nat.add_mul]
    congr 1
    rw [Nat.mul_comm J y, ← Nat.mul_assoc, Nat.mul_assoc, Nat.mul_comm J K]
  rw [e1, h, e2]; omega
theorem hrow_next {a b k T c : Nat} (hb : b < 2 ^ 256) (hT : T < 2 ^ (32 * (k + 8))) (h : T + c * 2 ^ (32 * (k + 8)) = (a % 2 ^ (32 * k)) * b + hn a k * (b % 2 ^ (32 * 8)) * 2 ^ (32 * k)) :
    seth T (k + 8) c = (a % 2 ^ (32 * (k + 1))) * b := by
  rw [seth_high _ _ _ hT, h, show 32 * 8 = 256 from rfl, Nat.mod_eq_of_lt hb, hmod_next a k, Nat.add_mul]
  generalize 2 ^ (32 * k) = K
  exact congrArg (a % K * b + ·) ((Nat.mul_comm _ _).trans (Nat.mul_assoc _ _ _).symm)
theorem hrow_lt {a b k : Nat} (hb : b < 2 ^ 256) : (a % 2 ^ (32 * k)) * b < 2 ^ (32 * (k + 8)) := by
  have e : 2 ^ (32 * (k + 8)) = 2 ^ (32 * k) * 2 ^ 256 := by rw [← Nat.pow_add]; congr 1
  rw [e]
  exact Nat.mul_lt_mul_of_lt_of_le (Nat.mod_lt _ (Nat.pow_pos (by omega))) (Nat.le_of_lt hb) (Nat.pow_pos (by omega))
/-- What holds in the middle of the schoolbook product: rows k, columns j are in; T: the array's number, d: the carry. (A word that the walk does not open.) -/
@[irreducible] def HRow (a b k j T d : Nat) : Prop := T < 2 ^ (32 * (k + 8)) ∧ T + d * 2 ^ (32 * (k + j)) = (a % 2 ^ (32 * k)) * b + hn a k * (b % 2 ^ (32 * j)) * 2 ^ (32 * k)
@[irreducible] def hrows (a b k : Nat) : Nat := (a % 2 ^ (32 * k)) * b
theorem HRow.start {a b k : Nat} (hb : b < 2 ^ 256) : HRow a b k 0 (hrows a b k) 0 := by
  unfold HRow hrows
  exact ⟨hrow_lt hb, by simp [Nat.mod_one]⟩
theorem HRow.next {a b k j T d : Nat} (hj : j < 8) (h : HRow a b k j T d) :
    HRow a b k (j + 1) (seth T (k + j) ((hn a k * hn b j + hn T (k + j) + d) % 4294967296)) ((hn a k * hn b j + hn T (k + j) + d) / 4294967296) := by
  unfold HRow at *
  exact ⟨seth_lt _ _ _ _ (Nat.mod_lt _ (by omega)) (by omega) h.1, hmul_inv h.2⟩
theorem HRow.done {a b k T d : Nat} (hb : b < 2 ^ 256) (h : HRow a b k 8 T d) : seth T (k + 8) d = hrows a b (k + 1) := by
  unfold HRow hrows at *
  exact hrow_next hb h.1 h.2
theorem hrows_zero (a b : Nat) : hrows a b 0 = 0 := by unfold hrows; simp [Nat.mod_one]
theorem hrows_eight {a b : Nat} (ha : a < 2 ^ 256) : hrows a b 8 = a * b := by unfold hrows; rw [show 32 * 8 = 256 from rfl, Nat.mod_eq_of_lt ha]
theorem hw_high (P i : Nat) : hw P (8 + i) = hw (P / 2 ^ 256) i := by
  unfold hw
  rw [show 32 * (8 + i) = 256 + 32 * i by omega, Nat.pow_add, Nat.div_div_eq_div_mul]
end Go.Proofs.YtnbdccobfmlhbaaDoor.Wd
