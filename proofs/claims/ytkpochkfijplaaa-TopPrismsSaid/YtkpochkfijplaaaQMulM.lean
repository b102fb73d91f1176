/-
  Plain arithmetic of the schoolbook product of words, and of setting one word of a number; no program in sight.
-/
import Derived.Test.YtkpochkfijplaaaQMath

namespace Go.Proofs.Ytkpochkfijplaaa.Wd
set_option linter.all false
/-- T with the word at place p = 2^(64 s) put to v -/
@[irreducible] def setw (T s v : Nat) : Nat := T % 2 ^ (64 * s) + 2 ^ (64 * s) * (v + 18446744073709551616 * (T / 2 ^ (64 * s) / 18446744073709551616))
/-- word s of T, as a natural number -/
@[irreducible] def wn (T s : Nat) : Nat := T / 2 ^ (64 * s) % 18446744073709551616
theorem wn_lt (T s : Nat) : wn T s < 18446744073709551616 := by unfold wn; exact Nat.mod_lt _ (by omega)
theorem wd_wn (T s : Nat) : wd T s = (wn T s : Int) := by unfold wd wn; rfl
theorem wd_set_same (T s v : Nat) (hv : v < 18446744073709551616) : wd (setw T s v) s = (v : Int) := by
  unfold wd setw
  have hp : 0 < 2 ^ (64 * s) := Nat.pow_pos (by omega)
  generalize 2 ^ (64 * s) = p at *
  rw [Nat.add_mul_div_left _ _ hp, Nat.div_eq_of_lt (Nat.mod_lt _ hp), Nat.zero_add, Nat.add_mul_mod_self_left, Nat.mod_eq_of_lt hv]
theorem wd_set_high (T s v j : Nat) (hv : v < 18446744073709551616) (h : s < j) : wd (setw T s v) j = wd T j := by
  unfold wd setw
  have hp : 0 < 2 ^ (64 * s) := Nat.pow_pos (by omega)
  have e : 2 ^ (64 * j) = 2 ^ (64 * s) * 18446744073709551616 * 2 ^ (64 * (j - s - 1)) := by
    rw [← pow_next, ← Nat.pow_add]; congr 1; omega
  rw [e]
  generalize 2 ^ (64 * s) = p at *
  generalize 2 ^ (64 * (j - s - 1)) = q
  rw [← Nat.div_div_eq_div_mul, ← Nat.div_div_eq_div_mul, ← Nat.div_div_eq_div_mul, ← Nat.div_div_eq_div_mul]
  rw [Nat.add_mul_div_left _ _ hp, Nat.div_eq_of_lt (Nat.mod_lt _ hp), Nat.zero_add, Nat.add_mul_div_left _ _ (by omega), Nat.div_eq_of_lt hv, Nat.zero_add]
theorem wd_set_low (T s v j : Nat) (h : j < s) : wd (setw T s v) j = wd T j := by
  unfold wd setw
  have hq : 0 < 2 ^ (64 * j) := Nat.pow_pos (by omega)
  have e : 2 ^ (64 * s) = 2 ^ (64 * j) * (18446744073709551616 * 2 ^ (64 * (s - j - 1))) := by
    rw [← Nat.mul_assoc, ← pow_next, ← Nat.pow_add]; congr 1; omega
  rw [e]
  generalize 2 ^ (64 * j) = q at *
  generalize 2 ^ (64 * (s - j - 1)) = r
  generalize T / (q * (18446744073709551616 * r)) / 18446744073709551616 = H
  have e2 : q * (18446744073709551616 * r) * (v + 18446744073709551616 * H) = q * (18446744073709551616 * (r * (v + 18446744073709551616 * H))) := by
    simp [Nat.mul_assoc]
  rw [e2, Nat.add_mul_div_left _ _ hq, Nat.add_mul_mod_self_left, Nat.mod_mul_right_div_self, Nat.mod_mul_right_mod]
/-- the number's own split at word s -/
theorem split_at (T s : Nat) : T = T % 2 ^ (64 * s) + 2 ^ (64 * s) * (wn T s + 18446744073709551616 * (T / 2 ^ (64 * s) / 18446744073709551616)) := by
  unfold wn
  have h1 := Nat.mod_add_div T (2 ^ (64 * s))
  have h2 := Nat.mod_add_div (T / 2 ^ (64 * s)) 18446744073709551616
  rw [h2, h1]
/-- one step of the schoolbook product: the word at s and the carry take in a product -/
theorem mul_step (T s xy c : Nat) : setw T s ((xy + wn T s + c) % 18446744073709551616) + ((xy + wn T s + c) / 18446744073709551616) * 2 ^ (64 * (s + 1)) = T + (xy + c) * 2 ^ (64 * s) := by
  have h := split_at T s
  conv => rhs; rw [h]
  unfold setw
  rw [pow_next]
  generalize 2 ^ (64 * s) = p
  generalize T / p / 18446744073709551616 = H
  generalize T % p = L
  generalize wn T s = t
  have hv := Nat.mod_add_div (xy + t + c) 18446744073709551616
  generalize (xy + t + c) % 18446744073709551616 = v at *
  generalize (xy + t + c) / 18446744073709551616 = d at *
  have e : xy + c = v + 18446744073709551616 * d - t := by omega
  have e1 : d * (p * 18446744073709551616) = p * (18446744073709551616 * d) := by
    rw [Nat.mul_comm d, Nat.mul_assoc]
  have e2 : (xy + c) * p = p * (xy + c) := Nat.mul_comm _ _
  rw [e1, e2, Nat.add_assoc, Nat.add_assoc, ← Nat.mul_add, ← Nat.mul_add]
  congr 2; omega
theorem setw_lt (T s v m : Nat) (hv : v < 18446744073709551616) (hs : s < m) (hT : T < 2 ^ (64 * m)) : setw T s v < 2 ^ (64 * m) := by
  unfold setw
  have e : 2 ^ (64 * m) = 2 ^ (64 * s) * (18446744073709551616 * 2 ^ (64 * (m - s - 1))) := by
    rw [← Nat.mul_assoc, ← pow_next, ← Nat.pow_add]; congr 1; omega
  rw [e] at hT ⊢
  have hp : 0 < 2 ^ (64 * s) := Nat.pow_pos (by omega)
  generalize 2 ^ (64 * s) = p at *
  generalize 2 ^ (64 * (m - s - 1)) = r at *
  have h1 : T / p / 18446744073709551616 < r := by
    rw [Nat.div_div_eq_div_mul, Nat.div_lt_iff_lt_mul (by omega)]
    rw [Nat.mul_comm r, Nat.mul_assoc]; exact hT
  generalize T / p / 18446744073709551616 = H at *
  have h2 : v + 18446744073709551616 * H + 1 ≤ 18446744073709551616 * r := by
    have := Nat.mul_le_mul_left 18446744073709551616 (by omega : H + 1 ≤ r)
    omega
  have h3 := Nat.mul_le_mul_left p h2
  rw [Nat.mul_add, Nat.mul_one] at h3
  have h4 := Nat.mod_lt T hp
  omega
theorem setw_high (T s v : Nat) (hT : T < 2 ^ (64 * s)) : setw T s v = T + v * 2 ^ (64 * s) := by
  unfold setw
  rw [Nat.div_eq_of_lt hT, Nat.mod_eq_of_lt hT]; simp [Nat.mul_comm]
/-- the words of a product and of a sum of two words -/
@[irreducible] def mulHi (x y : Nat) : Nat := x * y / 18446744073709551616
@[irreducible] def mulLo (x y : Nat) : Nat := x * y % 18446744073709551616
@[irreducible] def lo64 (x y : Nat) : Nat := (x + y) % 18446744073709551616
@[irreducible] def hi64 (x y : Nat) : Nat := (x + y) / 18446744073709551616
theorem mulLo_lt (x y : Nat) : mulLo x y < 18446744073709551616 := by unfold mulLo; exact Nat.mod_lt _ (by omega)
theorem lo64_lt (x y : Nat) : lo64 x y < 18446744073709551616 := by unfold lo64; exact Nat.mod_lt _ (by omega)
theorem mul_bound {x y : Nat} (hx : x < 18446744073709551616) (hy : y < 18446744073709551616) : x * y ≤ 340282366920938463426481119284349108225 := by
  have := Nat.mul_le_mul (Nat.le_of_lt_succ hx) (Nat.le_of_lt_succ hy)
  simpa using this
/-- what is carried on and what is laid down, at one place of the schoolbook product -/
theorem mul_place {x y t c : Nat} (hx : x < 18446744073709551616) (hy : y < 18446744073709551616) (ht : t < 18446744073709551616) (hc : c < 18446744073709551616) :
    mulHi x y + hi64 (mulLo x y) t ≤ 18446744073709551615 ∧ mulHi x y + hi64 (mulLo x y) t + hi64 (lo64 (mulLo x y) t) c = (x * y + t + c) / 18446744073709551616
    ∧ (x * y + t + c) / 18446744073709551616 ≤ 18446744073709551615 ∧ lo64 (lo64 (mulLo x y) t) c = (x * y + t + c) % 18446744073709551616 := by
  have h := mul_bound hx hy
  unfold mulHi hi64 lo64 mulLo
  generalize x * y = p at *
  omega
theorem mod_next (b j : Nat) : b % 2 ^ (64 * (j + 1)) = b % 2 ^ (64 * j) + 2 ^ (64 * j) * wn b j := by
  unfold wn; rw [pow_next, Nat.mod_mul]
theorem mul_inv {T0 T c x b k j : Nat} (h : T + c * 2 ^ (64 * (k + j)) = T0 + x * (b % 2 ^ (64 * j)) * 2 ^ (64 * k)) :
    setw T (k + j) ((x * wn b j + wn T (k + j) + c) % 18446744073709551616) + (x * wn b j + wn T (k + j) + c) / 18446744073709551616 * 2 ^ (64 * (k + (j + 1))) = T0 + x * (b % 2 ^ (64 * (j + 1))) * 2 ^ (64 * k) := by
  rw [show k + (j + 1) = (k + j) + 1 by omega, mul_step, mod_next]
  have e : 2 ^ (64 * (k + j)) = 2 ^ (64 * k) * 2 ^ (64 * j) := by rw [← Nat.pow_add]; congr 1; omega
  rw [e] at h ⊢
  generalize 2 ^ (64 * k) = K at *
  generalize 2 ^ (64 * j) = J at *
  generalize b % J = m at *
  generalize wn b j = y at *
  have e1 : T + (x * y + c) * (K * J) = (T + c * (K * J)) + x * y * (K * J) := by rw [Nat.add_mul]; omega
  have e2 : x * (m + J * y) * K = x * m * K + x * y * (K * J) := by
    rw [Nat.mul_add, Nat.add_mul]
    congr 1
    rw [Nat.mul_comm J y, ← Nat.mul_assoc, Nat.mul_assoc, Nat.mul_comm J K]
  rw [e1, h, e2]; omega
theorem row_next {a b k T c : Nat} (hb : b < 2 ^ 256) (hT : T < 2 ^ (64 * (k + 4))) (h : T + c * 2 ^ (64 * (k + 4)) = (a % 2 ^ (64 * k)) * b + wn a k * (b % 2 ^ (64 * 4)) * 2 ^ (64 * k)) :
    setw T (k + 4) c = (a % 2 ^ (64 * (k + 1))) * b := by
  rw [setw_high _ _ _ hT, h, show 64 * 4 = 256 from rfl, Nat.mod_eq_of_lt hb, mod_next a k, Nat.add_mul]
  generalize 2 ^ (64 * k) = K
  exact congrArg (a % K * b + ·) ((Nat.mul_comm _ _).trans (Nat.mul_assoc _ _ _).symm)
theorem row_lt {a b k : Nat} (hb : b < 2 ^ 256) : (a % 2 ^ (64 * k)) * b < 2 ^ (64 * (k + 4)) := by
  have e : 2 ^ (64 * (k + 4)) = 2 ^ (64 * k) * 2 ^ 256 := by rw [← Nat.pow_add]; congr 1
  rw [e]
  exact Nat.mul_lt_mul_of_lt_of_le (Nat.mod_lt _ (Nat.pow_pos (by omega))) (Nat.le_of_lt hb) (Nat.pow_pos (by omega))
/-- What holds in the middle of the schoolbook product: rows k, columns j are in; T: the array's number, d: the carry. (A word that the walk does not open.) -/
@[irreducible] def MulRow (a b k j T d : Nat) : Prop := T < 2 ^ (64 * (k + 4)) ∧ T + d * 2 ^ (64 * (k + j)) = (a % 2 ^ (64 * k)) * b + wn a k * (b % 2 ^ (64 * j)) * 2 ^ (64 * k)
@[irreducible] def rowsIn (a b k : Nat) : Nat := (a % 2 ^ (64 * k)) * b
theorem MulRow.start {a b k : Nat} (hb : b < 2 ^ 256) : MulRow a b k 0 (rowsIn a b k) 0 := by
  unfold MulRow rowsIn
  exact ⟨row_lt hb, by simp [Nat.mod_one]⟩
theorem MulRow.next {a b k j T d : Nat} (hj : j < 4) (h : MulRow a b k j T d) :
    MulRow a b k (j + 1) (setw T (k + j) ((wn a k * wn b j + wn T (k + j) + d) % 18446744073709551616)) ((wn a k * wn b j + wn T (k + j) + d) / 18446744073709551616) := by
  unfold MulRow at *
  exact ⟨setw_lt _ _ _ _ (Nat.mod_lt _ (by omega)) (by omega) h.1, mul_inv h.2⟩
theorem MulRow.done {a b k T d : Nat} (hb : b < 2 ^ 256) (h : MulRow a b k 4 T d) : setw T (k + 4) d = rowsIn a b (k + 1) := by
  unfold MulRow rowsIn at *
  exact row_next hb h.1 h.2
theorem rowsIn_zero (a b : Nat) : rowsIn a b 0 = 0 := by unfold rowsIn; simp [Nat.mod_one]
theorem rowsIn_four {a b : Nat} (ha : a < 2 ^ 256) : rowsIn a b 4 = a * b := by unfold rowsIn; rw [show 64 * 4 = 256 from rfl, Nat.mod_eq_of_lt ha]
theorem wd_high (P i : Nat) : wd P (4 + i) = wd (P / 2 ^ 256) i := by
  unfold wd
  rw [show 64 * (4 + i) = 256 + 64 * i by omega, Nat.pow_add, Nat.div_div_eq_div_mul]
theorem prod_lt {a b : Nat} (ha : a < 2 ^ 256) (hb : b < 2 ^ 256) : a * b / 2 ^ 256 < 2 ^ 256 := by
  have hp : 0 < 2 ^ 256 := Nat.pow_pos (by omega)
  generalize 2 ^ 256 = M at *
  rw [Nat.div_lt_iff_lt_mul hp]
  exact Nat.mul_lt_mul_of_lt_of_le ha (Nat.le_of_lt hb) hp
theorem prod_high {a b : Nat} : a * b / 2 ^ 256 = 0 ↔ a * b < 2 ^ 256 := by
  have hp : 0 < 2 ^ 256 := Nat.pow_pos (by omega)
  rw [Nat.div_eq_zero_iff]
  generalize 2 ^ 256 = M at *
  omega
end Go.Proofs.Ytkpochkfijplaaa.Wd
