/-
  Plain arithmetic of factors 2, of shifts of four words, and of the greatest common divisor; no program in sight.
-/
import Derived.Test.YtfmmnnodihpgmaaDoorDivM
import Derived.Lib.TrailingZeros
namespace Go.Proofs.YtfmmnnodihpgmaaDoor.Wd
set_option linter.all false
/-- how many factors 2 a number has, and what is left without them -/
@[irreducible] def twos (a : Nat) : Nat := Lib.ctz 256 a
@[irreducible] def oddP (a : Nat) : Nat := a / 2 ^ twos a
theorem twos_spec {a : Nat} (h0 : 0 < a) (ha : a < 2 ^ 256) : a = 2 ^ twos a * oddP a ∧ oddP a % 2 = 1 ∧ twos a < 256 := by
  obtain ⟨m, hm, hk⟩ := Lib.ctzFrom_spec 256 a h0 ha
  have e : twos a = Lib.ctzFrom 256 a := by unfold twos Lib.ctz; rw [if_neg (by omega)]
  unfold oddP
  rw [e]
  have hp := Nat.pow_pos (n := Lib.ctzFrom 256 a) (by omega : 0 < 2)
  have hq : a / 2 ^ Lib.ctzFrom 256 a = 2 * m + 1 := by
    generalize 2 ^ Lib.ctzFrom 256 a = p at *
    rw [hm, Nat.mul_div_cancel_left _ hp]
  rw [hq]
  exact ⟨hm, by omega, hk⟩
theorem two_odd_unique : ∀ (j k m n : Nat), 2 ^ j * (2 * m + 1) = 2 ^ k * (2 * n + 1) → j = k ∧ m = n
  | 0, 0, m, n, h => by simp at h; omega
  | 0, k + 1, m, n, h => by rw [Nat.pow_succ, Nat.mul_comm (2 ^ k), Nat.mul_assoc] at h; omega
  | j + 1, 0, m, n, h => by rw [Nat.pow_succ, Nat.mul_comm (2 ^ j), Nat.mul_assoc] at h; omega
  | j + 1, k + 1, m, n, h => by
    rw [Nat.pow_succ, Nat.pow_succ, Nat.mul_comm (2 ^ j), Nat.mul_comm (2 ^ k), Nat.mul_assoc, Nat.mul_assoc] at h
    have := two_odd_unique j k m n (by omega)
    omega
theorem twos_of {a k o : Nat} (h0 : 0 < a) (ha : a < 2 ^ 256) (h : a = 2 ^ k * o) (ho : o % 2 = 1) : twos a = k ∧ oddP a = o := by
  obtain ⟨h1, h2, h3⟩ := twos_spec h0 ha
  have := two_odd_unique (twos a) k (oddP a / 2) (o / 2) (by
    rw [show 2 * (oddP a / 2) + 1 = oddP a by omega, show 2 * (o / 2) + 1 = o by omega, ← h1, h])
  omega
theorem wd_down (x i : Nat) : wd (x / 18446744073709551616) i = wd x (i + 1) := by
  unfold wd
  rw [pow_next, Nat.mul_comm (2 ^ (64 * i)), Nat.div_div_eq_div_mul]
theorem wd_top {x : Nat} (h : x < 2 ^ 256) : wd x 4 = 0 := by
  unfold wd
  rw [show 64 * 4 = 256 from rfl, Nat.div_eq_of_lt h]; rfl
/-- a word of a number that is shifted down -/
theorem shift_nat (x i k : Nat) (hk : k < 64) : x / 2 ^ k / 2 ^ (64 * i) % 18446744073709551616 = wn x i / 2 ^ k + (wn x (i + 1) * 2 ^ (64 - k)) % 18446744073709551616 ∧ wn x i / 2 ^ k < 2 ^ (64 - k) ∧ (wn x (i + 1) * 2 ^ (64 - k)) % 18446744073709551616 % 2 ^ (64 - k) = 0 := by
  have e : 18446744073709551616 = 2 ^ k * 2 ^ (64 - k) := by rw [← Nat.pow_add, show k + (64 - k) = 64 by omega]
  unfold wn
  rw [pow_next, Nat.div_div_eq_div_mul, Nat.mul_comm (2 ^ k), ← Nat.div_div_eq_div_mul, ← Nat.div_div_eq_div_mul x]
  generalize x / 2 ^ (64 * i) = y
  have hp := Nat.pow_pos (n := k) (by omega : 0 < 2)
  have hq := Nat.pow_pos (n := 64 - k) (by omega : 0 < 2)
  generalize 2 ^ k = p at *
  generalize 2 ^ (64 - k) = q at *
  rw [e]
  have h1 : y / (p * q) % (p * q) * q % (p * q) = y / (p * q) % p * q := by
    rw [Nat.mul_mod_mul_right, Nat.mod_mul_right_mod]
  rw [h1]
  refine ⟨?_, ?_, by rw [Nat.mul_mod_left]⟩
  · rw [Nat.mod_mul_right_div_self]
    conv => lhs; rw [Nat.mul_comm p q, Nat.mod_mul]
    rw [Nat.div_div_eq_div_mul]
    congr 1
    rw [Nat.mul_comm q]
  · rw [Nat.mod_mul_right_div_self]; exact Nat.mod_lt _ hq
theorem wd_shift (x i k : Nat) (hk : k < 64) : wd (x / 2 ^ k) i = bits .or .u64 (wd x i / 2 ^ k) (IntKind.u64.wrap (wd x (i + 1) * 2 ^ (64 - k))) := by
  obtain ⟨h1, h2, h3⟩ := shift_nat x i k hk
  have e1 : wd x i / 2 ^ k = ((wn x i / 2 ^ k : Nat) : Int) := by rw [wd_wn, Int.natCast_ediv, Int.natCast_pow]; rfl
  have e2 : IntKind.u64.wrap (wd x (i + 1) * 2 ^ (64 - k)) = ((wn x (i + 1) * 2 ^ (64 - k) % 18446744073709551616 : Nat) : Int) := by
    rw [wd_wn, IntKind.wrap_u64, Int.natCast_emod, Int.natCast_mul, Int.natCast_pow]; rfl
  have hl : wn x i / 2 ^ k < 18446744073709551616 := Nat.lt_of_le_of_lt (Nat.div_le_self _ _) (wn_lt x i)
  rw [e1, e2, u64_or_nat _ _ hl (Nat.mod_lt _ (by omega)), Nat.or_comm, nat_join (64 - k) _ _ h3 h2]
  unfold wd
  rw [h1, Nat.add_comm]
theorem wd_shift_top (x k : Nat) (hx : x < 2 ^ 256) (hk : k < 64) : wd (x / 2 ^ k) 3 = wd x 3 / 2 ^ k := by
  obtain ⟨h1, -, -⟩ := shift_nat x 3 k hk
  have e1 : wd x 3 / 2 ^ k = ((wn x 3 / 2 ^ k : Nat) : Int) := by rw [wd_wn, Int.natCast_ediv, Int.natCast_pow]; rfl
  have e2 : wn x (3 + 1) = 0 := wn_high _ _ hx
  rw [e1]
  unfold wd
  rw [h1, e2]; simp
/-- what the program's loop and its last shift come to -/
theorem odd_parts {a j k : Nat} (h0 : 0 < a) (ha : a < 2 ^ 256) (hj : a % 2 ^ (64 * j) = 0) (hk : k = Lib.ctz 64 (wn a j)) (hw : wn a j ≠ 0) : twos a = 64 * j + k ∧ oddP a = a / 2 ^ (64 * j) / 2 ^ k ∧ k < 64 := by
  obtain ⟨m, hm, hk64⟩ := Lib.ctzFrom_spec 64 (wn a j) (by omega) (wn_lt a j)
  have ek : k = Lib.ctzFrom 64 (wn a j) := by rw [hk]; unfold Lib.ctz; rw [if_neg hw]
  rw [← ek] at hm hk64
  have hs := split_at a j
  rw [hj, hm, Nat.zero_add] at hs
  generalize a / 2 ^ (64 * j) / 18446744073709551616 = H at hs
  have e : 18446744073709551616 = 2 ^ k * (2 * 2 ^ (63 - k)) := by
    rw [← Nat.mul_assoc, Nat.mul_comm (2 ^ k) 2, Nat.mul_assoc, ← Nat.pow_add, show k + (63 - k) = 63 by omega]
  have hs2 : a = 2 ^ (64 * j + k) * (2 * (m + 2 ^ (63 - k) * H) + 1) := by
    rw [hs, e, Nat.pow_add]
    generalize 2 ^ (64 * j) = J
    generalize 2 ^ k = K
    generalize 2 ^ (63 - k) = M
    rw [Nat.mul_assoc J K]
    have e3 : K * (2 * m + 1) + K * (2 * M) * H = K * (2 * (m + M * H) + 1) := by
      rw [Nat.mul_assoc, ← Nat.mul_add, Nat.mul_add 2 m, Nat.mul_assoc 2 M]
      exact congrArg (K * ·) (by omega)
    rw [← e3]
  obtain ⟨h1, h2⟩ := twos_of h0 ha hs2 (by omega)
  refine ⟨h1, ?_, hk64⟩
  rw [h2, Nat.div_div_eq_div_mul, ← Nat.pow_add]
  conv => rhs; rw [hs2]
  rw [Nat.mul_div_cancel_left _ (Nat.pow_pos (by omega))]
@[irreducible] def dn (a j : Nat) : Nat := a / 2 ^ (64 * j)
@[irreducible] def Low0 (a j : Nat) : Prop := a % 2 ^ (64 * j) = 0
theorem dn_zero (a : Nat) : dn a 0 = a := by unfold dn; simp
theorem dn_word (a j i : Nat) : wd (dn a j) i = wd a (j + i) := by
  unfold dn wd
  rw [Nat.div_div_eq_div_mul, ← Nat.pow_add]; congr 4; omega
theorem dn_first (a j : Nat) : wd (dn a j) 0 = (wn a j : Int) := by rw [dn_word, wd_wn]; rfl
theorem dn_lt {a : Nat} (j : Nat) (ha : a < 2 ^ 256) : dn a j < 2 ^ 256 := by unfold dn; exact Nat.lt_of_le_of_lt (Nat.div_le_self _ _) ha
theorem Low0.start (a : Nat) : Low0 a 0 := by unfold Low0; simp [Nat.mod_one]
theorem Low0.next {a j : Nat} (h0 : 0 < a) (ha : a < 2 ^ 256) (hj : j ≤ 3) (h : Low0 a j) (hz : wn a j = 0) : Low0 a (j + 1) ∧ j + 1 ≤ 3 := by
  unfold Low0 at *
  have h1 : a % 2 ^ (64 * (j + 1)) = 0 := by rw [mod_next, h, hz]; simp
  refine ⟨h1, ?_⟩
  apply Nat.lt_of_not_le
  intro h4
  obtain rfl : j = 3 := by omega
  rw [show 64 * (3 + 1) = 256 from rfl, Nat.mod_eq_of_lt ha] at h1
  omega
theorem dn_odd {a j k : Nat} (h0 : 0 < a) (ha : a < 2 ^ 256) (hj : Low0 a j) (hk : k = Lib.ctz 64 (wn a j)) (hw : wn a j ≠ 0) : twos a = 64 * j + k ∧ oddP a = dn a j / 2 ^ k ∧ k < 64 := by
  unfold Low0 at hj
  unfold dn
  exact odd_parts h0 ha hj hk hw
theorem wd_above {x : Nat} (i : Nat) (hi : 4 ≤ i) (h : x < 2 ^ 256) : wd x i = 0 := by
  unfold wd
  rw [Nat.div_eq_of_lt (Nat.lt_of_lt_of_le h (Nat.pow_le_pow_right (by omega) (by omega)))]; rfl
end Go.Proofs.YtfmmnnodihpgmaaDoor.Wd
