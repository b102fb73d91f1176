/-
  Decimal digits: padded numerals, chunks of nineteen digits, the quotient by 10^19 word by word; no program in sight.
-/
import Derived.Test.YtnbdccobfmlhbaaDoorGcdM
import Derived.Test.YtnbdccobfmlhbaaDoorDiv64
import Derived.Lib.ItoaNum
import Derived.Lib.Join
import Derived.Lib.Repeat
import Derived.Lib.TrimByte
namespace Go.Proofs.YtnbdccobfmlhbaaDoor.Wd
set_option linter.all false
open Go.Lib
/-- the last k decimal digits of n -/
def pad : Nat → Nat → List UInt8
  | 0, _ => []
  | k + 1, n => pad k (n / 10) ++ [UInt8.ofNat (48 + n % 10)]
theorem pad_length : ∀ (k n : Nat), (pad k n).length = k
  | 0, _ => rfl
  | k + 1, n => by simp [pad, pad_length k]
theorem pad_split : ∀ (j k n : Nat), pad (j + k) n = pad j (n / 10 ^ k) ++ pad k n
  | j, 0, n => by simp [pad]
  | j, k + 1, n => by
    have h := pad_split j k (n / 10)
    rw [Nat.div_div_eq_div_mul, Nat.mul_comm, ← Nat.pow_succ] at h
    show pad (j + k + 1) n = _
    simp only [pad]
    rw [h, List.append_assoc]
theorem pad_mod : ∀ (k n m : Nat), pad k (n % (10 ^ k * m)) = pad k n
  | 0, _, _ => rfl
  | k + 1, n, m => by
    have h := pad_mod k (n / 10) m
    simp only [pad]
    have e1 : n % (10 ^ (k + 1) * m) / 10 = n / 10 % (10 ^ k * m) := by
      rw [Nat.pow_succ, Nat.mul_comm (10 ^ k) 10, Nat.mul_assoc, Nat.mod_mul_right_div_self]
    have e2 : n % (10 ^ (k + 1) * m) % 10 = n % 10 := by
      rw [Nat.pow_succ, Nat.mul_comm (10 ^ k) 10, Nat.mul_assoc, Nat.mod_mul_right_mod]
    rw [e1, e2, h]
theorem dec_small {n : Nat} (h : n < 10) : decDigits n = [UInt8.ofNat (48 + n)] := by rw [decDigits, dif_pos h]
theorem dec_big {n : Nat} (h : ¬ n < 10) : decDigits n = decDigits (n / 10) ++ [UInt8.ofNat (48 + n % 10)] := by rw [decDigits, dif_neg h]
theorem pad_zero : ∀ k, pad k 0 = List.replicate k 48
  | 0 => rfl
  | k + 1 => by
    simp only [pad]
    rw [show 0 / 10 = 0 from rfl, pad_zero k, List.replicate_succ']
    rfl
theorem dec_pad : ∀ (k n : Nat), n < 10 ^ (k + 1) → ∃ j, (decDigits n).length + j = k + 1 ∧ pad (k + 1) n = List.replicate j 48 ++ decDigits n
  | 0, n, h => by
    have h10 : n < 10 := by simpa using h
    refine ⟨0, by rw [dec_small h10]; rfl, ?_⟩
    rw [dec_small h10]
    simp [pad, Nat.mod_eq_of_lt h10]
  | k + 1, n, h => by
    by_cases h10 : n < 10
    · refine ⟨k + 1, by rw [dec_small h10]; simp; omega, ?_⟩
      rw [dec_small h10]
      show pad (k + 1) (n / 10) ++ _ = _
      rw [Nat.div_eq_of_lt h10, pad_zero, Nat.mod_eq_of_lt h10]
    · obtain ⟨j, hj, e⟩ := dec_pad k (n / 10) (by rw [Nat.pow_succ] at h; omega)
      refine ⟨j, by rw [dec_big h10]; simp; omega, ?_⟩
      show pad (k + 1) (n / 10) ++ _ = _
      rw [e, dec_big h10, List.append_assoc]
theorem dec_len {n : Nat} (h : n < 10000000000000000000) : (decDigits n).length ≤ 19 ∧ List.replicate (19 - (decDigits n).length) 48 ++ decDigits n = pad 19 n := by
  obtain ⟨j, hj, e⟩ := dec_pad 18 n (by simpa using h)
  refine ⟨by omega, ?_⟩
  rw [e, show 19 - (decDigits n).length = j by omega]
/-- the first digit is not '0' -/
theorem dec_head : ∀ (n : Nat), 0 < n → ∃ c t, decDigits n = c :: t ∧ c ≠ 48
  | n, h => by
    by_cases h10 : n < 10
    · refine ⟨UInt8.ofNat (48 + n), [], dec_small h10, fun e => ?_⟩
      have := congrArg UInt8.toNat e
      simp at this
      omega
    · obtain ⟨c, t, e, hc⟩ := dec_head (n / 10) (by omega)
      exact ⟨c, t ++ [UInt8.ofNat (48 + n % 10)], by rw [dec_big h10, e]; rfl, hc⟩
termination_by n => n
decreasing_by omega
/-- the text in chunks of nineteen digits -/
def chunks (a : Nat) : Nat → List (List UInt8)
  | 0 => []
  | k + 1 => pad 19 (a / 10 ^ (19 * k)) :: chunks a k
theorem chunks_flat (a : Nat) : ∀ k, (chunks a k).flatten = pad (19 * k) a
  | 0 => rfl
  | k + 1 => by
    simp only [chunks, List.flatten_cons]
    rw [chunks_flat a k, ← pad_split, Nat.mul_add, Nat.add_comm]
theorem chunks_length (a : Nat) : ∀ k, (chunks a k).length = k
  | 0 => rfl
  | k + 1 => by simp [chunks, chunks_length a k]
theorem join_empty : ∀ xs : List (List UInt8), join xs [] = xs.flatten
  | [] => rfl
  | [x] => by rw [join_one]; simp
  | x :: y :: r => by
    have h := join_empty (y :: r)
    unfold join at *
    rw [List.intercalate_cons_of_ne_nil (by simp), h]
    simp
theorem repeat_zeros : ∀ c, repeatL [48] c = List.replicate c 48
  | 0 => rfl
  | c + 1 => by simp [repeatL, repeat_zeros c, List.replicate_succ]
theorem drop_zeros (j : Nat) (c : UInt8) (t : List UInt8) (hc : c ≠ 48) : trimLeftB (List.replicate j 48 ++ c :: t) 48 = c :: t := by
  unfold trimLeftB
  induction j with
  | zero => simp [List.dropWhile, hc]
  | succ j ih => rw [List.replicate_succ, List.cons_append, List.dropWhile_cons_of_pos (by simp), ih]
theorem drop_all (j : Nat) : trimLeftB (List.replicate j 48) 48 = [] := by
  unfold trimLeftB
  induction j with
  | zero => rfl
  | succ j ih => rw [List.replicate_succ, List.dropWhile_cons_of_pos (by simp), ih]
theorem trim_pad (k n : Nat) (h : n < 10 ^ k) : trimLeftB (pad k n) 48 = if n = 0 then [] else decDigits n := by
  split
  · rename_i h0; subst h0; rw [pad_zero, drop_all]
  · rename_i h0
    cases k with
    | zero => simp at h; omega
    | succ k =>
      obtain ⟨j, -, e⟩ := dec_pad k n h
      obtain ⟨c, t, e2, hc⟩ := dec_head n (by omega)
      rw [e, e2, drop_zeros j c t hc]
/-- what is left of a number from word i on, by 10^19 -/
@[irreducible] def rs (x i : Nat) : Int := ((x / 2 ^ (64 * i) % 10000000000000000000 : Nat) : Int)
@[irreducible] def dv (x : Nat) : Nat := x / 10000000000000000000
theorem rs_lo (x i : Nat) : 0 ≤ rs x i := by unfold rs; omega
theorem rs_hi (x i : Nat) : rs x i < 10000000000000000000 := by
  unfold rs
  generalize x / 2 ^ (64 * i) = y
  omega
theorem rs_top {x : Nat} (h : x < 2 ^ 256) : rs x 4 = 0 := by
  unfold rs
  rw [show 64 * 4 = 256 from rfl, Nat.div_eq_of_lt h]; rfl
theorem rs_zero (x : Nat) : rs x 0 = ((x % 10000000000000000000 : Nat) : Int) := by unfold rs; simp
theorem dv_step (x i : Nat) : qd (rs x (i + 1)) (wd x i) = wd (dv x) i ∧ rd (rs x (i + 1)) (wd x i) = rs x i := by
  unfold qd rd rs wd dv
  rw [pow_next, ← Nat.div_div_eq_div_mul, Nat.div_div_eq_div_mul x 10000000000000000000, Nat.mul_comm 10000000000000000000, ← Nat.div_div_eq_div_mul]
  generalize x / 2 ^ (64 * i) = y
  omega
theorem dv_lt {x : Nat} (h : x < 2 ^ 256) : dv x < 2 ^ 256 := by unfold dv; exact Nat.lt_of_le_of_lt (Nat.div_le_self _ _) h
end Go.Proofs.YtnbdccobfmlhbaaDoor.Wd
