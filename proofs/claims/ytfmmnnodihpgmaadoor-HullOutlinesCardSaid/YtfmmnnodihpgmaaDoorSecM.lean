/-
  Plain arithmetic of fractions in lowest terms, of natural numbers; no program in sight.
-/
import Derived.Test.YtfmmnnodihpgmaaDoorRatD
import Derived.Test.YtfmmnnodihpgmaaDoorHullE
namespace Go.Proofs.YtfmmnnodihpgmaaDoor
set_option linter.all false
open Go Go.RowKit Wd
theorem cop_add {a n d : Nat} (h : Nat.gcd n d = 1) : Nat.gcd (a * d + n) d = 1 := by
  rw [Nat.gcd_comm, Nat.gcd_rec, Nat.mul_add_mod_self_right, ← Nat.gcd_rec, Nat.gcd_comm] at *
  exact h
theorem cop_red {N D : Nat} (hD : 0 < D) : Nat.gcd (N / Nat.gcd N D) (D / Nat.gcd N D) = 1 := by
  rw [Nat.gcd_div (Nat.gcd_dvd_left N D) (Nat.gcd_dvd_right N D)]
  exact Nat.div_self (Nat.gcd_pos_of_pos_right N hD)
theorem mulD_pos {n d c : Nat} (hd : 0 < d) : 0 < mulD n d c := by
  unfold mulD
  split
  · omega
  · exact Nat.div_pos (Nat.le_of_dvd hd (Nat.gcd_dvd_right c d)) (Nat.gcd_pos_of_pos_right c hd)
theorem mulD_le {n d c : Nat} (hd : 0 < d) : mulD n d c ≤ d := by
  unfold mulD
  split
  · omega
  · exact Nat.div_le_self _ _
theorem mulN_le (n d c : Nat) : mulN n d c ≤ n * c := by
  unfold mulN
  split
  · omega
  · exact Nat.mul_le_mul_left n (Nat.div_le_self _ _)
theorem mul_cop {n d c : Nat} (hd : 0 < d) (h : Nat.gcd n d = 1) : Nat.gcd (mulN n d c) (mulD n d c) = 1 := by
  unfold mulN mulD
  by_cases h0 : n = 0 ∨ c = 0
  · rw [if_pos h0, if_pos h0]; rfl
  · rw [if_neg h0, if_neg h0]
    have h1 : Nat.gcd (d / Nat.gcd c d) n = 1 := by
      have h2 := Nat.gcd_dvd_gcd_of_dvd_left n (Nat.div_dvd_of_dvd (Nat.gcd_dvd_right c d))
      rw [Nat.gcd_comm d n, h] at h2
      exact Nat.dvd_one.1 h2
    have h3 : Nat.gcd (d / Nat.gcd c d) (c / Nat.gcd c d) = 1 := by rw [Nat.gcd_comm]; exact cop_red hd
    have h4 := Nat.gcd_mul_right_dvd_mul_gcd (d / Nat.gcd c d) n (c / Nat.gcd c d)
    rw [h1, h3] at h4
    rw [Nat.gcd_comm]
    exact Nat.dvd_one.1 h4
/-- a natural fraction, reduced -/
@[irreducible] def rnN (N D : Nat) : Nat := N / Nat.gcd N D
@[irreducible] def rdN (N D : Nat) : Nat := D / Nat.gcd N D
theorem rn_nat (N D : Nat) : rn (N : Int) (D : Int) = (rnN N D : Int) := by
  unfold rn rnN gI; rw [Int.natAbs_natCast, Int.natAbs_natCast, Int.natCast_ediv]
theorem rd_nat (N D : Nat) : rd (N : Int) (D : Int) = (rdN N D : Int) := by
  unfold rd rdN gI; rw [Int.natAbs_natCast, Int.natAbs_natCast, Int.natCast_ediv]
theorem rn_cop {N D : Nat} (hD : 0 < D) : Nat.gcd (rnN N D) (rdN N D) = 1 := by unfold rnN rdN; exact cop_red hD
theorem rdN_pos {N D : Nat} (hD : 0 < D) : 0 < rdN N D := by
  unfold rdN; exact Nat.div_pos (Nat.le_of_dvd hD (Nat.gcd_dvd_right N D)) (Nat.gcd_pos_of_pos_right N hD)
theorem rdN_le (N D : Nat) : rdN N D ≤ D := by unfold rdN; exact Nat.div_le_self _ _
theorem rnN_le (N D : Nat) : rnN N D ≤ N := by unfold rnN; exact Nat.div_le_self _ _
theorem rnN_one (N : Nat) : rnN N 1 = N ∧ rdN N 1 = 1 := by unfold rnN rdN; rw [Nat.gcd_one_right]; simp
/-- hull's of, of natural numbers -/
theorem hofS (N D : Nat) (hN : N < 9223372036854775808) (hD : 0 < D) (hD' : D < 9223372036854775808) (w : World) (hT : Tab64 w) :
    Calls Tryd.prog 45 #[.int .i64 (N : Int), .int .i64 (D : Int)] w fun e w' => e = .returned (.agg #[.bool false, .int .u64 (((rnN N D) : Nat) : Int), .int .u64 0, .int .u64 0, .int .u64 0, .bool false, .int .u64 (((rdN N D) : Nat) : Int), .int .u64 0, .int .u64 0, .int .u64 0]) ∧ Below w.heap.size w w' := by
  have h := hof_any N D (by omega) (by omega) (by omega) (by omega) w hT
  have h1 := rnN_le N D
  have h2 := rdN_le N D
  rwa [rn_nat, rd_nat, r_small (by omega) (by omega)] at h
/-- twice the area of the bands up to k -/
@[irreducible] def secTo (Z l : List Int) (k : Nat) : Int := (List.range k).foldl (fun n j => n + 2 * (ix l j + ix l (j + 1)) * (ix Z (j + 1) - ix Z j)) 0
theorem secTo_zero (Z l : List Int) : secTo Z l 0 = 0 := by unfold secTo; rfl
theorem secTo_succ (Z l : List Int) (k : Nat) : secTo Z l (k + 1) = secTo Z l k + 2 * (ix l k + ix l (k + 1)) * (ix Z (k + 1) - ix Z k) := by unfold secTo; rw [List.range_succ, List.foldl_append]; rfl
end Go.Proofs.YtfmmnnodihpgmaaDoor
