/-
  A prism's volume and moments by the area and the moments that the program's region has; no program in sight.
-/
import Derived.Test.YtkpochkfijplaaaGeoK
import Derived.Test.YtkpochkfijplaaaGeoM
namespace Go.Proofs.Ytkpochkfijplaaa
set_option linter.all false
open Go Go.RowKit Wd
set_option maxRecDepth 100000
theorem arC_is (X Y : Nat → Int) {n : Nat} : ∀ i, i + 1 ≤ n → arC X Y n i = arS X Y i
  | 0, _ => by rw [arC_zero, arS_zero]
  | i + 1, h => by
    rw [arC_succ, arS_succ, arC_is X Y i (by omega), Nat.mod_eq_of_lt (by omega)]
    unfold cr
    rfl
theorem arC_all (X Y : Nat → Int) {n : Nat} (h : 1 ≤ n) : arC X Y n n = arS X Y (n - 1) + cr X Y (n - 1) 0 := by
  obtain ⟨m, rfl⟩ : ∃ m, n = m + 1 := ⟨n - 1, by omega⟩
  rw [arC_succ, arC_is X Y m (by omega), Nat.mod_self, Nat.add_sub_cancel]
  unfold cr
  rfl
theorem moC_is (U X Y : Nat → Int) {n : Nat} : ∀ i, i + 1 ≤ n → moC U X Y n i = moS U X Y i
  | 0, _ => by rw [moC_zero, moS_zero]
  | i + 1, h => by
    rw [moC_succ, moS_succ, moC_is U X Y i (by omega), Nat.mod_eq_of_lt (by omega)]
    unfold cr
    rw [Int.mul_comm (Y i)]
theorem moC_all (U X Y : Nat → Int) {n : Nat} (h : 1 ≤ n) : moC U X Y n n = moS U X Y (n - 1) + (U (n - 1) + U 0) * cr X Y (n - 1) 0 := by
  obtain ⟨m, rfl⟩ : ∃ m, n = m + 1 := ⟨n - 1, by omega⟩
  rw [moC_succ, moC_is U X Y m (by omega), Nat.mod_self, Nat.add_sub_cancel]
  unfold cr
  rw [Int.mul_comm (Y m)]
theorem vol_is (X Y : Nat → Int) (t : Int) {n : Nat} (h3 : 3 ≤ n) (hn : n ≤ 32) : ps (detF (prP X Y t) (prF n)) (fun _ => 1) (4 * n - 4) = 3 * arC X Y n n * t := by
  rw [vol_prism X Y t h3 hn, arC_all X Y (by omega), Int.mul_assoc, Int.mul_comm t, ← Int.mul_assoc]
theorem mom_is (X Y : Nat → Int) (t : Int) {n : Nat} (h3 : 3 ≤ n) (hn : n ≤ 32) :
    ps (detF (prP X Y t) (prF n)) (sumF (prP X Y t) (prF n) 0) (4 * n - 4) = 4 * moC X X Y n n * t ∧
    ps (detF (prP X Y t) (prF n)) (sumF (prP X Y t) (prF n) 1) (4 * n - 4) = 4 * moC Y X Y n n * t ∧
    ps (detF (prP X Y t) (prF n)) (sumF (prP X Y t) (prF n) 2) (4 * n - 4) = 6 * arC X Y n n * t * t := by
  obtain ⟨h1, h2, h3'⟩ := mom_prism X Y t h3 hn
  rw [h1, h2, h3', arC_all X Y (by omega), moC_all X X Y (by omega), moC_all Y X Y (by omega)]
  refine ⟨?_, ?_, ?_⟩
  · rw [Int.mul_assoc, Int.mul_comm t, ← Int.mul_assoc]
  · rw [Int.mul_assoc, Int.mul_comm t, ← Int.mul_assoc]
  · rw [Int.mul_assoc, Int.mul_comm (t * t), ← Int.mul_assoc, ← Int.mul_assoc]
theorem prP_sm {X Y : Nat → Int} {t : Int} {n : Nat} (hS : ∀ i, i < n → Sm (X i) ∧ Sm (Y i)) (ht : 0 ≤ t) (ht' : t ≤ 120) (j : Nat) (hj : j < 2 * n * 3) : -32768 ≤ prP X Y t j ∧ prP X Y t j ≤ 32768 := by
  have h := hS (j / 6) (by omega)
  unfold Sm at h
  unfold prP
  split
  · exact h.1
  · split
    · exact h.2
    · split <;> omega
end Go.Proofs.Ytkpochkfijplaaa
