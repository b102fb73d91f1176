/-
  What package ratio's divided returns, of natural numbers that fit in a word.
  (Written by wip/pack.py out of XFLongD.)
-/
import Derived.Test.YthikaimhmpenhaaDoorK06
import Derived.Test.YthikaimhmpenhaaDoorK03

namespace Go.Proofs.YthikaimhmpenhaaDoor
set_option linter.all false
open Go Go.RowKit Wd
set_option maxRecDepth 100000
theorem le_pow64 (k : Nat) (h : 64 ≤ k) : 18446744073709551616 ≤ 2 ^ k := by
  rw [show 18446744073709551616 = 2 ^ 64 from rfl]; exact Nat.pow_le_pow_right (by omega) h
theorem DivInv.start_at {a b k : Nat} (ha : a < 18446744073709551616) (hk : 64 ≤ k) : DivInv a b k 0 0 := by
  unfold DivInv
  rw [Nat.div_eq_of_lt (Nat.lt_of_lt_of_le ha (le_pow64 k hk))]; simp
theorem DivInv.start' {a b : Nat} (ha : a < 18446744073709551616) : DivInv a b 576 0 0 := DivInv.start_at ha (by omega)
theorem run_sub64_nn (x y c : Nat) (hc : c ≤ 1) (w : World) : (callFunc 96 #[.int .u64 (x : Int), .int .u64 (y : Int), .int .u64 (c : Int)]).run Tryd.prog w =
      .ok (.value (.tuple #[.int .u64 (((x + 18446744073709551616 - y - c) % 18446744073709551616 : Nat) : Int), .int .u64 ((if x < y + c then 1 else 0 : Nat) : Int)])) w := by
  rw [run_callFunc_extern Tryd.func96 (by kernel_rfl) (by kernel_rfl) (by kernel_rfl) (e := sub64Entry) (by kernel_rfl)]
  rw [run_sub64 x y c hc]
  simp only [Result.andThen]
theorem sub_ge {x y : Nat} (h : y ≤ x) (hx : x < 18446744073709551616) (w : World) : (callFunc 96 #[.int .u64 (x : Int), .int .u64 (y : Int), .int .u64 0]).run Tryd.prog w =
      .ok (.value (.tuple #[.int .u64 ((x - y : Nat) : Int), .int .u64 0])) w := by
  have h1 := run_sub64_nn x y 0 (by omega) w
  rwa [show (x + 18446744073709551616 - y - 0) % 18446744073709551616 = x - y by omega, if_neg (by omega)] at h1
theorem sub_lt' {x y : Nat} (h : x < y) (hy : y < 18446744073709551616) (w : World) : (callFunc 96 #[.int .u64 (x : Int), .int .u64 (y : Int), .int .u64 0]).run Tryd.prog w =
      .ok (.value (.tuple #[.int .u64 ((x + 18446744073709551616 - y : Nat) : Int), .int .u64 1])) w := by
  have h1 := run_sub64_nn x y 0 (by omega) w
  rwa [show (x + 18446744073709551616 - y - 0) % 18446744073709551616 = x + 18446744073709551616 - y by omega, if_pos (by omega)] at h1
theorem sub_00 (w : World) : (callFunc 96 #[.int .u64 0, .int .u64 0, .int .u64 0]).run Tryd.prog w = .ok (.value (.tuple #[.int .u64 0, .int .u64 0])) w := by
  have h1 := run_sub64_nn 0 0 0 (by omega) w
  rwa [show (0 + 18446744073709551616 - 0 - 0) % 18446744073709551616 = 0 by omega, if_neg (by omega)] at h1
theorem sub_01 (w : World) : (callFunc 96 #[.int .u64 0, .int .u64 0, .int .u64 1]).run Tryd.prog w = .ok (.value (.tuple #[.int .u64 18446744073709551615, .int .u64 1])) w := by
  have h1 := run_sub64_nn 0 0 1 (by omega) w
  rwa [show (0 + 18446744073709551616 - 0 - 1) % 18446744073709551616 = 18446744073709551615 by omega, if_pos (by omega)] at h1
theorem array_at5 (b o : Nat) (w : World) : (Instr.arrayAt 35 (.slice (some ⟨b, o, none⟩) 4 5)).run Tryd.prog w = .ok (.pointer (some ⟨b, o, none⟩)) w := by kernel_rfl
theorem or_zero : bits .or .u64 0 0 = 0 := by decide
end Go.Proofs.YthikaimhmpenhaaDoor
