/-
  What Int, twice and divide of package wide return, for all inputs.
-/
import Derived.Test.YtfmmnnodihpgmaaDoorWideC
namespace Go.Proofs.YtfmmnnodihpgmaaDoor
set_option linter.all false
open Go Go.RowKit Wd
set_option maxRecDepth 100000
/-- Whether an integer is an int; and the int, or 0. -/
@[irreducible] def intOk (z : Int) : Bool := decide (-9223372036854775808 ≤ z ∧ z ≤ 9223372036854775807)
@[irreducible] def intVal (z : Int) : Int := if -9223372036854775808 ≤ z ∧ z ≤ 9223372036854775807 then z else 0
theorem eq_low_no (a : Nat) (ha : a < 2 ^ 256) (h : ¬ a < 18446744073709551616) (w : World) : (Op.equalIn 10000 31 (.agg #[.int .u64 (wd (a) 0), .int .u64 (wd (a) 1), .int .u64 (wd (a) 2), .int .u64 (wd (a) 3)]) (.agg #[.int .u64 (wd a 0), .int .u64 0, .int .u64 0, .int .u64 0])).run Tryd.prog w = .ok false w := by
  rw [eq_mag_words 9998]
  have ha := lt256 a ha
  have : (wd a 0 == wd a 0 && (wd a 1 == 0 && (wd a 2 == 0 && wd a 3 == 0))) = false := by
    simp only [Bool.and_eq_false_iff, beq_eq_false_iff_ne, ne_eq, wd0, wd1, wd2, wd3]
    omega
  rw [this]
set_option maxHeartbeats 1000000 in
/-- twice: the double and a bit, and the bit that is lost. -/
theorem twice_any (a c : Nat) (ha : a < 2 ^ 256) (hc : c ≤ 1) (w : World) :
    Calls Tryd.prog 93 #[(.agg #[.int .u64 (wd (a) 0), .int .u64 (wd (a) 1), .int .u64 (wd (a) 2), .int .u64 (wd (a) 3)]), .int .u64 (c : Int)] w fun e w' => e = .returned (.tuple #[(.agg #[.int .u64 (wd (tw a c) 0), .int .u64 (wd (tw a c) 1), .int .u64 (wd (tw a c) 2), .int .u64 (wd (tw a c) 3)]), .int .u64 (twLost a c : Int)]) ∧ Below w.heap.size w w' := by
  have i0 := index_mag a 0 (by omega)
  have i1 := index_mag a 1 (by omega)
  have i2 := index_mag a 2 (by omega)
  have i3 := index_mag a 3 (by omega)
  simp only [Int.natCast_zero, Int.cast_ofNat_Int] at i0 i1 i2 i3
  have T := tw_words ha hc
  have b0 := wd_lo a 0
  have b1 := wd_lo a 1
  have b2 := wd_lo a 2
  have b3 := wd_lo a 3
  have d0 := wd_hi a 0
  have d1 := wd_hi a 1
  have d2 := wd_hi a 2
  have d3 := wd_hi a 3
  rw [T.1, T.2.1, T.2.2.1, T.2.2.2.1, T.2.2.2.2, ← dbl_or (wd a 0) c b0 d0 (by omega), ← dbl_or (wd a 1) _ b1 d1 (by omega), ← dbl_or (wd a 2) _ b2 d2 (by omega), ← dbl_or (wd a 3) _ b3 d3 (by omega)]
  clear T b0 b1 b2 b3 d0 d1 d2 d3 ha hc
  go_enter Tryd.func93, Tryd.ntmps93
  go_wp2
  refine wp_loop_rounds 5 ?_
  iterate 5 (rw [rounds_succ]; go_wp2)
  go_returns
  exact ⟨rfl, by go_grown⟩
end Go.Proofs.YtfmmnnodihpgmaaDoor
