/-
  What Int, twice and divide of package wide return, for all inputs.
-/
import Derived.Test.YtnbdccobfmlhbaaDoorWideC
namespace Go.Proofs.YtnbdccobfmlhbaaDoor
set_option linter.all false
open Go Go.RowKit Wd
set_option maxRecDepth 100000
/-- Whether an integer is an int; and the int, or 0. -/
@[irreducible] def intOk (z : Int) : Bool := decide (-9223372036854775808 ≤ z ∧ z ≤ 9223372036854775807)
@[irreducible] def intVal (z : Int) : Int := if -9223372036854775808 ≤ z ∧ z ≤ 9223372036854775807 then z else 0
theorem eq_low_no (a : Nat) (ha : a < 2 ^ 256) (h : ¬ a < 18446744073709551616) (w : World) : (Op.equalIn 10000 23 (.agg #[.int .u64 (wd (a) 0), .int .u64 (wd (a) 1), .int .u64 (wd (a) 2), .int .u64 (wd (a) 3)]) (.agg #[.int .u64 (wd a 0), .int .u64 0, .int .u64 0, .int .u64 0])).run Tryd.prog w = .ok false w := by
  rw [eq_mag_words 9998]
  have ha := lt256 a ha
  have : (wd a 0 == wd a 0 && (wd a 1 == 0 && (wd a 2 == 0 && wd a 3 == 0))) = false := by
    simp only [Bool.and_eq_false_iff, beq_eq_false_iff_ne, ne_eq, wd0, wd1, wd2, wd3]
    omega
  rw [this]
set_option maxHeartbeats 400000 in
theorem int_far (s : Bool) (a : Nat) (ha : a < 2 ^ 256) (h : ¬ a < 18446744073709551616) (w : World) :
    Calls Tryd.prog 26 #[(.agg #[.bool (s), .int .u64 (wd (a) 0), .int .u64 (wd (a) 1), .int .u64 (wd (a) 2), .int .u64 (wd (a) 3)])] w fun e w' => e = .returned (.tuple #[.int .i64 0, .bool false]) ∧ Below w.heap.size w w' := by
  have hq := eq_low_no a ha h
  clear ha h
  go_enter Tryd.func26, Tryd.ntmps26
  go_wp2
  go_returns
  exact ⟨rfl, by go_grown⟩
set_option maxHeartbeats 400000 in
theorem int_pos (n : Int) (h0 : 0 ≤ n) (h1 : n < 9223372036854775808) (w : World) :
    Calls Tryd.prog 26 #[.agg #[.bool false, .int .u64 n, .int .u64 0, .int .u64 0, .int .u64 0]] w fun e w' => e = .returned (.tuple #[.int .i64 (n), .bool true]) ∧ Below w.heap.size w w' := by
  have hq := fun w => eq_mag_words 9998 n 0 0 0 n 0 0 0 w
  simp only [BEq.rfl, Bool.and_self] at hq
  go_enter Tryd.func26, Tryd.ntmps26
  go_wp2
  go_returns
  exact ⟨rfl, by go_grown⟩
set_option maxHeartbeats 400000 in
theorem int_pos_no (n : Int) (h0 : 9223372036854775808 ≤ n) (h1 : n ≤ 18446744073709551615) (w : World) :
    Calls Tryd.prog 26 #[.agg #[.bool false, .int .u64 n, .int .u64 0, .int .u64 0, .int .u64 0]] w fun e w' => e = .returned (.tuple #[.int .i64 (0), .bool false]) ∧ Below w.heap.size w w' := by
  have hq := fun w => eq_mag_words 9998 n 0 0 0 n 0 0 0 w
  simp only [BEq.rfl, Bool.and_self] at hq
  rcases (by omega : n = 9223372036854775808 ∨ 9223372036854775808 < n) with rfl | h2
  all_goals
    go_enter Tryd.func26, Tryd.ntmps26
    go_wp2
    go_returns
    exact ⟨rfl, by go_grown⟩
set_option maxHeartbeats 400000 in
theorem int_neg (n : Int) (h0 : 0 ≤ n) (h1 : n ≤ 9223372036854775808) (w : World) :
    Calls Tryd.prog 26 #[.agg #[.bool true, .int .u64 n, .int .u64 0, .int .u64 0, .int .u64 0]] w fun e w' => e = .returned (.tuple #[.int .i64 (wrap64 (IntKind.u64.wrap (-n))), .bool true]) ∧ Below w.heap.size w w' := by
  have hq := fun w => eq_mag_words 9998 n 0 0 0 n 0 0 0 w
  simp only [BEq.rfl, Bool.and_self] at hq
  rcases (by omega : n = 9223372036854775808 ∨ n < 9223372036854775808) with rfl | h2
  all_goals
    go_enter Tryd.func26, Tryd.ntmps26
    go_wp2
    go_returns
    exact ⟨rfl, by go_grown⟩
set_option maxHeartbeats 400000 in
theorem int_neg_no (n : Int) (h0 : 9223372036854775808 < n) (h1 : n ≤ 18446744073709551615) (w : World) :
    Calls Tryd.prog 26 #[.agg #[.bool true, .int .u64 n, .int .u64 0, .int .u64 0, .int .u64 0]] w fun e w' => e = .returned (.tuple #[.int .i64 (0), .bool false]) ∧ Below w.heap.size w w' := by
  have hq := fun w => eq_mag_words 9998 n 0 0 0 n 0 0 0 w
  simp only [BEq.rfl, Bool.and_self] at hq
  go_enter Tryd.func26, Tryd.ntmps26
  go_wp2
  go_returns
  exact ⟨rfl, by go_grown⟩
/-- Int: the int with this value, if there is one. -/
theorem int_any (s : Bool) (a : Nat) (ha : a < 2 ^ 256) (w : World) :
    Calls Tryd.prog 26 #[(.agg #[.bool (s), .int .u64 (wd (a) 0), .int .u64 (wd (a) 1), .int .u64 (wd (a) 2), .int .u64 (wd (a) 3)])] w fun e w' => e = .returned (.tuple #[.int .i64 (intVal (val s a)), .bool (intOk (val s a))]) ∧ Below w.heap.size w w' := by
  by_cases h : a < 18446744073709551616
  · have e := wd_small h
    rw [e.1, e.2.1, e.2.2.1, e.2.2.2]
    clear e
    cases s
    · by_cases h1 : a < 9223372036854775808
      · have r1 : intVal (val false a) = a := by unfold intVal val; rw [if_pos (by simp; omega)]; rfl
        have r2 : intOk (val false a) = true := by unfold intOk val; simp; omega
        rw [r1, r2]; exact int_pos _ (by omega) (by omega) w
      · have r1 : intVal (val false a) = 0 := by unfold intVal val; rw [if_neg (by simp; omega)]
        have r2 : intOk (val false a) = false := by unfold intOk val; simp; omega
        rw [r1, r2]; exact int_pos_no _ (by omega) (by omega) w
    · by_cases h1 : a ≤ 9223372036854775808
      · have r1 : intVal (val true a) = wrap64 (IntKind.u64.wrap (-(a : Int))) := by unfold intVal val; rw [if_pos (by simp; omega), ← IntWalk.i64_left, IntKind.wrap_i64, IntKind.wrap_u64]; simp; omega
        have r2 : intOk (val true a) = true := by unfold intOk val; simp; omega
        rw [r1, r2]; exact int_neg _ (by omega) (by omega) w
      · have r1 : intVal (val true a) = 0 := by unfold intVal val; rw [if_neg (by simp; omega)]
        have r2 : intOk (val true a) = false := by unfold intOk val; simp; omega
        rw [r1, r2]; exact int_neg_no _ (by omega) (by omega) w
  · have r1 : intVal (val s a) = 0 := by unfold intVal val; rw [if_neg (by cases s <;> simp <;> omega)]
    have r2 : intOk (val s a) = false := by unfold intOk val; cases s <;> simp <;> omega
    rw [r1, r2]; exact int_far s a ha h w
set_option maxHeartbeats 1000000 in
/-- twice: the double and a bit, and the bit that is lost. -/
theorem twice_any (a c : Nat) (ha : a < 2 ^ 256) (hc : c ≤ 1) (w : World) :
    Calls Tryd.prog 54 #[(.agg #[.int .u64 (wd (a) 0), .int .u64 (wd (a) 1), .int .u64 (wd (a) 2), .int .u64 (wd (a) 3)]), .int .u64 (c : Int)] w fun e w' => e = .returned (.tuple #[(.agg #[.int .u64 (wd (tw a c) 0), .int .u64 (wd (tw a c) 1), .int .u64 (wd (tw a c) 2), .int .u64 (wd (tw a c) 3)]), .int .u64 (twLost a c : Int)]) ∧ Below w.heap.size w w' := by
  have i0 := index_mag a 0 (by omega)
  have i1 := index_mag a 1 (by omega)
  have i2 := index_mag a 2 (by omega)
  have i3 := index_mag a 3 (by omega)
  simp only [Int.natCast_zero, Int.cast_ofNat_Int] at i0 i1 i2 i3
  have T := tw_words ha hc
  have b0 := wd_lo a 0
  have b1 := wd_lo a 1
  have b2 := wd_lo a 2
  have b3 := wd_lo a 3
  have d0 := wd_hi a 0
  have d1 := wd_hi a 1
  have d2 := wd_hi a 2
  have d3 := wd_hi a 3
  rw [T.1, T.2.1, T.2.2.1, T.2.2.2.1, T.2.2.2.2, ← dbl_or (wd a 0) c b0 d0 (by omega), ← dbl_or (wd a 1) _ b1 d1 (by omega), ← dbl_or (wd a 2) _ b2 d2 (by omega), ← dbl_or (wd a 3) _ b3 d3 (by omega)]
  clear T b0 b1 b2 b3 d0 d1 d2 d3 ha hc
  go_enter Tryd.func54, Tryd.ntmps54
  go_wp2
  refine wp_loop_rounds 5 ?_
  iterate 5 (rw [rounds_succ]; go_wp2)
  go_returns
  exact ⟨rfl, by go_grown⟩
end Go.Proofs.YtnbdccobfmlhbaaDoor
