/-
  What the small functions of package wide return, for all inputs: signed, negative, Of, Neg, Valid, compare, plus, minus.
-/
import Derived.Test.YtkpochkfijplaaaQBase

namespace Go.Proofs.Ytkpochkfijplaaa
set_option linter.all false
open Go Go.RowKit Wd
set_option maxRecDepth 100000
set_option maxHeartbeats 400000 in
theorem signed_any (s : Bool) (a : Nat) (ha : a < 2 ^ 256) (w : World) :
    Calls Try.prog 60 #[.bool s, (.agg #[.int .u64 (wd (a) 0), .int .u64 (wd (a) 1), .int .u64 (wd (a) 2), .int .u64 (wd (a) 3)])] w fun e w' => e = .returned (.agg #[.bool (zs (val s a)), .int .u64 (wd (Int.natAbs (val s a)) 0), .int .u64 (wd (Int.natAbs (val s a)) 1), .int .u64 (wd (Int.natAbs (val s a)) 2), .int .u64 (wd (Int.natAbs (val s a)) 3)]) ∧ Below w.heap.size w w' := by
  have h0 := eq_mag0 a ha
  rw [zs_val s a, abs_val s a]
  clear ha
  go_enter Try.func60, Try.ntmps60
  cases s
  all_goals go_wp2
  all_goals go_region
  all_goals go_wp2
  all_goals go_returns
  all_goals exact ⟨rfl, by go_grown⟩
set_option maxHeartbeats 1000000 in
theorem compare_any (a b : Nat) (ha : a < 2 ^ 256) (hb : b < 2 ^ 256) (w : World) :
    Calls Try.prog 34 #[(.agg #[.int .u64 (wd (a) 0), .int .u64 (wd (a) 1), .int .u64 (wd (a) 2), .int .u64 (wd (a) 3)]), (.agg #[.int .u64 (wd (b) 0), .int .u64 (wd (b) 1), .int .u64 (wd (b) 2), .int .u64 (wd (b) 3)])] w fun e w' => e = .returned (.int .i64 (cmpN a b)) ∧ Below w.heap.size w w' := by
  have Ha := Lib.hid ha
  have Hb := Lib.hid hb
  clear ha hb
  go_enter Try.func34, Try.ntmps34
  go_wp2
  refine wp_loop_rounds 5 ?_
  rw [rounds_succ]; go_wp2; go_region; go_wp2
  · go_returns; exact ⟨ret_int (by rw [cmp_L3 Ha.out Hb.out (by assumption)]), by go_grown⟩
  go_region; go_wp2
  · go_returns; exact ⟨ret_int (by rw [cmp_G3 Ha.out Hb.out (by assumption) (by assumption)]), by go_grown⟩
  rw [rounds_succ]; go_wp2; go_region; go_wp2
  · go_returns; exact ⟨ret_int (by rw [cmp_L2 Ha.out Hb.out (by assumption) (by assumption) (by assumption)]), by go_grown⟩
  go_region; go_wp2
  · go_returns; exact ⟨ret_int (by rw [cmp_G2 Ha.out Hb.out (by assumption) (by assumption) (by assumption) (by assumption)]), by go_grown⟩
  rw [rounds_succ]; go_wp2; go_region; go_wp2
  · go_returns; exact ⟨ret_int (by rw [cmp_L1 Ha.out Hb.out (by assumption) (by assumption) (by assumption) (by assumption) (by assumption)]), by go_grown⟩
  go_region; go_wp2
  · go_returns; exact ⟨ret_int (by rw [cmp_G1 Ha.out Hb.out (by assumption) (by assumption) (by assumption) (by assumption) (by assumption) (by assumption)]), by go_grown⟩
  rw [rounds_succ]; go_wp2; go_region; go_wp2
  · go_returns; exact ⟨ret_int (by rw [cmp_L0 Ha.out Hb.out (by assumption) (by assumption) (by assumption) (by assumption) (by assumption) (by assumption) (by assumption)]), by go_grown⟩
  go_region; go_wp2
  · go_returns; exact ⟨ret_int (by rw [cmp_G0 Ha.out Hb.out (by assumption) (by assumption) (by assumption) (by assumption) (by assumption) (by assumption) (by assumption) (by assumption)]), by go_grown⟩
  rw [rounds_succ]; go_wp2
  go_returns; exact ⟨ret_int (by rw [cmp_E Ha.out Hb.out (by assumption) (by assumption) (by assumption) (by assumption) (by assumption) (by assumption) (by assumption) (by assumption)]), by go_grown⟩
set_option maxHeartbeats 400000 in
theorem negative_any (s : Bool) (a : Nat) (ha : a < 2 ^ 256) (w : World) :
    Calls Try.prog 33 #[(.agg #[.bool (s), .int .u64 (wd (a) 0), .int .u64 (wd (a) 1), .int .u64 (wd (a) 2), .int .u64 (wd (a) 3)])] w fun e w' => e = .returned (.bool (zs (val s a))) ∧ Below w.heap.size w w' := by
  have h0 := eq_mag0 a ha
  rw [zs_val s a]
  clear ha
  cases s
  all_goals go_enter Try.func33, Try.ntmps33
  all_goals go_wp2
  all_goals go_returns
  all_goals exact ⟨rfl, by go_grown⟩
theorem run_add64_wd (a b k : Nat) (hk : k < 4) (w : World) : (callFunc 59 #[.int .u64 (wd a k), .int .u64 (wd b k), .int .u64 (cr a b k)]).run Try.prog w =
      .ok (.value (.tuple #[.int .u64 (wd (sm a b) k), .int .u64 (cr a b (k + 1))])) w := by
  rw [run_callFunc_extern Try.func59 (by kernel_rfl) (by kernel_rfl) (by kernel_rfl) (e := add64Entry) (by kernel_rfl)]
  have h := add_wd' a b k hk
  obtain ⟨x, hx, hx', -⟩ := wd_nat a k
  obtain ⟨y, hy, hy', -⟩ := wd_nat b k
  rw [← h.1, ← h.2]
  have hc : ∃ c : Nat, cr a b k = c ∧ c ≤ 1 := by
    rcases cr_bit a b k with h | h
    · exact ⟨0, h, by omega⟩
    · exact ⟨1, h, by omega⟩
  obtain ⟨c, hc, hc'⟩ := hc
  rw [hx, hy, hc, run_add64 x y c (by omega) (by omega) (by omega) (by omega)]
  simp only [Result.andThen]
theorem run_add64_z (a b : Nat) (w : World) : (callFunc 59 #[.int .u64 (wd a 0), .int .u64 (wd b 0), .int .u64 0]).run Try.prog w =
      .ok (.value (.tuple #[.int .u64 (wd (sm a b) 0), .int .u64 (cr a b 1)])) w := by
  have := run_add64_wd a b 0 (by omega) w
  rwa [cr_zero] at this
theorem run_sub64_wd (a b k : Nat) (hb : b ≤ a + 2 ^ 256) (hk : k < 4) (w : World) : (callFunc 72 #[.int .u64 (wd a k), .int .u64 (wd b k), .int .u64 (br a b k)]).run Try.prog w =
      .ok (.value (.tuple #[.int .u64 (wd (df a b) k), .int .u64 (br a b (k + 1))])) w := by
  rw [run_callFunc_extern Try.func72 (by kernel_rfl) (by kernel_rfl) (by kernel_rfl) (e := sub64Entry) (by kernel_rfl)]
  have h := sub_wd a b k hb hk
  obtain ⟨x, hx, hx', -⟩ := wd_nat a k
  obtain ⟨y, hy, hy', -⟩ := wd_nat b k
  rw [← h.1, ← h.2]
  have hc : ∃ c : Nat, br a b k = c ∧ c ≤ 1 := by
    rcases br_bit a b k with h | h
    · exact ⟨0, h, by omega⟩
    · exact ⟨1, h, by omega⟩
  obtain ⟨c, hc, hc'⟩ := hc
  rw [hx, hy, hc, run_sub64 x y c hc']
  simp only [Result.andThen]
  have e1 : (((x + 18446744073709551616 - y - c) % 18446744073709551616 : Nat) : Int) = ((x : Int) + 18446744073709551616 - y - c) % 18446744073709551616 := by omega
  have e2 : ((if x < y + c then 1 else 0 : Nat) : Int) = if (x : Int) < (y : Int) + c then 1 else 0 := by split <;> split <;> omega
  rw [e1, e2]
theorem run_sub64_z (a b : Nat) (hb : b ≤ a + 2 ^ 256) (w : World) : (callFunc 72 #[.int .u64 (wd a 0), .int .u64 (wd b 0), .int .u64 0]).run Try.prog w =
      .ok (.value (.tuple #[.int .u64 (wd (df a b) 0), .int .u64 (br a b 1)])) w := by
  have := run_sub64_wd a b 0 hb (by omega) w
  rwa [br_zero] at this
set_option maxHeartbeats 400000 in
theorem plus_any (a b : Nat) (w : World) :
    Calls Try.prog 62 #[(.agg #[.int .u64 (wd (a) 0), .int .u64 (wd (a) 1), .int .u64 (wd (a) 2), .int .u64 (wd (a) 3)]), (.agg #[.int .u64 (wd (b) 0), .int .u64 (wd (b) 1), .int .u64 (wd (b) 2), .int .u64 (wd (b) 3)])] w fun e w' => e = .returned (.tuple #[(.agg #[.int .u64 (wd (sm a b) 0), .int .u64 (wd (sm a b) 1), .int .u64 (wd (sm a b) 2), .int .u64 (wd (sm a b) 3)]), .int .u64 (cr a b 4)]) ∧ Below w.heap.size w w' := by
  have h0 := run_add64_z a b
  have h1 := run_add64_wd a b 1 (by omega)
  have h2 := run_add64_wd a b 2 (by omega)
  have h3 := run_add64_wd a b 3 (by omega)
  go_enter Try.func62, Try.ntmps62
  go_wp2
  refine wp_loop_rounds 5 ?_
  iterate 4 (rw [rounds_succ]; go_wp2; go_region; go_wp2)
  rw [rounds_succ]
  go_wp2
  go_returns
  exact ⟨rfl, by go_grown⟩
set_option maxHeartbeats 400000 in
theorem minus_any (a b : Nat) (hb : b ≤ a + 2 ^ 256) (w : World) :
    Calls Try.prog 61 #[(.agg #[.int .u64 (wd (a) 0), .int .u64 (wd (a) 1), .int .u64 (wd (a) 2), .int .u64 (wd (a) 3)]), (.agg #[.int .u64 (wd (b) 0), .int .u64 (wd (b) 1), .int .u64 (wd (b) 2), .int .u64 (wd (b) 3)])] w fun e w' => e = .returned (.tuple #[(.agg #[.int .u64 (wd (df a b) 0), .int .u64 (wd (df a b) 1), .int .u64 (wd (df a b) 2), .int .u64 (wd (df a b) 3)]), .int .u64 (br a b 4)]) ∧ Below w.heap.size w w' := by
  have h0 := run_sub64_z a b hb
  have h1 := run_sub64_wd a b 1 hb (by omega)
  have h2 := run_sub64_wd a b 2 hb (by omega)
  have h3 := run_sub64_wd a b 3 hb (by omega)
  clear hb
  go_enter Try.func61, Try.ntmps61
  go_wp2
  refine wp_loop_rounds 5 ?_
  iterate 4 (rw [rounds_succ]; go_wp2; go_region; go_wp2)
  rw [rounds_succ]
  go_wp2
  go_returns
  exact ⟨rfl, by go_grown⟩
end Go.Proofs.Ytkpochkfijplaaa
