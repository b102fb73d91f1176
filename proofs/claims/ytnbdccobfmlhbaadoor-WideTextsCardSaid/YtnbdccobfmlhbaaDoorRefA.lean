/-
  What the reference's small functions return, for all inputs: split, zero, join, compare, plus, minus.
-/
import Derived.Test.YtnbdccobfmlhbaaDoorBase
import Derived.Test.YtnbdccobfmlhbaaDoorKeep
import Derived.Test.YtnbdccobfmlhbaaDoorHalfM
namespace Go.Proofs.YtnbdccobfmlhbaaDoor
set_option linter.all false
open Go Go.RowKit Wd
set_option maxRecDepth 100000
theorem split_lo (a i : Nat) : (wd a i).tmod 4294967296 = hw a (2 * i) := by
  rw [hw_even, Int.tmod_eq_emod_of_nonneg (wd_lo a i)]
theorem split_hi (a i : Nat) : IntKind.u64.wrap ((wd a i).tdiv 4294967296) = hw a (2 * i + 1) := by
  rw [hw_odd, Int.tdiv_eq_ediv_of_nonneg (wd_lo a i), IntKind.wrap_u64]
  have := wd_lo a i
  have := wd_hi a i
  omega
/-- split: a number's half-words. -/
theorem split_any (s : Bool) (a : Nat) (w : World) :
    Calls Tryd.prog 43 #[(.agg #[.bool (s), .int .u64 (wd (a) 0), .int .u64 (wd (a) 1), .int .u64 (wd (a) 2), .int .u64 (wd (a) 3)])] w fun e w' => e = .returned (.agg #[.int .u64 (hw (a) 0), .int .u64 (hw (a) 1), .int .u64 (hw (a) 2), .int .u64 (hw (a) 3), .int .u64 (hw (a) 4), .int .u64 (hw (a) 5), .int .u64 (hw (a) 6), .int .u64 (hw (a) 7)]) ∧ Below w.heap.size w w' := by
  have e0 : (wd a 0).tmod 4294967296 = hw a 0 := split_lo a 0
  have e1 : IntKind.u64.wrap ((wd a 0).tdiv 4294967296) = hw a 1 := split_hi a 0
  have e2 : (wd a 1).tmod 4294967296 = hw a 2 := split_lo a 1
  have e3 : IntKind.u64.wrap ((wd a 1).tdiv 4294967296) = hw a 3 := split_hi a 1
  have e4 : (wd a 2).tmod 4294967296 = hw a 4 := split_lo a 2
  have e5 : IntKind.u64.wrap ((wd a 2).tdiv 4294967296) = hw a 5 := split_hi a 2
  have e6 : (wd a 3).tmod 4294967296 = hw a 6 := split_lo a 3
  have e7 : IntKind.u64.wrap ((wd a 3).tdiv 4294967296) = hw a 7 := split_hi a 3
  go_enter Tryd.func43, Tryd.ntmps43
  go_wp2
  refine wp_loop_rounds 5 ?_
  iterate 4 (rw [rounds_succ]; go_wp2)
  rw [rounds_succ]
  go_wp2_with ((with_reducible show bodyPost _ _ _ _ _ _); refine bodyPost_ret (by simp [results, Tryd.results43, go_sem, e0, e1, e2, e3, e4, e5, e6, e7]; try rfl) rfl ?_; exact ⟨rfl, by (repeat' (first | (with_reducible exact Below.refl _ _) | (with_reducible assumption) | (with_reducible refine below_alloc ?_ _) | (with_reducible refine Below.drew ?_) | (with_reducible refine Below.setCell ?_ ?_ _) | (with_reducible refine below_after ?_ (by assumption)) | go_size))⟩)
theorem hw_not (a i : Nat) (h : (hw a i != 0) = true) : false = eqN a 0 := by
  have h : ¬ hw a i = 0 := by simpa using h
  unfold eqN
  by_cases ha : a = 0
  · subst ha; exact absurd (hw_zero i) h
  · simp [ha]
/-- zero: whether all half-words are 0. -/
theorem zero_any (a : Nat) (ha : a < 2 ^ 256) (w : World) :
    Calls Tryd.prog 48 #[(.agg #[.int .u64 (hw (a) 0), .int .u64 (hw (a) 1), .int .u64 (hw (a) 2), .int .u64 (hw (a) 3), .int .u64 (hw (a) 4), .int .u64 (hw (a) 5), .int .u64 (hw (a) 6), .int .u64 (hw (a) 7)])] w fun e w' => e = .returned (.bool (eqN a 0)) ∧ Below w.heap.size w w' := by
  have HA := Lib.hid ha
  clear ha
  go_enter Tryd.func48, Tryd.ntmps48
  go_wp2
  refine wp_loop_rounds 9 ?_
  rw [rounds_succ]; go_wp2
  · go_returns; exact ⟨ret_bool (hw_not a 0 (by assumption)), by go_grown⟩
  rw [rounds_succ]; go_wp2
  · go_returns; exact ⟨ret_bool (hw_not a 1 (by assumption)), by go_grown⟩
  rw [rounds_succ]; go_wp2
  · go_returns; exact ⟨ret_bool (hw_not a 2 (by assumption)), by go_grown⟩
  rw [rounds_succ]; go_wp2
  · go_returns; exact ⟨ret_bool (hw_not a 3 (by assumption)), by go_grown⟩
  rw [rounds_succ]; go_wp2
  · go_returns; exact ⟨ret_bool (hw_not a 4 (by assumption)), by go_grown⟩
  rw [rounds_succ]; go_wp2
  · go_returns; exact ⟨ret_bool (hw_not a 5 (by assumption)), by go_grown⟩
  rw [rounds_succ]; go_wp2
  · go_returns; exact ⟨ret_bool (hw_not a 6 (by assumption)), by go_grown⟩
  rw [rounds_succ]; go_wp2
  · go_returns; exact ⟨ret_bool (hw_not a 7 (by assumption)), by go_grown⟩
  rw [rounds_succ]; go_wp2
  go_returns
  refine ⟨ret_bool ?_, by go_grown⟩
  have z : ∀ i, (hw a i != 0) = false → hw a i = 0 := fun i h => by simpa using h
  have : a = 0 := hw_none a HA.out (z 0 (by assumption)) (z 1 (by assumption)) (z 2 (by assumption)) (z 3 (by assumption)) (z 4 (by assumption)) (z 5 (by assumption)) (z 6 (by assumption)) (z 7 (by assumption))
  unfold eqN; simp [this]

set_option maxHeartbeats 1000000 in
/-- compare: how two magnitudes compare. -/
theorem rcompare_any (a b : Nat) (ha : a < 2 ^ 256) (hb : b < 2 ^ 256) (w : World) :
    Calls Tryd.prog 57 #[(.agg #[.int .u64 (hw (a) 0), .int .u64 (hw (a) 1), .int .u64 (hw (a) 2), .int .u64 (hw (a) 3), .int .u64 (hw (a) 4), .int .u64 (hw (a) 5), .int .u64 (hw (a) 6), .int .u64 (hw (a) 7)]), (.agg #[.int .u64 (hw (b) 0), .int .u64 (hw (b) 1), .int .u64 (hw (b) 2), .int .u64 (hw (b) 3), .int .u64 (hw (b) 4), .int .u64 (hw (b) 5), .int .u64 (hw (b) 6), .int .u64 (hw (b) 7)])] w fun e w' => e = .returned (.int .i64 (cmpN a b)) ∧ Below w.heap.size w w' := by
  have HA := Lib.hid ha
  have HB := Lib.hid hb
  clear ha hb
  go_enter Tryd.func57, Tryd.ntmps57
  go_wp2
  refine wp_loop_rounds 9 ?_
  rw [rounds_succ]; go_wp2; go_region; go_wp2
  · go_returns; exact ⟨ret_int (by rw [hcmp_L7 HA.out HB.out (by assumption)]), by go_grown⟩
  go_region; go_wp2
  · go_returns; exact ⟨ret_int (by rw [hcmp_G7 HA.out HB.out (by assumption)]), by go_grown⟩
  rw [rounds_succ]; go_wp2; go_region; go_wp2
  · go_returns; exact ⟨ret_int (by rw [hcmp_L6 HA.out HB.out (by assumption) (by assumption) (by assumption)]), by go_grown⟩
  go_region; go_wp2
  · go_returns; exact ⟨ret_int (by rw [hcmp_G6 HA.out HB.out (by assumption) (by assumption) (by assumption)]), by go_grown⟩
  rw [rounds_succ]; go_wp2; go_region; go_wp2
  · go_returns; exact ⟨ret_int (by rw [hcmp_L5 HA.out HB.out (by assumption) (by assumption) (by assumption) (by assumption) (by assumption)]), by go_grown⟩
  go_region; go_wp2
  · go_returns; exact ⟨ret_int (by rw [hcmp_G5 HA.out HB.out (by assumption) (by assumption) (by assumption) (by assumption) (by assumption)]), by go_grown⟩
  rw [rounds_succ]; go_wp2; go_region; go_wp2
  · go_returns; exact ⟨ret_int (by rw [hcmp_L4 HA.out HB.out (by assumption) (by assumption) (by assumption) (by assumption) (by assumption) (by assumption) (by assumption)]), by go_grown⟩
  go_region; go_wp2
  · go_returns; exact ⟨ret_int (by rw [hcmp_G4 HA.out HB.out (by assumption) (by assumption) (by assumption) (by assumption) (by assumption) (by assumption) (by assumption)]), by go_grown⟩
  rw [rounds_succ]; go_wp2; go_region; go_wp2
  · go_returns; exact ⟨ret_int (by rw [hcmp_L3 HA.out HB.out (by assumption) (by assumption) (by assumption) (by assumption) (by assumption) (by assumption) (by assumption) (by assumption) (by assumption)]), by go_grown⟩
  go_region; go_wp2
  · go_returns; exact ⟨ret_int (by rw [hcmp_G3 HA.out HB.out (by assumption) (by assumption) (by assumption) (by assumption) (by assumption) (by assumption) (by assumption) (by assumption) (by assumption)]), by go_grown⟩
  rw [rounds_succ]; go_wp2; go_region; go_wp2
  · go_returns; exact ⟨ret_int (by rw [hcmp_L2 HA.out HB.out (by assumption) (by assumption) (by assumption) (by assumption) (by assumption) (by assumption) (by assumption) (by assumption) (by assumption) (by assumption) (by assumption)]), by go_grown⟩
  go_region; go_wp2
  · go_returns; exact ⟨ret_int (by rw [hcmp_G2 HA.out HB.out (by assumption) (by assumption) (by assumption) (by assumption) (by assumption) (by assumption) (by assumption) (by assumption) (by assumption) (by assumption) (by assumption)]), by go_grown⟩
  rw [rounds_succ]; go_wp2; go_region; go_wp2
  · go_returns; exact ⟨ret_int (by rw [hcmp_L1 HA.out HB.out (by assumption) (by assumption) (by assumption) (by assumption) (by assumption) (by assumption) (by assumption) (by assumption) (by assumption) (by assumption) (by assumption) (by assumption) (by assumption)]), by go_grown⟩
  go_region; go_wp2
  · go_returns; exact ⟨ret_int (by rw [hcmp_G1 HA.out HB.out (by assumption) (by assumption) (by assumption) (by assumption) (by assumption) (by assumption) (by assumption) (by assumption) (by assumption) (by assumption) (by assumption) (by assumption) (by assumption)]), by go_grown⟩
  rw [rounds_succ]; go_wp2; go_region; go_wp2
  · go_returns; exact ⟨ret_int (by rw [hcmp_L0 HA.out HB.out (by assumption) (by assumption) (by assumption) (by assumption) (by assumption) (by assumption) (by assumption) (by assumption) (by assumption) (by assumption) (by assumption) (by assumption) (by assumption) (by assumption) (by assumption)]), by go_grown⟩
  go_region; go_wp2
  · go_returns; exact ⟨ret_int (by rw [hcmp_G0 HA.out HB.out (by assumption) (by assumption) (by assumption) (by assumption) (by assumption) (by assumption) (by assumption) (by assumption) (by assumption) (by assumption) (by assumption) (by assumption) (by assumption) (by assumption) (by assumption)]), by go_grown⟩
  rw [rounds_succ]; go_wp2
  go_returns; exact ⟨ret_int (by rw [hcmp_E HA.out HB.out (by assumption) (by assumption) (by assumption) (by assumption) (by assumption) (by assumption) (by assumption) (by assumption) (by assumption) (by assumption) (by assumption) (by assumption) (by assumption) (by assumption) (by assumption) (by assumption)]), by go_grown⟩
end Go.Proofs.YtnbdccobfmlhbaaDoor
