/-
  What the statements' own plain returns, and comparisons with zero, for all of the ten.
-/
import Derived.Test.YtnbdccobfmlhbaaDoorAwake
namespace Go.Proofs.YtnbdccobfmlhbaaDoor
set_option linter.all false
open Go Go.RowKit Wd
set_option maxRecDepth 100000
theorem plain_zero (s : Bool) (w : World) :
    Calls Tryd.prog 24 #[(.agg #[.bool (s), .int .u64 (wd (0) 0), .int .u64 (wd (0) 1), .int .u64 (wd (0) 2), .int .u64 (wd (0) 3)])] w fun e w' => e = .returned (.agg #[.bool false, .int .u64 0, .int .u64 0, .int .u64 0, .int .u64 0]) ∧ Below w.heap.size w w' := by
  have h0 := eq_mag0 0 (by decide)
  have e0 : eqN 0 0 = true := by unfold eqN; simp
  rw [e0] at h0
  go_enter Tryd.func24, Tryd.ntmps24
  go_wp2_with ((with_reducible show bodyPost _ _ _ _ _ _); refine bodyPost_ret (by simp [results, Tryd.results24, go_sem, ]; try rfl) rfl ?_; exact ⟨rfl, by (repeat' (first | (with_reducible exact Below.refl _ _) | (with_reducible assumption) | (with_reducible refine below_alloc ?_ _) | (with_reducible refine Below.drew ?_) | (with_reducible refine Below.setCell ?_ ?_ _) | (with_reducible refine below_after ?_ (by assumption)) | go_size))⟩)
theorem plain_pos (s : Bool) (a : Nat) (ha : a < 2 ^ 256) (h : a ≠ 0) (w : World) :
    Calls Tryd.prog 24 #[(.agg #[.bool (s), .int .u64 (wd (a) 0), .int .u64 (wd (a) 1), .int .u64 (wd (a) 2), .int .u64 (wd (a) 3)])] w fun e w' => e = .returned (.agg #[.bool (s), .int .u64 (wd (a) 0), .int .u64 (wd (a) 1), .int .u64 (wd (a) 2), .int .u64 (wd (a) 3)]) ∧ Below w.heap.size w w' := by
  have h0 := eq_mag0 a ha
  have e0 : eqN a 0 = false := by unfold eqN; simp; omega
  rw [e0] at h0
  clear e0 ha h
  go_enter Tryd.func24, Tryd.ntmps24
  go_wp2_with ((with_reducible show bodyPost _ _ _ _ _ _); refine bodyPost_ret (by simp [results, Tryd.results24, go_sem, ]; try rfl) rfl ?_; exact ⟨rfl, by (repeat' (first | (with_reducible exact Below.refl _ _) | (with_reducible assumption) | (with_reducible refine below_alloc ?_ _) | (with_reducible refine Below.drew ?_) | (with_reducible refine Below.setCell ?_ ?_ _) | (with_reducible refine below_after ?_ (by assumption)) | go_size))⟩)
/-- What plain answers, as a test against zero. -/
theorem eq_wide0_pos (s : Bool) (a : Nat) (ha : a < 2 ^ 256) (h : a ≠ 0) (w : World) : (Op.equalIn 10000 25 (.agg #[.bool (s), .int .u64 (wd (a) 0), .int .u64 (wd (a) 1), .int .u64 (wd (a) 2), .int .u64 (wd (a) 3)]) (.agg #[.bool false, .int .u64 0, .int .u64 0, .int .u64 0, .int .u64 0])).run Tryd.prog w = .ok false w := by
  have e0 : eqN a 0 = false := by unfold eqN; simp; omega
  rw [eq_wide0 s a ha w, e0]; simp
theorem eq_z0 (z : Int) (hz : z.natAbs < 2 ^ 256) (w : World) : (Op.equalIn 10000 25 (.agg #[.bool (zs (z)), .int .u64 (wd (Int.natAbs (z)) 0), .int .u64 (wd (Int.natAbs (z)) 1), .int .u64 (wd (Int.natAbs (z)) 2), .int .u64 (wd (Int.natAbs (z)) 3)]) (.agg #[.bool false, .int .u64 0, .int .u64 0, .int .u64 0, .int .u64 0])).run Tryd.prog w = .ok (decide (z = 0)) w := by
  rw [eq_wide0 _ _ hz w]
  have e : (zs z == false && eqN z.natAbs 0) = decide (z = 0) := by
    unfold zs eqN
    by_cases h : z = 0
    · subst h; simp
    · have h1 : ¬ z.natAbs = 0 := by omega
      simp [h]
  rw [e]
theorem eq_00 (w : World) : (Op.equalIn 10000 25 (.agg #[.bool false, .int .u64 0, .int .u64 0, .int .u64 0, .int .u64 0]) (.agg #[.bool false, .int .u64 0, .int .u64 0, .int .u64 0, .int .u64 0])).run Tryd.prog w = .ok true w := by kernel_rfl
theorem z_zero : ((.agg #[.bool (zs (0)), .int .u64 (wd (Int.natAbs (0)) 0), .int .u64 (wd (Int.natAbs (0)) 1), .int .u64 (wd (Int.natAbs (0)) 2), .int .u64 (wd (Int.natAbs (0)) 3)]) : Value) = .agg #[.bool false, .int .u64 0, .int .u64 0, .int .u64 0, .int .u64 0] := by
  rw [z_lit 0 (by decide)]; rfl
theorem w_nat (n : Nat) : ((.agg #[.bool (zs (val false n)), .int .u64 (wd (Int.natAbs (val false n)) 0), .int .u64 (wd (Int.natAbs (val false n)) 1), .int .u64 (wd (Int.natAbs (val false n)) 2), .int .u64 (wd (Int.natAbs (val false n)) 3)]) : Value) = (.agg #[.bool (false), .int .u64 (wd (n) 0), .int .u64 (wd (n) 1), .int .u64 (wd (n) 2), .int .u64 (wd (n) 3)]) := by
  rw [abs_val, zs_val]; rfl
/-- plain: the valid form of the same number. -/
theorem plain_any (s : Bool) (a : Nat) (ha : a < 2 ^ 256) (w : World) :
    Calls Tryd.prog 24 #[(.agg #[.bool (s), .int .u64 (wd (a) 0), .int .u64 (wd (a) 1), .int .u64 (wd (a) 2), .int .u64 (wd (a) 3)])] w fun e w' => e = .returned (.agg #[.bool (zs (val s a)), .int .u64 (wd (Int.natAbs (val s a)) 0), .int .u64 (wd (Int.natAbs (val s a)) 1), .int .u64 (wd (Int.natAbs (val s a)) 2), .int .u64 (wd (Int.natAbs (val s a)) 3)]) ∧ Below w.heap.size w w' := by
  by_cases h : a = 0
  · subst h
    have e : val s 0 = 0 := by unfold val; cases s <;> simp
    rw [e, z_zero]
    exact plain_zero s w
  · have e0 : eqN a 0 = false := by unfold eqN; simp; omega
    have e1 : zs (val s a) = s := by rw [zs_val, e0]; simp
    rw [abs_val, e1]
    exact plain_pos s a ha h w
theorem eq_zz (z : Int) (hz : z.natAbs < 2 ^ 256) (w : World) : (Op.equalIn 10000 25 (.agg #[.bool (zs (z)), .int .u64 (wd (Int.natAbs (z)) 0), .int .u64 (wd (Int.natAbs (z)) 1), .int .u64 (wd (Int.natAbs (z)) 2), .int .u64 (wd (Int.natAbs (z)) 3)]) (.agg #[.bool (zs (z)), .int .u64 (wd (Int.natAbs (z)) 0), .int .u64 (wd (Int.natAbs (z)) 1), .int .u64 (wd (Int.natAbs (z)) 2), .int .u64 (wd (Int.natAbs (z)) 3)])).run Tryd.prog w = .ok true w := by
  rw [eq_wide _ _ _ _ hz hz w]
  have e : (zs z == zs z && eqN z.natAbs z.natAbs) = true := by unfold eqN; simp
  rw [e]
end Go.Proofs.YtnbdccobfmlhbaaDoor
