/-
  What mesh.beyond, the library's search through a surface's points, and mesh.determinant return.
-/
import Derived.Test.YtkpochkfijplaaaQMeshS
import Derived.BigRegion

namespace Go.Proofs.Ytkpochkfijplaaa
set_option linter.all false
open Go Go.RowKit Wd
set_option maxRecDepth 100000
set_option maxHeartbeats 2000000 in
theorem beyond_in (x y z : Int) (hx : -1048576 ≤ x) (hx' : x ≤ 1048576) (hy : -1048576 ≤ y) (hy' : y ≤ 1048576) (hz : -1048576 ≤ z) (hz' : z ≤ 1048576) (w : World) :
    Calls Try.prog 31 #[.agg #[.int .i64 x, .int .i64 y, .int .i64 z]] w fun e w' => e = .returned (.bool false) ∧ Below w.heap.size w w' := by
  go_enter Try.func31, Try.ntmps31
  go_wp2
  all_goals go_returns
  all_goals exact ⟨ret_bool (by first | rfl | (simp; done) | (simp; omega)), by (repeat' (first | (with_reducible exact Below.refl _ _) | (with_reducible assumption) | (with_reducible refine below_alloc ?_ _) | (with_reducible refine Below.drew ?_) | (with_reducible refine Below.setCell ?_ ?_ _) | (with_reducible refine below_after ?_ (by assumption)) | go_size))⟩
set_option maxHeartbeats 2000000 in
theorem index_in (g np c : Nat) (P : Nat → Int) (hn : np ≤ 1000000) (hP : ∀ j, j < np * 3 → -1048576 ≤ P j ∧ P j ≤ 1048576) (w : World) (h : RowI w g (np * 3) P) (lg : g < w.heap.size) :
    Calls Try.prog 48 #[.slice (some ⟨g, 0, none⟩) np c, .func (.func 31) #[] #[]] w fun e w' => e = .returned (.int .i64 (-1)) ∧ Below w.heap.size w w' := by
  have eg : ∀ args w, (callFunc 31 args).run Try.prog w = .ok (.enter 31 args) w := enters_of Try.func31 (by kernel_rfl) rfl
  have HP := Lib.hid hP
  have HR := Lib.hid h
  clear hP h
  go_enter Try.func48, Try.ntmps48
  go_wp2
  go_loopg [5, 8] np (fun gg _ v wr => ∃ j : Nat, j ≤ np ∧ np - j ≤ gg ∧ v = .int .i64 (j : Int) ∧ Hid (Below w.heap.size w wr))
  case atStart => exact ⟨0, by omega, by omega, rfl, Lib.hid (Below.refl _ _)⟩
  case round =>
    obtain ⟨j, hj, hgj, rfl, HB⟩ := hrel
    by_cases hlt : j < np
    · have hjn : (j : Int) < (np : Int) := by omega
      have hlr := keep_lt HB.out lg
      have f0 := (HB.out.cell (p := ⟨g, j * 3, none⟩) lg).trans (HR.out (j * 3) (by omega))
      have f1 := (HB.out.cell (p := ⟨g, j * 3 + 1, none⟩) lg).trans (HR.out (j * 3 + 1) (by omega))
      have f2 := (HB.out.cell (p := ⟨g, j * 3 + 2, none⟩) lg).trans (HR.out (j * 3 + 2) (by omega))
      have b0 := HP.out (j * 3) (by omega)
      have b1 := HP.out (j * 3 + 1) (by omega)
      have b2 := HP.out (j * 3 + 2) (by omega)
      generalize P (j * 3) = x at *
      generalize P (j * 3 + 1) = y at *
      generalize P (j * 3 + 2) = z at *
      have K := Lib.hid (fun w => beyond_in x y z b0.1 b0.2 b1.1 b1.2 b2.1 b2.2 w)
      have hbr := HB.out
      go_wp2_with (go_at_fn 31; refine (K.out _).mono ?_; rintro e w' ⟨rfl, hb1⟩)
      go_roundg (np - (j + 1))
      case rel => exact ⟨j + 1, by omega, by omega, by go_num, Lib.hid (by (repeat' (first | (with_reducible exact Below.refl _ _) | (with_reducible assumption) | (with_reducible refine below_alloc ?_ _) | (with_reducible refine Below.drew ?_) | (with_reducible refine Below.setCell ?_ ?_ _) | (with_reducible refine below_after ?_ (by assumption)) | go_size)))⟩
      case measure => omega
    · obtain rfl : j = np := by omega
      have hjn : ¬ (j : Int) < (j : Int) := by omega
      have hbr := HB.out
      go_wp2
      go_returns
      exact ⟨rfl, hbr⟩
set_option maxHeartbeats 2000000 in
theorem contains_in (g np c : Nat) (P : Nat → Int) (hn : np ≤ 1000000) (hP : ∀ j, j < np * 3 → -1048576 ≤ P j ∧ P j ≤ 1048576) (w : World) (h : RowI w g (np * 3) P) (lg : g < w.heap.size) :
    Calls Try.prog 30 #[.slice (some ⟨g, 0, none⟩) np c, .func (.func 31) #[] #[]] w fun e w' => e = .returned (.bool false) ∧ Below w.heap.size w w' := by
  have K := Lib.hid (index_in g np c P hn hP w h lg)
  clear hP h
  go_enter Try.func30, Try.ntmps30
  go_wp2_with fail
  ((with_reducible refine K.out.mono ?_); rintro e w1 ⟨rfl, hb1⟩)
  go_wp2
  go_returns
  exact ⟨rfl, by (repeat' (first | (with_reducible exact Below.refl _ _) | (with_reducible assumption) | (with_reducible refine below_alloc ?_ _) | (with_reducible refine Below.drew ?_) | (with_reducible refine Below.setCell ?_ ?_ _) | (with_reducible refine below_after ?_ (by assumption)) | go_size))⟩
/-- The determinant of three points. -/
@[irreducible] def det3 (a b c p q r x y z : Int) : Int := a * (q * z - r * y) + b * (r * x - p * z) + c * (p * y - q * x)
end Go.Proofs.Ytkpochkfijplaaa
