/-
  Points in the plane: what the reference's and the program's small functions return.
-/
import Derived.Test.YtkpochkfijplaaaLin
import Derived.Test.YtkpochkfijplaaaPrD
namespace Go.Proofs.Ytkpochkfijplaaa
set_option linter.all false
open Go Go.RowKit Wd
set_option maxRecDepth 100000
/-- The sign of a number. -/
@[irreducible] def sgn (n : Int) : Int := if n < 0 then -1 else if 0 < n then 1 else 0
theorem sgn_abs (n : Int) : -1 ≤ sgn n ∧ sgn n ≤ 1 := by unfold sgn; split <;> (try split) <;> omega
theorem sgn_mul (a b : Int) : -1 ≤ sgn a * sgn b ∧ sgn a * sgn b ≤ 1 := by
  have h1 := sgn_abs a
  have h2 := sgn_abs b
  have := abs_mul_le (a := sgn a) (b := sgn b) (m := 1) (k := 1) h1 h2 (by omega) (by omega)
  omega
/-- Whether two edges meet. -/
@[irreducible] def mtB (ax ay bx b_y cx cy dx dy : Int) : Bool :=
  onB ax ay cx cy dx dy || onB bx b_y cx cy dx dy || onB cx cy ax ay bx b_y || onB dx dy ax ay bx b_y ||
  (decide (sgn (trn ax ay bx b_y cx cy) * sgn (trn ax ay bx b_y dx dy) < 0) && decide (sgn (trn cx cy dx dy ax ay) * sgn (trn cx cy dx dy bx b_y) < 0))
/-- Whether a point's coordinates are small. -/
@[irreducible] def nrB (x y : Int) : Bool := decide (-32768 ≤ x) && decide (x ≤ 32768) && decide (-32768 ≤ y) && decide (y ≤ 32768)
theorem nrB_iff {x y : Int} : nrB x y = true ↔ (-32768 ≤ x ∧ x ≤ 32768) ∧ -32768 ≤ y ∧ y ≤ 32768 := by unfold nrB; simp [and_assoc]
/-- Small numbers. -/
def Sm (x : Int) : Prop := -32768 ≤ x ∧ x ≤ 32768
theorem trn_abs {ax ay bx b_y cx cy : Int} (h0 : Sm ax) (h1 : Sm ay) (h2 : Sm bx) (h3 : Sm b_y) (h4 : Sm cx) (h5 : Sm cy) :
    (-4294967296 ≤ (bx - ax) * (cy - ay) ∧ (bx - ax) * (cy - ay) ≤ 4294967296) ∧ (-4294967296 ≤ (b_y - ay) * (cx - ax) ∧ (b_y - ay) * (cx - ax) ≤ 4294967296) := by
  unfold Sm at *
  have p1 := abs_mul_le (a := bx - ax) (b := cy - ay) (m := 65536) (k := 65536) (by omega) (by omega) (by omega) (by omega)
  have p2 := abs_mul_le (a := b_y - ay) (b := cx - ax) (m := 65536) (k := 65536) (by omega) (by omega) (by omega) (by omega)
  omega
theorem trn_bd {ax ay bx b_y cx cy : Int} (h0 : Sm ax) (h1 : Sm ay) (h2 : Sm bx) (h3 : Sm b_y) (h4 : Sm cx) (h5 : Sm cy) :
    -8589934592 ≤ trn ax ay bx b_y cx cy ∧ trn ax ay bx b_y cx cy ≤ 8589934592 := by
  have := trn_abs h0 h1 h2 h3 h4 h5
  unfold trn
  omega
set_option maxHeartbeats 1000000 in
theorem turn_any {ax ay bx b_y cx cy : Int} (h0 : Sm ax) (h1 : Sm ay) (h2 : Sm bx) (h3 : Sm b_y) (h4 : Sm cx) (h5 : Sm cy) (w : World) :
    Calls Try.prog 19 #[.agg #[.int .i64 ax, .int .i64 ay], .agg #[.int .i64 bx, .int .i64 b_y], .agg #[.int .i64 cx, .int .i64 cy]] w fun e w' => e = .returned (.int .i64 (trn ax ay bx b_y cx cy)) ∧ Below w.heap.size w w' := by
  have p := trn_abs h0 h1 h2 h3 h4 h5
  have e : trn ax ay bx b_y cx cy = (bx - ax) * (cy - ay) - (b_y - ay) * (cx - ax) := by unfold trn; rfl
  have E := Lib.hid e
  clear e
  unfold Sm at *
  obtain ⟨⟨p1, p2⟩, p3, p4⟩ := p
  obtain ⟨a1, a2⟩ := h0
  obtain ⟨b1, b2⟩ := h1
  obtain ⟨c1, c2⟩ := h2
  obtain ⟨d1, d2⟩ := h3
  obtain ⟨e1, e2⟩ := h4
  obtain ⟨f1, f2⟩ := h5
  go_enter Try.func19, Try.ntmps19
  go_wp2
  go_returns
  exact ⟨ret_int E.out.symm, by (repeat' (first | (with_reducible exact Below.refl _ _) | (with_reducible assumption) | (with_reducible refine below_alloc ?_ _) | (with_reducible refine Below.drew ?_) | (with_reducible refine Below.setCell ?_ ?_ _) | (with_reducible refine below_after ?_ (by assumption)) | go_size))⟩
set_option maxHeartbeats 1000000 in
theorem cross_any {ax ay bx b_y cx cy : Int} (h0 : Sm ax) (h1 : Sm ay) (h2 : Sm bx) (h3 : Sm b_y) (h4 : Sm cx) (h5 : Sm cy) (w : World) :
    Calls Try.prog 66 #[.agg #[.int .i64 ax, .int .i64 ay], .agg #[.int .i64 bx, .int .i64 b_y], .agg #[.int .i64 cx, .int .i64 cy]] w fun e w' => e = .returned (.int .i64 (trn ax ay bx b_y cx cy)) ∧ Below w.heap.size w w' := by
  have p := trn_abs h0 h1 h2 h3 h4 h5
  have e : trn ax ay bx b_y cx cy = (bx - ax) * (cy - ay) - (b_y - ay) * (cx - ax) := by unfold trn; rfl
  have E := Lib.hid e
  clear e
  unfold Sm at *
  obtain ⟨⟨p1, p2⟩, p3, p4⟩ := p
  obtain ⟨a1, a2⟩ := h0
  obtain ⟨b1, b2⟩ := h1
  obtain ⟨c1, c2⟩ := h2
  obtain ⟨d1, d2⟩ := h3
  obtain ⟨e1, e2⟩ := h4
  obtain ⟨f1, f2⟩ := h5
  go_enter Try.func66, Try.ntmps66
  go_wp2
  go_returns
  exact ⟨ret_int E.out.symm, by (repeat' (first | (with_reducible exact Below.refl _ _) | (with_reducible assumption) | (with_reducible refine below_alloc ?_ _) | (with_reducible refine Below.drew ?_) | (with_reducible refine Below.setCell ?_ ?_ _) | (with_reducible refine below_after ?_ (by assumption)) | go_size))⟩
set_option maxHeartbeats 1000000 in
theorem rsign_any (n : Int) (w : World) : Calls Try.prog 50 #[.int .i64 n] w fun e w' => e = .returned (.int .i64 (sgn n)) ∧ Below w.heap.size w w' := by
  rcases (by omega : n < 0 ∨ 0 < n ∨ n = 0) with h | h | h
  · have E := Lib.hid (show sgn n = -1 by unfold sgn; rw [if_pos h])
    go_enter Try.func50, Try.ntmps50
    go_wp2
    go_returns
    exact ⟨ret_int E.out.symm, by (repeat' (first | (with_reducible exact Below.refl _ _) | (with_reducible assumption) | (with_reducible refine below_alloc ?_ _) | (with_reducible refine Below.drew ?_) | (with_reducible refine Below.setCell ?_ ?_ _) | (with_reducible refine below_after ?_ (by assumption)) | go_size))⟩
  · have E := Lib.hid (show sgn n = 1 by unfold sgn; rw [if_neg (by omega), if_pos h])
    have h2 : ¬ n < 0 := by omega
    go_enter Try.func50, Try.ntmps50
    go_wp2
    go_returns
    exact ⟨ret_int E.out.symm, by (repeat' (first | (with_reducible exact Below.refl _ _) | (with_reducible assumption) | (with_reducible refine below_alloc ?_ _) | (with_reducible refine Below.drew ?_) | (with_reducible refine Below.setCell ?_ ?_ _) | (with_reducible refine below_after ?_ (by assumption)) | go_size))⟩
  · subst h
    have E := Lib.hid (show sgn 0 = 0 by unfold sgn; rfl)
    go_enter Try.func50, Try.ntmps50
    go_wp2
    go_returns
    exact ⟨ret_int E.out.symm, by (repeat' (first | (with_reducible exact Below.refl _ _) | (with_reducible assumption) | (with_reducible refine below_alloc ?_ _) | (with_reducible refine Below.drew ?_) | (with_reducible refine Below.setCell ?_ ?_ _) | (with_reducible refine below_after ?_ (by assumption)) | go_size))⟩
set_option maxHeartbeats 1000000 in
theorem Near_any (x y : Int) (w : World) : Calls Try.prog 37 #[.agg #[.int .i64 x, .int .i64 y]] w fun e w' => e = .returned (.bool (nrB x y)) ∧ Below w.heap.size w w' := by
  have E := Lib.hid (show nrB x y = (decide (-32768 ≤ x) && decide (x ≤ 32768) && decide (-32768 ≤ y) && decide (y ≤ 32768)) by unfold nrB; rfl)
  go_enter Try.func37, Try.ntmps37
  go_wp2
  all_goals
    go_returns
    refine ⟨ret_bool (E.out.trans ?_).symm, by (repeat' (first | (with_reducible exact Below.refl _ _) | (with_reducible assumption) | (with_reducible refine below_alloc ?_ _) | (with_reducible refine Below.drew ?_) | (with_reducible refine Below.setCell ?_ ?_ _) | (with_reducible refine below_after ?_ (by assumption)) | go_size))⟩
    first | (simp [*]; done) | (simp [*]; omega)
set_option maxHeartbeats 2000000 in
theorem On_any {qx qy ax ay bx b_y : Int} (h0 : Sm qx) (h1 : Sm qy) (h2 : Sm ax) (h3 : Sm ay) (h4 : Sm bx) (h5 : Sm b_y) (w : World) :
    Calls Try.prog 38 #[.agg #[.int .i64 qx, .int .i64 qy], .agg #[.int .i64 ax, .int .i64 ay], .agg #[.int .i64 bx, .int .i64 b_y]] w fun e w' => e = .returned (.bool (onB qx qy ax ay bx b_y)) ∧ Below w.heap.size w w' := by
  have K := Lib.hid (turn_any h2 h3 h4 h5 h0 h1)
  have E := Lib.hid (show onB qx qy ax ay bx b_y = (decide (trn ax ay bx b_y qx qy = 0) && decide (min ax bx ≤ qx) && decide (qx ≤ max ax bx) && decide (min ay b_y ≤ qy) && decide (qy ≤ max ay b_y)) by unfold onB; rfl)
  generalize trn ax ay bx b_y qx qy = t at *
  clear h0 h1 h2 h3 h4 h5
  go_enter Try.func38, Try.ntmps38
  go_wp2_with fail
  ((with_reducible refine (K.out _).mono ?_); rintro e w1 ⟨rfl, hb1⟩)
  obtain ⟨hc1, hf1⟩ := bcell hb1
  have hz1_w_0 : w.heap.size < w1.heap.size := by have h := hb1.size; (try simp at h); omega
  have hz1_w_1 : w.heap.size + 1 < w1.heap.size := by have h := hb1.size; (try simp at h); omega
  have hz1_w_2 : w.heap.size + 1 + 1 < w1.heap.size := by have h := hb1.size; (try simp at h); omega
  go_wp2
  all_goals
    go_returns
    refine ⟨ret_bool (E.out.trans ?_).symm, by (repeat' (first | (with_reducible exact Below.refl _ _) | (with_reducible assumption) | (with_reducible refine below_alloc ?_ _) | (with_reducible refine Below.drew ?_) | (with_reducible refine Below.setCell ?_ ?_ _) | (with_reducible refine below_after ?_ (by assumption)) | go_size))⟩
    first | (simp [*]; done) | (simp [*]; omega)
end Go.Proofs.Ytkpochkfijplaaa
