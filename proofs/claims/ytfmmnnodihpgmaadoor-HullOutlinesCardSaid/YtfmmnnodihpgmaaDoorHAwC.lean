/-
  The chapter's numbers: what awake returns.
-/
import Derived.Test.YtfmmnnodihpgmaaDoorHAwB
namespace Go.Proofs.YtfmmnnodihpgmaaDoor
set_option linter.all false
open Go Go.RowKit Wd
set_option maxRecDepth 100000
def WF (B : Nat) (W : World) : Prop := Frm W (some ⟨B + 1, 0, none⟩) (some ⟨B + 1 + 1, 0, none⟩) (some ⟨B + 1 + 1 + 1 + 1 + 1, 0, none⟩) (fun i => some ⟨B + 3 + i, 0, none⟩) (fun _ => 3) wX wZ wH
theorem WF.kp {B : Nat} {W x : World} (h : WF B W) (k : Kp W.heap.size [] W x) : WF B x := Frm.kp h k
theorem WF.later {B : Nat} {W x : World} (h : WF B W) (k : Below W.heap.size W x) : WF B x := Frm.later h k
theorem awk_half (B : Nat) (W : World) (hF : WF B W) (hT : Tab64 W) : Calls Tryd.prog 13 #[.agg #[.slice (some ⟨B + 1, 0, none⟩) 2 2, .slice (some ⟨B + 1 + 1, 0, none⟩) 3 3, .slice (some ⟨B + 1 + 1 + 1 + 1 + 1, 0, none⟩) 2 2], .int .i64 1, .int .i64 5] W fun e w' => e = .returned (.tuple #[(.agg #[.bool (zs (3)), .int .u64 (wd (Int.natAbs (3)) 0), .int .u64 (wd (Int.natAbs (3)) 1), .int .u64 (wd (Int.natAbs (3)) 2), .int .u64 (wd (Int.natAbs (3)) 3), .bool (zs (1)), .int .u64 (wd (Int.natAbs (1)) 0), .int .u64 (wd (Int.natAbs (1)) 1), .int .u64 (wd (Int.natAbs (1)) 2), .int .u64 (wd (Int.natAbs (1)) 3)]), .int .i64 0]) ∧ Below W.heap.size W w' := by
  have h := Half_ok _ _ _ 2 3 2 _ _ wX wZ wH 1 5 aw_stn1 W hF hT
  rw [aw_band5, aw_h1, aw_h2] at h
  exact h
theorem awk_sec (B : Nat) (W : World) (hF : WF B W) (hT : Tab64 W) : Calls Tryd.prog 15 #[.agg #[.slice (some ⟨B + 1, 0, none⟩) 2 2, .slice (some ⟨B + 1 + 1, 0, none⟩) 3 3, .slice (some ⟨B + 1 + 1 + 1 + 1 + 1, 0, none⟩) 2 2], .int .i64 0, .int .i64 15] W fun e w' => e = .returned (.tuple #[(.agg #[.bool (zs (240)), .int .u64 (wd (Int.natAbs (240)) 0), .int .u64 (wd (Int.natAbs (240)) 1), .int .u64 (wd (Int.natAbs (240)) 2), .int .u64 (wd (Int.natAbs (240)) 3), .bool (zs (1)), .int .u64 (wd (Int.natAbs (1)) 0), .int .u64 (wd (Int.natAbs (1)) 1), .int .u64 (wd (Int.natAbs (1)) 2), .int .u64 (wd (Int.natAbs (1)) 3)]), .int .i64 0]) ∧ Below W.heap.size W w' := by
  have h := Section2_ok _ _ _ 2 3 2 _ _ wX wZ wH 0 15 aw_stn2 W hF hT
  rw [aw_band15, aw_s1, aw_s2, ← r_small (by omega) (by omega)] at h
  exact h
theorem awk_check (B : Nat) (W : World) (hF : WF B W) : Calls Tryd.prog 11 #[.agg #[.slice (some ⟨B + 1, 0, none⟩) 2 2, .slice (some ⟨B + 1 + 1, 0, none⟩) 3 3, .slice (some ⟨B + 1 + 1 + 1 + 1 + 1, 0, none⟩) 2 2]] W fun e w' => e = .returned (.int .i64 0) ∧ Below W.heap.size W w' := by
  have h := check_any _ _ _ 2 3 2 _ _ wX wZ wH W hF
  rw [aw_chk] at h
  exact h
theorem awk_none (W : World) : Calls Tryd.prog 11 #[.agg #[.slice none 0 0, .slice none 0 0, .slice none 0 0]] W fun e w' => e = .returned (.int .i64 3) ∧ Below W.heap.size W w' := by
  have h := check_any none none none 0 0 0 (fun _ => none) (fun _ => 0) [] [] [] W ⟨fun h => absurd h (by simp), fun h => absurd h (by simp), fun h => absurd h (by simp)⟩
  rw [show chk [] [] [] = 3 by decide +kernel] at h
  exact h
theorem row_of {w : World} {g n cap : Nat} {base : Nat} {P Q : Nat → Int} {xs : List Value} (h : w.ownsRow base 35 10 (.slice (some ⟨g, 0, none⟩) n cap) n xs) (he : ∀ j, j < n → ∀ o, o < 10 → xs[j * 10 + o]? = (#[.bool (zs (P j)), .int .u64 (wd (Int.natAbs (P j)) 0), .int .u64 (wd (Int.natAbs (P j)) 1), .int .u64 (wd (Int.natAbs (P j)) 2), .int .u64 (wd (Int.natAbs (P j)) 3), .bool (zs (Q j)), .int .u64 (wd (Int.natAbs (Q j)) 0), .int .u64 (wd (Int.natAbs (Q j)) 1), .int .u64 (wd (Int.natAbs (Q j)) 2), .int .u64 (wd (Int.natAbs (Q j)) 3)] : Array Value)[o]?) : RowR w g n P Q :=
  fun j hj o ho => by rw [h.cellAt (j * 10 + o) (by omega), he j hj o ho]
def P3 (a b c : Int) (j : Nat) : Int := if j = 0 then a else if j = 1 then b else c
theorem rl3 (a b c d : Int) : ∀ j, j < 3 → ∀ o, o < 10 → (rl a d ++ rl b d ++ rl c d)[j * 10 + o]? = (#[.bool (zs (P3 a b c j)), .int .u64 (wd (Int.natAbs (P3 a b c j)) 0), .int .u64 (wd (Int.natAbs (P3 a b c j)) 1), .int .u64 (wd (Int.natAbs (P3 a b c j)) 2), .int .u64 (wd (Int.natAbs (P3 a b c j)) 3), .bool (zs (d)), .int .u64 (wd (Int.natAbs (d)) 0), .int .u64 (wd (Int.natAbs (d)) 1), .int .u64 (wd (Int.natAbs (d)) 2), .int .u64 (wd (Int.natAbs (d)) 3)] : Array Value)[o]? := by
  intro j hj o ho
  have ho' : o = 0 ∨ o = 1 ∨ o = 2 ∨ o = 3 ∨ o = 4 ∨ o = 5 ∨ o = 6 ∨ o = 7 ∨ o = 8 ∨ o = 9 := by omega
  obtain rfl | rfl | rfl : j = 0 ∨ j = 1 ∨ j = 2 := by omega
  all_goals (rcases ho' with rfl | rfl | rfl | rfl | rfl | rfl | rfl | rfl | rfl | rfl <;> rfl)
theorem awk_out (B : Nat) (W : World) (hF : WF B W) (hT : Tab64 W) : Calls Tryd.prog 17 #[.agg #[.slice (some ⟨B + 1, 0, none⟩) 2 2, .slice (some ⟨B + 1 + 1, 0, none⟩) 3 3, .slice (some ⟨B + 1 + 1 + 1 + 1 + 1, 0, none⟩) 2 2], .int .i64 5] W fun e w' => ∃ g1 c1 g2 c2, e = .returned (.tuple #[.slice (some ⟨g1, 0, none⟩) 3 c1, .slice (some ⟨g2, 0, none⟩) 3 c2, .int .i64 0]) ∧ Below W.heap.size W w' ∧ RowR w' g1 3 (P3 0 50 100) (fun _ => 1) ∧ RowR w' g2 3 (P3 3 3 3) (fun _ => 1) ∧ g1 < w'.heap.size ∧ g2 < w'.heap.size := by
  have h := Outline_ok _ _ _ 2 3 2 _ _ wX wZ wH 5 aw_rgt W hF hT
  rw [aw_band5, aw_x, aw_y] at h
  refine h.mono fun e w' hh => ?_
  obtain ⟨xv, yv, nx, ny, he, hb, hx, hy⟩ := hh
  have n1 := hx.1
  have n2 := hy.1
  simp [rl] at n1 n2
  obtain rfl : nx = 3 := by omega
  obtain rfl : ny = 3 := by omega
  obtain ⟨g1, c1, rfl, -, l1⟩ := hx.form (by omega)
  obtain ⟨g2, c2, rfl, -, l2⟩ := hy.form (by omega)
  exact ⟨g1, c1, g2, c2, he, hb, row_of hx (rl3 0 50 100 1), row_of hy (rl3 3 3 3 1), l1, l2⟩
theorem awk_mesh (B : Nat) (W : World) (hF : WF B W) : Calls Tryd.prog 20 #[.agg #[.slice (some ⟨B + 1, 0, none⟩) 2 2, .slice (some ⟨B + 1 + 1, 0, none⟩) 3 3, .slice (some ⟨B + 1 + 1 + 1 + 1 + 1, 0, none⟩) 2 2]] W fun e w' => ∃ g1 c1 g2 c2, e = .returned (.tuple #[.agg #[.slice (some ⟨g1, 0, none⟩) 12 c1, .slice (some ⟨g2, 0, none⟩) 20 c2], .int .i64 0]) ∧ Below W.heap.size W w' := by
  have h := Mesh_ok _ _ _ 2 3 2 _ _ wX wZ wH aw_chk W hF
  refine h.mono fun e w' hh => ?_
  obtain ⟨pv, fv, np, nf, he, hb, hx, hy⟩ := hh
  have n1 := hx.1
  have n2 := hy.1
  rw [aw_p] at n1
  rw [aw_f] at n2
  obtain rfl : np = 12 := by omega
  obtain rfl : nf = 20 := by omega
  obtain ⟨g1, c1, rfl, -, l1⟩ := hx.form (by omega)
  obtain ⟨g2, c2, rfl, -, l2⟩ := hy.form (by omega)
  exact ⟨g1, c1, g2, c2, he, hb⟩
theorem RowR.kp {w x : World} {b n : Nat} {P Q : Nat → Int} (h : RowR w b n P Q) (hb : b < w.heap.size) (k : Kp w.heap.size [] w x) : RowR x b n P Q := fun j hj o ho => (k.cell _ _ hb (by simp)).trans (h j hj o ho)
theorem RowR.later {w x : World} {b n : Nat} {P Q : Nat → Int} (h : RowR w b n P Q) (hb : b < w.heap.size) (k : Below w.heap.size w x) : RowR x b n P Q := fun j hj o ho => (k.cell (p := ⟨b, j * 10 + o, none⟩) hb).trans (h j hj o ho)
theorem row_new (x : World) (a b c d : Int) (T : TypeId) : RowR (x.alloc (.cells #[.bool (zs (a)), .int .u64 (wd (Int.natAbs (a)) 0), .int .u64 (wd (Int.natAbs (a)) 1), .int .u64 (wd (Int.natAbs (a)) 2), .int .u64 (wd (Int.natAbs (a)) 3), .bool (zs (d)), .int .u64 (wd (Int.natAbs (d)) 0), .int .u64 (wd (Int.natAbs (d)) 1), .int .u64 (wd (Int.natAbs (d)) 2), .int .u64 (wd (Int.natAbs (d)) 3), .bool (zs (b)), .int .u64 (wd (Int.natAbs (b)) 0), .int .u64 (wd (Int.natAbs (b)) 1), .int .u64 (wd (Int.natAbs (b)) 2), .int .u64 (wd (Int.natAbs (b)) 3), .bool (zs (d)), .int .u64 (wd (Int.natAbs (d)) 0), .int .u64 (wd (Int.natAbs (d)) 1), .int .u64 (wd (Int.natAbs (d)) 2), .int .u64 (wd (Int.natAbs (d)) 3), .bool (zs (c)), .int .u64 (wd (Int.natAbs (c)) 0), .int .u64 (wd (Int.natAbs (c)) 1), .int .u64 (wd (Int.natAbs (c)) 2), .int .u64 (wd (Int.natAbs (c)) 3), .bool (zs (d)), .int .u64 (wd (Int.natAbs (d)) 0), .int .u64 (wd (Int.natAbs (d)) 1), .int .u64 (wd (Int.natAbs (d)) 2), .int .u64 (wd (Int.natAbs (d)) 3)] T)) x.heap.size 3 (P3 a b c) (fun _ => d) := by
  intro j hj o ho
  rw [World.cell?_alloc_new]
  have ho' : o = 0 ∨ o = 1 ∨ o = 2 ∨ o = 3 ∨ o = 4 ∨ o = 5 ∨ o = 6 ∨ o = 7 ∨ o = 8 ∨ o = 9 := by omega
  obtain rfl | rfl | rfl : j = 0 ∨ j = 1 ∨ j = 2 := by omega
  all_goals (rcases ho' with rfl | rfl | rfl | rfl | rfl | rfl | rfl | rfl | rfl | rfl <;> rfl)
end Go.Proofs.YtfmmnnodihpgmaaDoor
