/-
  What the statements' wedge returns: the form of the chapter.
-/
import Derived.Test.YtfmmnnodihpgmaaDoorHAwA
import Derived.Test.YtfmmnnodihpgmaaDoorHullF
import Derived.Test.YtfmmnnodihpgmaaDoorOutB
namespace Go.Proofs.YtfmmnnodihpgmaaDoor
set_option linter.all false
open Go Go.RowKit Wd
set_option maxRecDepth 100000
def wX : List Int := [0, 100]
def wZ : List Int := [0, 10, 20]
def wH : List (List Int) := [[0, 6, 6], [0, 6, 6]]
theorem ints_of {w : World} {b : Nat} {l : List Int} (cs : Array Value) (hb : b < w.heap.size) (hc : ∀ o, w.cell? ⟨b, o, none⟩ = cs[o]?) (he : ∀ j, j < l.length → cs[j]? = some (.int .i64 (ix l j))) : Ints w b 0 l :=
  ⟨hb, fun j hj => by rw [Nat.zero_add, hc, he j hj]⟩
set_option maxHeartbeats 1000000 in
theorem wedge_any (w : World) :
    Calls Tryd.prog 27 #[] w fun e w' => e = .returned (.agg #[.slice (some ⟨w.heap.size + 1, 0, none⟩) 2 2, .slice (some ⟨w.heap.size + 1 + 1, 0, none⟩) 3 3, .slice (some ⟨w.heap.size + 1 + 1 + 1 + 1 + 1, 0, none⟩) 2 2]) ∧ Below w.heap.size w w' ∧ w.heap.size + 1 + 1 + 1 + 1 + 1 < w'.heap.size
      ∧ (∀ o, w'.cell? ⟨w.heap.size + 1, o, none⟩ = (#[.int .i64 0, .int .i64 100] : Array Value)[o]?) ∧ (∀ o, w'.cell? ⟨w.heap.size + 1 + 1, o, none⟩ = (#[.int .i64 0, .int .i64 10, .int .i64 20] : Array Value)[o]?)
      ∧ (∀ o, w'.cell? ⟨w.heap.size + 1 + 1 + 1, o, none⟩ = (#[.int .i64 0, .int .i64 6, .int .i64 6] : Array Value)[o]?) ∧ (∀ o, w'.cell? ⟨w.heap.size + 1 + 1 + 1 + 1, o, none⟩ = (#[.int .i64 0, .int .i64 6, .int .i64 6] : Array Value)[o]?)
      ∧ (∀ o, w'.cell? ⟨w.heap.size + 1 + 1 + 1 + 1 + 1, o, none⟩ = (#[.slice (some ⟨w.heap.size + 1 + 1 + 1, 0, none⟩) 3 3, .slice (some ⟨w.heap.size + 1 + 1 + 1 + 1, 0, none⟩) 3 3] : Array Value)[o]?) := by
  go_enter Tryd.func27, Tryd.ntmps27
  go_wp2_with ((with_reducible show bodyPost _ _ _ _ _ _); refine bodyPost_ret (by simp [results, Tryd.results27, go_sem]; try rfl) rfl ?_; exact ⟨rfl, by (repeat' (first | (with_reducible exact Below.refl _ _) | (with_reducible assumption) | (with_reducible refine below_alloc ?_ _) | (with_reducible refine Below.drew ?_) | (with_reducible refine Below.setCell ?_ ?_ _) | (with_reducible refine below_after ?_ (by assumption)) | go_size)), by simp, fun o => by simp [go_sem], fun o => by simp [go_sem], fun o => by simp [go_sem], fun o => by simp [go_sem], fun o => by simp [go_sem]⟩)
theorem Frm.wedge {w : World} {B : Nat} (hz : B + 1 + 1 + 1 + 1 + 1 < w.heap.size)
    (h1 : ∀ o, w.cell? ⟨B + 1, o, none⟩ = (#[.int .i64 0, .int .i64 100] : Array Value)[o]?) (h2 : ∀ o, w.cell? ⟨B + 1 + 1, o, none⟩ = (#[.int .i64 0, .int .i64 10, .int .i64 20] : Array Value)[o]?)
    (h3 : ∀ o, w.cell? ⟨B + 1 + 1 + 1, o, none⟩ = (#[.int .i64 0, .int .i64 6, .int .i64 6] : Array Value)[o]?) (h4 : ∀ o, w.cell? ⟨B + 1 + 1 + 1 + 1, o, none⟩ = (#[.int .i64 0, .int .i64 6, .int .i64 6] : Array Value)[o]?)
    (h5 : ∀ o, w.cell? ⟨B + 1 + 1 + 1 + 1 + 1, o, none⟩ = (#[.slice (some ⟨B + 1 + 1 + 1, 0, none⟩) 3 3, .slice (some ⟨B + 1 + 1 + 1 + 1, 0, none⟩) 3 3] : Array Value)[o]?) :
    Frm w (some ⟨B + 1, 0, none⟩) (some ⟨B + 1 + 1, 0, none⟩) (some ⟨B + 1 + 1 + 1 + 1 + 1, 0, none⟩) (fun i => some ⟨B + 3 + i, 0, none⟩) (fun _ => 3) wX wZ wH := by
  have row0 : row wH 0 = [0, 6, 6] := by unfold row; rfl
  have row1 : row wH 1 = [0, 6, 6] := by unfold row; rfl
  have r3 : ∀ j, j < 3 → (#[.int .i64 0, .int .i64 6, .int .i64 6] : Array Value)[j]? = some (.int .i64 (ix [0, 6, 6] j)) := fun j hj => by
    obtain rfl | rfl | rfl : j = 0 ∨ j = 1 ∨ j = 2 := by omega
    all_goals (unfold ix; rfl)
  refine ⟨(ints_of _ (by omega) h1 (fun j hj => ?_)).has, (ints_of _ (by omega) h2 (fun j hj => ?_)).has, fun _ => ⟨_, _, rfl, hz, fun i hi => ?_, fun i hi => ?_⟩⟩
  · obtain rfl | rfl : j = 0 ∨ j = 1 := by simp [wX] at hj; omega
    all_goals (unfold ix; rfl)
  · obtain rfl | rfl | rfl : j = 0 ∨ j = 1 ∨ j = 2 := by simp [wZ] at hj; omega
    all_goals (unfold ix; rfl)
  · obtain rfl | rfl : i = 0 ∨ i = 1 := by simp [wH] at hi; omega
    · rw [row0, h5]; rfl
    · rw [row1, h5]; rfl
  · obtain rfl | rfl : i = 0 ∨ i = 1 := by simp [wH] at hi; omega
    · rw [row0]; exact (ints_of _ (by omega) h3 (fun j hj => r3 j (by simpa using hj))).has
    · rw [row1]; exact (ints_of _ (by omega) h4 (fun j hj => r3 j (by simpa using hj))).has
theorem aw_chk : chk wX wZ wH = 0 := by decide +kernel
theorem aw_stn1 : stn wX wZ wH 1 5 = 0 := by decide +kernel
theorem aw_stn2 : stn wX wZ wH 0 15 = 0 := by decide +kernel
theorem aw_rgt : rgt wX wZ wH 5 = 0 := by decide +kernel
theorem aw_band5 : bandN wZ 5 (wZ.length - 1) = 0 := by decide +kernel
theorem aw_band15 : bandN wZ 15 (wZ.length - 1) = 1 := by decide +kernel
theorem aw_h1 : rn (hfN wZ (row wH 1) 5 0) (hfD wZ 5 0) = 3 := by decide +kernel
theorem aw_h2 : rd (hfN wZ (row wH 1) 5 0) (hfD wZ 5 0) = 1 := by decide +kernel
theorem aw_s1 : s2N wZ (row wH 0) 15 1 = 240 := by decide +kernel
theorem aw_s2 : s2D wZ (row wH 0) 15 1 = 1 := by decide +kernel
def rl (n d : Int) : List Value := [.bool (zs (n)), .int .u64 (wd (Int.natAbs (n)) 0), .int .u64 (wd (Int.natAbs (n)) 1), .int .u64 (wd (Int.natAbs (n)) 2), .int .u64 (wd (Int.natAbs (n)) 3), .bool (zs (d)), .int .u64 (wd (Int.natAbs (d)) 0), .int .u64 (wd (Int.natAbs (d)) 1), .int .u64 (wd (Int.natAbs (d)) 2), .int .u64 (wd (Int.natAbs (d)) 3)]
theorem aw_x : olX wX wZ 5 0 wX.length = rl 0 1 ++ rl 50 1 ++ rl 100 1 := by kernel_rfl
theorem aw_y : olY wX wZ wH 5 0 wX.length = rl 3 1 ++ rl 3 1 ++ rl 3 1 := by kernel_rfl
theorem aw_p : (ptsP wX wZ wH 2).length = 36 := by kernel_rfl
theorem aw_f : (sidesF wX.length wZ.length (wX.length - 1) ++ flatsF wX.length wZ.length (wX.length - 1) ++ endsF wX.length wZ.length (wZ.length - 1)).length = 60 := by kernel_rfl
end Go.Proofs.YtfmmnnodihpgmaaDoor
