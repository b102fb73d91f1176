/-
  Whether a contour's points are small; when a contour is simple, as the reference says it.
-/
import Derived.Test.YtkpochkfijplaaaGeoB
namespace Go.Proofs.Ytkpochkfijplaaa
set_option linter.all false
open Go Go.RowKit Wd
set_option maxRecDepth 100000
/-- Points that lie in a row in block b from place o on. -/
structure Pts (w : World) (b o n : Nat) (X Y : Nat → Int) : Prop where
  lt : b < w.heap.size
  x : ∀ i, i < n → w.cell? ⟨b, o + i * 2, none⟩ = some (.int .i64 (X i))
  y : ∀ i, i < n → w.cell? ⟨b, o + i * 2 + 1, none⟩ = some (.int .i64 (Y i))
theorem Pts.later {w w' : World} {b o n : Nat} {X Y : Nat → Int} (h : Pts w b o n X Y) (hb : Below w.heap.size w w') : Pts w' b o n X Y :=
  ⟨keep_lt hb h.lt, fun i hi => (hb.cell (p := ⟨b, o + i * 2, none⟩) h.lt).trans (h.x i hi), fun i hi => (hb.cell (p := ⟨b, o + i * 2 + 1, none⟩) h.lt).trans (h.y i hi)⟩
/-- For all numbers below n. -/
@[irreducible] def allN (n : Nat) (f : Nat → Bool) : Bool := (List.range n).all f
theorem allN_iff {n : Nat} {f : Nat → Bool} : allN n f = true ↔ ∀ i, i < n → f i = true := by unfold allN; simp [List.all_eq_true]
theorem allN_no {n i : Nat} {f : Nat → Bool} (hi : i < n) (h : f i = false) : allN n f = false := by
  cases e : allN n f with
  | false => rfl
  | true => rw [allN_iff.1 e i hi] at h; cases h
@[irreducible] def nears (X Y : Nat → Int) (n : Nat) : Bool := allN n fun i => nrB (X i) (Y i)
set_option maxHeartbeats 2000000 in
theorem near_any (b o n c : Nat) (X Y : Nat → Int) (hn : n ≤ 100) (w : World) (hp : Pts w b o n X Y) :
    Calls Try.prog 17 #[.slice (some ⟨b, o, none⟩) n c] w fun e w' => e = .returned (.bool (nears X Y n)) ∧ Below w.heap.size w w' := by
  have HP := Lib.hid hp
  have K := Lib.hid (fun (i : Nat) => Near_any (X i) (Y i))
  have EN := Lib.hid (show ∀ i, i < n → nrB (X i) (Y i) = false → nears X Y n = false from fun i hi h => by unfold nears; exact allN_no hi h)
  have EY := Lib.hid (show (∀ i, i < n → nrB (X i) (Y i) = true) → nears X Y n = true from fun h => by unfold nears; exact allN_iff.2 h)
  have B0 := Lib.hid (Below.refl w.heap.size w)
  clear hp
  go_enter Try.func17, Try.ntmps17
  go_wp2
  go_loopg [3] n (fun gg v wr => ∃ j : Nat, j ≤ n ∧ n - j ≤ gg ∧ v = .int .i64 (j : Int) ∧ Hid (Below w.heap.size w wr ∧ ∀ i, i < j → nrB (X i) (Y i) = true))
  case atStart => exact ⟨0, by omega, by omega, rfl, Lib.hid ⟨B0.out, fun i hi => by omega⟩⟩
  case round =>
    obtain ⟨j, hj, hgj, rfl, HI⟩ := hrel
    by_cases hlt : j < n
    · have hjn : (j : Int) < (n : Int) := by omega
      have P := HP.out.later HI.out.1
      have cx := P.x j hlt
      have cy := P.y j hlt
      have hz := P.lt
      have HK := Lib.hid (K.out j)
      have EJ := Lib.hid (EN.out j hlt)
      have EJ2 := Lib.hid (show nrB (X j) (Y j) = true → ∀ i, i < j + 1 → nrB (X i) (Y i) = true from fun h i hi => by
        rcases (by omega : i < j ∨ i = j) with h1 | rfl
        · exact HI.out.2 i h1
        · exact h)
      have HB := Lib.hid HI.out.1
      clear P HI
      generalize nrB (X j) (Y j) = r at *
      generalize X j = xj at *
      generalize Y j = yj at *
      have hb := HB.out
      go_wp2_with fail
      ((with_reducible refine (HK.out _).mono ?_); rintro e w1 ⟨rfl, hb1⟩)
      obtain ⟨hc1, hf1⟩ := bcell hb1
      cases r
      · go_wp2
        go_returns
        exact ⟨ret_bool (EJ.out (by trivial)).symm, by (repeat' (first | (with_reducible exact Below.refl _ _) | (with_reducible assumption) | (with_reducible refine below_alloc ?_ _) | (with_reducible refine Below.drew ?_) | (with_reducible refine Below.setCell ?_ ?_ _) | (with_reducible refine below_after ?_ (by assumption)) | go_size))⟩
      · go_wp2
        go_roundg (n - (j + 1))
        case rel => exact ⟨j + 1, by omega, by omega, by go_num, Lib.hid ⟨by (repeat' (first | (with_reducible exact Below.refl _ _) | (with_reducible assumption) | (with_reducible refine below_alloc ?_ _) | (with_reducible refine Below.drew ?_) | (with_reducible refine Below.setCell ?_ ?_ _) | (with_reducible refine below_after ?_ (by assumption)) | go_size)), EJ2.out (by trivial)⟩⟩
        case measure => omega
    · obtain rfl : j = n := by omega
      have hjn : ¬ (j : Int) < (j : Int) := by omega
      have hb := HI.out.1
      have E := Lib.hid (EY.out HI.out.2)
      clear HI
      go_wp2
      go_returns
      exact ⟨ret_bool E.out.symm, by (repeat' (first | (with_reducible exact Below.refl _ _) | (with_reducible assumption) | (with_reducible refine below_alloc ?_ _) | (with_reducible refine Below.drew ?_) | (with_reducible refine Below.setCell ?_ ?_ _) | (with_reducible refine below_after ?_ (by assumption)) | go_size))⟩
end Go.Proofs.Ytkpochkfijplaaa
