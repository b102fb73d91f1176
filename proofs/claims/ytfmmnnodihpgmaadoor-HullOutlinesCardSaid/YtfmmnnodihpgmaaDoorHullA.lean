/-
  Slices of numbers in memory; what the small functions of a hull's check return: within, outside, ascending, slices.Max, slices.ContainsFunc.
-/
import Derived.Test.YtfmmnnodihpgmaaDoorHullM
import Derived.Test.YtfmmnnodihpgmaaDoorShelf
namespace Go.Proofs.YtfmmnnodihpgmaaDoor
set_option linter.all false
open Go Go.RowKit Wd
set_option maxRecDepth 100000
/-- The numbers of a list lie in memory. -/
structure Ints (w : World) (b off : Nat) (l : List Int) : Prop where
  lt : b < w.heap.size
  cell : ∀ j, j < l.length → w.cell? ⟨b, off + j, none⟩ = some (.int .i64 (ix l j))
theorem Ints.later {w w' : World} {b off : Nat} {l : List Int} (h : Ints w b off l) (hb : Below w.heap.size w w') : Ints w' b off l :=
  ⟨Nat.lt_of_lt_of_le h.lt hb.size, fun j hj => (hb.cell (p := ⟨b, off + j, none⟩) h.lt).trans (h.cell j hj)⟩
theorem Ints.first {w : World} {b off : Nat} {l : List Int} (h : Ints w b off l) (h0 : 0 < l.length) : w.cell? ⟨b, off, none⟩ = some (.int .i64 (ix l 0)) := h.cell 0 h0
/-- A slice, nil if it is empty perhaps. -/
def Has (w : World) (a : Option Addr) (l : List Int) : Prop := 0 < l.length → ∃ b o, a = some ⟨b, o, none⟩ ∧ Ints w b o l
theorem Has.later {w w' : World} {a : Option Addr} {l : List Int} (h : Has w a l) (hb : Below w.heap.size w w') : Has w' a l := fun h0 => by
  obtain ⟨b, o, e, hi⟩ := h h0
  exact ⟨b, o, e, hi.later hb⟩
/-- The rows of a list of lists lie in memory. -/
structure Rws (w : World) (b off : Nat) (A : Nat → Option Addr) (C : Nat → Nat) (H : List (List Int)) : Prop where
  lt : b < w.heap.size
  cell : ∀ i, i < H.length → w.cell? ⟨b, off + i, none⟩ = some (.slice (A i) (row H i).length (C i))
  row : ∀ i, i < H.length → Has w (A i) (row H i)
theorem Rws.later {w w' : World} {b off : Nat} {A : Nat → Option Addr} {C : Nat → Nat} {H : List (List Int)} (h : Rws w b off A C H) (hb : Below w.heap.size w w') : Rws w' b off A C H :=
  ⟨Nat.lt_of_lt_of_le h.lt hb.size, fun j hj => (hb.cell (p := ⟨b, off + j, none⟩) h.lt).trans (h.cell j hj), fun j hj => (h.row j hj).later hb⟩
def HasRws (w : World) (a : Option Addr) (A : Nat → Option Addr) (C : Nat → Nat) (H : List (List Int)) : Prop := 0 < H.length → ∃ b o, a = some ⟨b, o, none⟩ ∧ Rws w b o A C H
theorem HasRws.later {w w' : World} {a : Option Addr} {A : Nat → Option Addr} {C : Nat → Nat} {H : List (List Int)} (h : HasRws w a A C H) (hb : Below w.heap.size w w') : HasRws w' a A C H := fun h0 => by
  obtain ⟨b, o, e, hi⟩ := h h0
  exact ⟨b, o, e, hi.later hb⟩
theorem within_any (x m : Int) (w : World) :
    Calls Tryd.prog 66 #[.int .i64 x, .int .i64 0, .int .i64 m] w fun e w' => e = .returned (.bool (!out m x)) ∧ w' = w := by
  rcases (by omega : x < 0 ∨ (0 ≤ x ∧ m < x) ∨ (0 ≤ x ∧ x ≤ m)) with h | ⟨h, h'⟩ | ⟨h, h'⟩
  · rw [out_neg (m := m) h]
    go_enter Tryd.func66, Tryd.ntmps66
    go_wp2
    go_returns
    exact ⟨ret_bool (by simp; try omega), rfl⟩
  · rw [out_big h']
    go_enter Tryd.func66, Tryd.ntmps66
    go_wp2
    go_returns
    exact ⟨ret_bool (by simp; try omega), rfl⟩
  · rw [out_in h h']
    go_enter Tryd.func66, Tryd.ntmps66
    go_wp2
    go_returns
    exact ⟨ret_bool (by simp; try omega), rfl⟩
theorem outside_pred (m : Int) (B : Nat) (w : World) (hB : B < w.heap.size) (hc : w.cell? ⟨B, 0, none⟩ = some (.int .i64 m)) :
    PredAt Tryd.prog 65 #[.pointer (some ⟨B, 0, none⟩)] (fun x : Int => .int .i64 x) (out m) w := fun W x hb => by
  have hc' : W.cell? ⟨B, 0, none⟩ = some (.int .i64 m) := (hb.cell (p := ⟨B, 0, none⟩) hB).trans hc
  have K := within_any x m
  generalize out m x = r at *
  unfold FnGives
  go_enter Tryd.func65, Tryd.ntmps65
  go_wp2_with fail
  ((with_reducible refine (K _).mono ?_); rintro e w1 ⟨rfl, rfl⟩)
  go_wp2
  go_ret
  exact ⟨by simp, 0, rfl⟩
theorem outside_any (m : Int) (w : World) :
    Calls Tryd.prog 32 #[.int .i64 m] w fun e w' => e = .returned (.func (.func 65) #[] #[.pointer (some ⟨w.heap.size, 0, none⟩)]) ∧ w'.heap.size = w.heap.size + 1 ∧ w'.cell? ⟨w.heap.size, 0, none⟩ = some (.int .i64 m) ∧ Below w.heap.size w w' := by
  go_enter Tryd.func32, Tryd.ntmps32
  go_wp2
  go_ret
  exact ⟨rfl, by simp, by simp [go_sem], by go_grown⟩
theorem ix_default (l : List Int) (j : Nat) : l[j]! = ix l j := by unfold ix; rfl
/-- Whether a number of a slice is outside of 0 to m. -/
theorem anyOut_call (m : Int) (l : List Int) (a : Option Addr) (c B : Nat) (hl : l.length ≤ 9223372036854775807) (w : World) (h : Has w a l) (hB : B < w.heap.size) (hc : w.cell? ⟨B, 0, none⟩ = some (.int .i64 m)) :
    Calls Tryd.prog 31 #[.slice a l.length c, .func (.func 65) #[] #[.pointer (some ⟨B, 0, none⟩)]] w fun e w' => e = .returned (.bool (anyOut m l)) ∧ Below w.heap.size w w' := by
  by_cases h0 : 0 < l.length
  · obtain ⟨b, o, rfl, hi⟩ := h h0
    refine (Tryd.slices_ContainsFunc_f31 (fun x : Int => .int .i64 x) (out m) _ _ (enters_of Tryd.func65 (by kernel_rfl) rfl) b o l.length c l w (outside_pred m B w hB hc) (Nat.le_refl _) hl (fun j hj => by rw [hi.cell j hj, ix_default])).mono ?_
    rintro e w' ⟨rfl, q, rfl⟩
    exact ⟨by unfold anyOut; rw [List.take_length], below_drewN' (Below.refl _ w) q⟩
  · have e0 : l = [] := List.length_eq_zero_iff.1 (by omega)
    subst e0
    refine (Tryd.slices_ContainsFunc_empty_f31 (α := Int) a c _ w).mono ?_
    rintro e w' ⟨rfl, rfl⟩
    exact ⟨by unfold anyOut; rfl, Below.refl _ _⟩
set_option maxHeartbeats 1000000 in
/-- ascending: whether numbers are strictly ascending. -/
theorem ascending_any (l : List Int) (a : Option Addr) (c : Nat) (hl : l.length ≤ 1000000) (w : World) (h : Has w a l) :
    Calls Tryd.prog 34 #[.slice a l.length c] w fun e w' => e = .returned (.bool (asc l)) ∧ Below w.heap.size w w' := by
  by_cases h0 : 0 < l.length
  · obtain ⟨b, o, rfl, hi⟩ := h h0
    have hcl := Lib.hid hi.cell
    have hlt := hi.lt
    clear hi h
    generalize hn : l.length = n at *
    have HN := Lib.hid hn
    clear hn
    go_enter Tryd.func34, Tryd.ntmps34
    go_wp2
    go_loopw [3] (fun i wr => ∃ k : Nat, 1 ≤ k ∧ k ≤ n ∧ i = .int .i64 (k : Int) ∧ Hid (ascTo l (k - 1) = true) ∧ Hid (Below w.heap.size w wr)) (fun i _ => n - (intOf i).toNat)
    case atStart => exact ⟨1, by omega, by omega, rfl, Lib.hid (ascTo_zero l), Lib.hid (by go_grown)⟩
    case round =>
      obtain ⟨k, hk1, hk, rfl, hA, hW⟩ := hrel
      obtain ⟨k, rfl⟩ : ∃ j, k = j + 1 := ⟨k - 1, by omega⟩
      by_cases hlt2 : k + 1 < n
      · have c1 : wr.cell? ⟨b, o + k, none⟩ = some (.int .i64 (ix l k)) := (hW.out.cell (p := ⟨b, o + k, none⟩) hlt).trans (hcl.out k (by omega))
        have c2 : wr.cell? ⟨b, o + (k + 1), none⟩ = some (.int .i64 (ix l (k + 1))) := (hW.out.cell (p := ⟨b, o + (k + 1), none⟩) hlt).trans (hcl.out (k + 1) hlt2)
        have H1 : ix l (k + 1) ≤ ix l k → false = asc l := fun h => (asc_not (by rw [HN.out]; exact hlt2) h).symm
        have h1 := Lib.hid H1
        have H2 : ix l k < ix l (k + 1) → ascTo l (k + 1) = true := fun h => by rw [ascTo_succ, show ascTo l k = true from hA.out]; simpa using h
        have h2 := Lib.hid H2
        clear H1 H2
        generalize ix l k = x at *
        generalize ix l (k + 1) = y at *
        go_wp2
        go_region
        go_wp2
        · go_returns
          exact ⟨ret_bool (h1.out (by assumption)), by have := hW.out; (repeat' (first | (with_reducible exact Below.refl _ _) | (with_reducible assumption) | (with_reducible refine below_alloc ?_ _) | (with_reducible refine Below.drew ?_) | (with_reducible refine Below.setCell ?_ ?_ _) | (with_reducible refine below_after ?_ (by assumption)) | go_size))⟩
        · go_roundw
          case rel => exact ⟨k + 1 + 1, by omega, by omega, by go_num, Lib.hid (h2.out (by assumption)), Lib.hid (by have := hW.out; (repeat' (first | (with_reducible exact Below.refl _ _) | (with_reducible assumption) | (with_reducible refine below_alloc ?_ _) | (with_reducible refine Below.drew ?_) | (with_reducible refine Below.setCell ?_ ?_ _) | (with_reducible refine below_after ?_ (by assumption)) | go_size)))⟩
          case measure => simp [intOf]; omega
      · have e1 : k + 1 = n := by omega
        have hA' : ascTo l k = true := hA.out
        go_wp2
        go_returns
        exact ⟨ret_bool (asc_all (by rw [HN.out, ← e1]; exact hA')).symm, hW.out⟩
  · have e0 : l = [] := List.length_eq_zero_iff.1 (by omega)
    subst e0
    have h1 : asc [] = true := by unfold asc ascTo; rfl
    rw [h1]
    go_enter Tryd.func34, Tryd.ntmps34
    go_wp2
    go_loopw [3] (fun i wr => i = .int .i64 1 ∧ wr = w) (fun i _ => 0)
    case atStart => exact ⟨rfl, rfl⟩
    case round =>
      obtain ⟨rfl, rfl⟩ := hrel
      go_wp2
      go_returns
      exact ⟨rfl, by go_grown⟩
set_option maxHeartbeats 1000000 in
/-- slices.Max: the greatest number. -/
theorem max_any (l : List Int) (b o c : Nat) (h0 : 0 < l.length) (hl : l.length ≤ 1000000) (w : World) (hi : Ints w b o l) :
    Calls Tryd.prog 33 #[.slice (some ⟨b, o, none⟩) l.length c] w fun e w' => e = .returned (.int .i64 (maxTo l (l.length - 1))) ∧ Below w.heap.size w w' := by
  have hcl := Lib.hid hi.cell
  have c0 : w.cell? ⟨b, o, none⟩ = some (.int .i64 (ix l 0)) := hi.first h0
  have hlt := hi.lt
  clear hi
  generalize hn : l.length = n at *
  clear hn
  go_enter Tryd.func33, Tryd.ntmps33
  go_wp2
  go_loopw [3, 4] (fun m i wr => ∃ k : Nat, k + 1 ≤ n ∧ i = .int .i64 ((k : Int) + 1) ∧ m = .int .i64 (maxTo l k) ∧ wr = w) (fun _ i _ => n - (intOf i).toNat)
  case atStart => exact ⟨0, by omega, rfl, by rw [maxTo_zero], rfl⟩
  case round =>
    obtain ⟨k, hk, rfl, rfl, rfl⟩ := hrel
    by_cases hlt2 : k + 1 < n
    · have c1 : wr.cell? ⟨b, o + (k + 1), none⟩ = some (.int .i64 (ix l (k + 1))) := hcl.out (k + 1) hlt2
      go_wp2
      go_roundw
      case rel => exact ⟨k + 1, by omega, by go_num, by rw [maxTo_succ], by first | rfl | trivial⟩
      case measure => simp [intOf]; omega
    · have e1 : k = n - 1 := by omega
      go_wp2
      go_returns
      exact ⟨ret_int (by first | rfl | rw [e1]), by go_grown⟩
end Go.Proofs.YtfmmnnodihpgmaaDoor
