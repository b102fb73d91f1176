/-
  What a hull form's check says, in plain numbers; no program in sight.
-/
import Derived.Test.YtfmmnnodihpgmaaDoorKeep
namespace Go.Proofs.YtfmmnnodihpgmaaDoor
set_option linter.all false
open Go Go.RowKit Wd
set_option maxRecDepth 100000
/-- An element of a list, and a row of a list of lists: words that the walk does not open. -/
@[irreducible] def ix (l : List Int) (j : Nat) : Int := l[j]!
@[irreducible] def row (H : List (List Int)) (i : Nat) : List Int := H[i]!
@[irreducible] def out (m x : Int) : Bool := !(decide (0 ≤ x) && decide (x ≤ m))
theorem out_neg {m x : Int} (h : x < 0) : out m x = true := by unfold out; simp; omega
theorem out_big {m x : Int} (h : m < x) : out m x = true := by unfold out; simp; omega
theorem out_in {m x : Int} (h : 0 ≤ x) (h' : x ≤ m) : out m x = false := by unfold out; simp; omega
theorem in_of {m x : Int} (h : out m x = false) : 0 ≤ x ∧ x ≤ m := by unfold out at h; simp at h; omega
/-- Strictly ascending up to an index. -/
@[irreducible] def ascTo (l : List Int) (k : Nat) : Bool := (List.range k).all fun i => decide (ix l i < ix l (i + 1))
@[irreducible] def asc (l : List Int) : Bool := ascTo l (l.length - 1)
theorem ascTo_zero (l : List Int) : ascTo l 0 = true := by unfold ascTo; rfl
theorem ascTo_succ (l : List Int) (k : Nat) : ascTo l (k + 1) = (ascTo l k && decide (ix l k < ix l (k + 1))) := by
  unfold ascTo; rw [List.range_succ, List.all_append]; simp
theorem asc_all {l : List Int} (h : ascTo l (l.length - 1) = true) : asc l = true := by unfold asc; exact h
theorem asc_not {l : List Int} {k : Nat} (hk : k + 1 < l.length) (h : ix l (k + 1) ≤ ix l k) : asc l = false := by
  unfold asc ascTo
  rw [List.all_eq_false]
  exact ⟨k, by simp; omega, by simp; omega⟩
theorem asc_lt {l : List Int} (h : asc l = true) {i : Nat} (hi : i + 1 < l.length) : ix l i < ix l (i + 1) := by
  unfold asc ascTo at h
  rw [List.all_eq_true] at h
  simpa using h i (by simp; omega)
/-- Whether a list holds noughts alone, up to an index. -/
@[irreducible] def nil0 (l : List Int) : Bool := l.all fun x => decide (x = 0)
@[irreducible] def anyOut (m : Int) (l : List Int) : Bool := l.any (out m)
@[irreducible] def badRows (m : Nat) (H : List (List Int)) : Bool := H.any fun l => !decide (l.length = m)
@[irreducible] def rowsOut (m : Int) (H : List (List Int)) (k : Nat) : Bool := (H.take k).any (anyOut m)
@[irreducible] def rowsNil (H : List (List Int)) (k : Nat) : Bool := (H.take k).all nil0
/-- What Check says of a form. -/
@[irreducible] def chk (X Z : List Int) (H : List (List Int)) : Int :=
  if X.length < 2 ∨ Z.length < 2 then 3
  else if 24 < X.length ∨ 16 < Z.length then 4
  else if H.length ≠ X.length ∨ badRows Z.length H = true then 17
  else if anyOut 32768 X = true ∨ anyOut 4096 Z = true then 9
  else if rowsOut 4096 H H.length = true then 9
  else if asc X = false ∨ asc Z = false ∨ ix Z 0 ≠ 0 then 11
  else if rowsNil H H.length = true then 17
  else 0
theorem ix_get {l : List Int} {j : Nat} (h : j < l.length) : ix l j = l[j] := by unfold ix; exact getElem!_pos l j h
theorem row_get {H : List (List Int)} {j : Nat} (h : j < H.length) : row H j = H[j] := by unfold row; exact getElem!_pos H j h
theorem rowsOut_zero (m : Int) (H : List (List Int)) : rowsOut m H 0 = false := by unfold rowsOut; rfl
theorem rowsNil_zero (H : List (List Int)) : rowsNil H 0 = true := by unfold rowsNil; rfl
theorem rowsOut_succ (m : Int) {H : List (List Int)} {k : Nat} (hk : k < H.length) : rowsOut m H (k + 1) = (rowsOut m H k || anyOut m (row H k)) := by
  unfold rowsOut; rw [List.take_succ_eq_append_getElem hk, List.any_append, row_get hk]; simp
theorem rowsNil_succ {H : List (List Int)} {k : Nat} (hk : k < H.length) : rowsNil H (k + 1) = (rowsNil H k && nil0 (row H k)) := by
  unfold rowsNil; rw [List.take_succ_eq_append_getElem hk, List.all_append, row_get hk]; simp
theorem rowsOut_more {m : Int} {H : List (List Int)} {k : Nat} (hk : k ≤ H.length) (h : rowsOut m H k = true) : rowsOut m H H.length = true := by
  unfold rowsOut at *
  rw [List.take_length]
  rw [List.any_eq_true] at *
  obtain ⟨x, hx, h⟩ := h
  exact ⟨x, List.mem_of_mem_take hx, h⟩
theorem anyOut_at {m : Int} {l : List Int} (h : anyOut m l = false) {j : Nat} (hj : j < l.length) : 0 ≤ ix l j ∧ ix l j ≤ m := by
  unfold anyOut at h
  rw [List.any_eq_false] at h
  rw [ix_get hj]
  exact in_of (by simpa using h _ (List.getElem_mem hj))
theorem badRows_at {m : Nat} {H : List (List Int)} (h : badRows m H = false) {i : Nat} (hi : i < H.length) : (row H i).length = m := by
  unfold badRows at h
  rw [List.any_eq_false] at h
  rw [row_get hi]
  simpa using h _ (List.getElem_mem hi)
theorem rowsOut_at {m : Int} {H : List (List Int)} (h : rowsOut m H H.length = false) {i : Nat} (hi : i < H.length) : anyOut m (row H i) = false := by
  unfold rowsOut at h
  rw [List.take_length, List.any_eq_false] at h
  rw [row_get hi]
  simpa using h _ (List.getElem_mem hi)
/-- The greatest of the first k + 1 elements. -/
@[irreducible] def maxTo (l : List Int) (k : Nat) : Int := (List.range k).foldl (fun m i => max m (ix l (i + 1))) (ix l 0)
theorem maxTo_zero (l : List Int) : maxTo l 0 = ix l 0 := by unfold maxTo; rfl
theorem maxTo_succ (l : List Int) (k : Nat) : maxTo l (k + 1) = max (maxTo l k) (ix l (k + 1)) := by unfold maxTo; rw [List.range_succ, List.foldl_append]; rfl
theorem le_maxTo (l : List Int) (k : Nat) : ∀ j, j ≤ k → ix l j ≤ maxTo l k := by
  induction k with
  | zero => intro j hj; rw [maxTo_zero, show j = 0 by omega]; omega
  | succ k ih =>
    intro j hj
    rw [maxTo_succ]
    by_cases h : j = k + 1
    · subst h; omega
    · have := ih j (by omega); omega
theorem maxTo_mem (l : List Int) (k : Nat) : ∃ j, j ≤ k ∧ maxTo l k = ix l j := by
  induction k with
  | zero => exact ⟨0, by omega, maxTo_zero l⟩
  | succ k ih =>
    obtain ⟨j, hj, e⟩ := ih
    rw [maxTo_succ]
    by_cases h : maxTo l k ≤ ix l (k + 1)
    · exact ⟨k + 1, by omega, by omega⟩
    · exact ⟨j, by omega, by omega⟩
theorem max_nil {m : Int} {l : List Int} (h0 : 0 < l.length) (h : anyOut m l = false) : (maxTo l (l.length - 1) == 0) = nil0 l := by
  rw [Bool.eq_iff_iff, beq_iff_eq]
  unfold nil0
  rw [List.all_eq_true]
  constructor
  · intro hm x hx
    obtain ⟨j, hj, rfl⟩ := List.mem_iff_getElem.1 hx
    have h1 := anyOut_at h hj
    have h2 := le_maxTo l (l.length - 1) j (by omega)
    rw [ix_get hj] at h1 h2
    simp; omega
  · intro ha
    obtain ⟨j, hj, e⟩ := maxTo_mem l (l.length - 1)
    rw [e, ix_get (by omega : j < l.length)]
    simpa using ha _ (List.getElem_mem (by omega : j < l.length))
/-- What a form that passes is. -/
structure Fine (X Z : List Int) (H : List (List Int)) : Prop where
  x2 : 2 ≤ X.length
  z2 : 2 ≤ Z.length
  x24 : X.length ≤ 24
  z16 : Z.length ≤ 16
  hl : H.length = X.length
  hr : ∀ i, i < H.length → (row H i).length = Z.length
  xr : ∀ i, i < X.length → 0 ≤ ix X i ∧ ix X i ≤ 32768
  zr : ∀ i, i < Z.length → 0 ≤ ix Z i ∧ ix Z i ≤ 4096
  hv : ∀ i, i < H.length → ∀ k, k < Z.length → 0 ≤ ix (row H i) k ∧ ix (row H i) k ≤ 4096
  xa : ∀ i, i + 1 < X.length → ix X i < ix X (i + 1)
  za : ∀ i, i + 1 < Z.length → ix Z i < ix Z (i + 1)
  z0 : ix Z 0 = 0
theorem chk_fine {X Z : List Int} {H : List (List Int)} (h : chk X Z H = 0) : Fine X Z H := by
  unfold chk at h
  split at h
  · omega
  split at h
  · omega
  split at h
  · omega
  split at h
  · omega
  split at h
  · omega
  split at h
  · omega
  split at h
  · omega
  rename_i h1 h2 h3 h4 h5 h6 h7
  have b1 : badRows Z.length H = false := by cases hb : badRows Z.length H <;> simp [hb] at h3 ⊢
  have b2 : anyOut 32768 X = false := by cases hb : anyOut 32768 X <;> simp [hb] at h4 ⊢
  have b3 : anyOut 4096 Z = false := by cases hb : anyOut 4096 Z <;> simp [hb] at h4 ⊢
  have b4 : rowsOut 4096 H H.length = false := by cases hb : rowsOut 4096 H H.length <;> simp [hb] at h5 ⊢
  have b5 : asc X = true := by cases hb : asc X <;> simp [hb] at h6 ⊢
  have b6 : asc Z = true := by cases hb : asc Z <;> simp [hb] at h6 ⊢
  exact ⟨by omega, by omega, by omega, by omega, by omega, fun i hi => badRows_at b1 hi, fun i hi => anyOut_at b2 hi, fun i hi => anyOut_at b3 hi,
    fun i hi k hk => anyOut_at (rowsOut_at b4 hi) (by rw [badRows_at b1 hi]; exact hk), fun i hi => asc_lt b5 hi, fun i hi => asc_lt b6 hi, by omega⟩
end Go.Proofs.YtfmmnnodihpgmaaDoor
