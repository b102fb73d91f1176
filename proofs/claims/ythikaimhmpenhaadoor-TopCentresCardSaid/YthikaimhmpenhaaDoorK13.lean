/-
  What package ratio's Add and Mul return, where one of the fractions is an integer; natural numbers that fit in a word.
  (Written by wip/pack.py out of XFRatC.)
-/
import Derived.Test.YthikaimhmpenhaaDoorK12
import Derived.Test.YthikaimhmpenhaaDoorK08

namespace Go.Proofs.YthikaimhmpenhaaDoor
set_option linter.all false
open Go Go.RowKit Wd
set_option maxRecDepth 100000
theorem set10_at {wr : World} {B : Nat} {v0 v1 v2 v3 v4 v5 v6 v7 v8 v9 x0 x1 x2 x3 x4 x5 x6 x7 x8 x9 : Value} (h : ∀ o, wr.cell? ⟨B, o, none⟩ = (#[x0, x1, x2, x3, x4, x5, x6, x7, x8, x9] : Array Value)[o]?) :
    ∀ o, ((((((((((wr.setCell ⟨B, 0, none⟩ v0).setCell ⟨B, 1, none⟩ v1).setCell ⟨B, 2, none⟩ v2).setCell ⟨B, 3, none⟩ v3).setCell ⟨B, 4, none⟩ v4).setCell ⟨B, 5, none⟩ v5).setCell ⟨B, 6, none⟩ v6).setCell ⟨B, 7, none⟩ v7).setCell ⟨B, 8, none⟩ v8).setCell ⟨B, 9, none⟩ v9).cell? ⟨B, o, none⟩ = (#[v0, v1, v2, v3, v4, v5, v6, v7, v8, v9] : Array Value)[o]? := by
  have h0 := set_at (i := 0) (v := v0) h
  rw [show (#[x0, x1, x2, x3, x4, x5, x6, x7, x8, x9] : Array Value).setIfInBounds 0 v0 = #[v0, x1, x2, x3, x4, x5, x6, x7, x8, x9] from rfl] at h0
  have h1 := set_at (i := 1) (v := v1) h0
  rw [show (#[v0, x1, x2, x3, x4, x5, x6, x7, x8, x9] : Array Value).setIfInBounds 1 v1 = #[v0, v1, x2, x3, x4, x5, x6, x7, x8, x9] from rfl] at h1
  have h2 := set_at (i := 2) (v := v2) h1
  rw [show (#[v0, v1, x2, x3, x4, x5, x6, x7, x8, x9] : Array Value).setIfInBounds 2 v2 = #[v0, v1, v2, x3, x4, x5, x6, x7, x8, x9] from rfl] at h2
  have h3 := set_at (i := 3) (v := v3) h2
  rw [show (#[v0, v1, v2, x3, x4, x5, x6, x7, x8, x9] : Array Value).setIfInBounds 3 v3 = #[v0, v1, v2, v3, x4, x5, x6, x7, x8, x9] from rfl] at h3
  have h4 := set_at (i := 4) (v := v4) h3
  rw [show (#[v0, v1, v2, v3, x4, x5, x6, x7, x8, x9] : Array Value).setIfInBounds 4 v4 = #[v0, v1, v2, v3, v4, x5, x6, x7, x8, x9] from rfl] at h4
  have h5 := set_at (i := 5) (v := v5) h4
  rw [show (#[v0, v1, v2, v3, v4, x5, x6, x7, x8, x9] : Array Value).setIfInBounds 5 v5 = #[v0, v1, v2, v3, v4, v5, x6, x7, x8, x9] from rfl] at h5
  have h6 := set_at (i := 6) (v := v6) h5
  rw [show (#[v0, v1, v2, v3, v4, v5, x6, x7, x8, x9] : Array Value).setIfInBounds 6 v6 = #[v0, v1, v2, v3, v4, v5, v6, x7, x8, x9] from rfl] at h6
  have h7 := set_at (i := 7) (v := v7) h6
  rw [show (#[v0, v1, v2, v3, v4, v5, v6, x7, x8, x9] : Array Value).setIfInBounds 7 v7 = #[v0, v1, v2, v3, v4, v5, v6, v7, x8, x9] from rfl] at h7
  have h8 := set_at (i := 8) (v := v8) h7
  rw [show (#[v0, v1, v2, v3, v4, v5, v6, v7, x8, x9] : Array Value).setIfInBounds 8 v8 = #[v0, v1, v2, v3, v4, v5, v6, v7, v8, x9] from rfl] at h8
  have h9 := set_at (i := 9) (v := v9) h8
  rw [show (#[v0, v1, v2, v3, v4, v5, v6, v7, v8, x9] : Array Value).setIfInBounds 9 v9 = #[v0, v1, v2, v3, v4, v5, v6, v7, v8, v9] from rfl] at h9
  exact h9
theorem new10 {H : Nat} {F wr : World} {B : Nat} {v0 v1 v2 v3 v4 v5 v6 v7 v8 v9 : Value} (hH : H ≤ B) (hz : B < wr.heap.size) (h : ∀ o, wr.cell? ⟨B, o, none⟩ = (#[.bool false, .int .u64 (((0) : Nat) : Int), .int .u64 0, .int .u64 0, .int .u64 0, .int .u64 0, .int .u64 0, .int .u64 0, .int .u64 0, .int .u64 0] : Array Value)[o]?) (hf : ∀ o, wr.frozen? ⟨B, o, none⟩ = false) (hF : F.heap.size ≤ B) (hb : Below F.heap.size F wr) :
    New H B #[v0, v1, v2, v3, v4, v5, v6, v7, v8, v9] ((((((((((wr.setCell ⟨B, 0, none⟩ v0).setCell ⟨B, 1, none⟩ v1).setCell ⟨B, 2, none⟩ v2).setCell ⟨B, 3, none⟩ v3).setCell ⟨B, 4, none⟩ v4).setCell ⟨B, 5, none⟩ v5).setCell ⟨B, 6, none⟩ v6).setCell ⟨B, 7, none⟩ v7).setCell ⟨B, 8, none⟩ v8).setCell ⟨B, 9, none⟩ v9) ∧ Below F.heap.size F ((((((((((wr.setCell ⟨B, 0, none⟩ v0).setCell ⟨B, 1, none⟩ v1).setCell ⟨B, 2, none⟩ v2).setCell ⟨B, 3, none⟩ v3).setCell ⟨B, 4, none⟩ v4).setCell ⟨B, 5, none⟩ v5).setCell ⟨B, 6, none⟩ v6).setCell ⟨B, 7, none⟩ v7).setCell ⟨B, 8, none⟩ v8).setCell ⟨B, 9, none⟩ v9) :=
  ⟨⟨hH, by simpa using hz, set10_at h, fun o => by simp only [World.frozen?_setCell]; exact hf o⟩, ((((((((((hb.setCell (by simp; omega) _).setCell (by simp; omega) _).setCell (by simp; omega) _).setCell (by simp; omega) _).setCell (by simp; omega) _).setCell (by simp; omega) _).setCell (by simp; omega) _).setCell (by simp; omega) _).setCell (by simp; omega) _).setCell (by simp; omega) _)⟩
theorem new5 {H : Nat} {F wr : World} {B : Nat} {v0 v1 v2 v3 v4 : Value} (hH : H ≤ B) (hz : B < wr.heap.size) (h : ∀ o, wr.cell? ⟨B, o, none⟩ = (#[.bool false, .int .u64 0, .int .u64 0, .int .u64 0, .int .u64 0] : Array Value)[o]?) (hf : ∀ o, wr.frozen? ⟨B, o, none⟩ = false) (hF : F.heap.size ≤ B) (hb : Below F.heap.size F wr) :
    New H B #[v0, v1, v2, v3, v4] (((((wr.setCell ⟨B, 0, none⟩ v0).setCell ⟨B, 1, none⟩ v1).setCell ⟨B, 2, none⟩ v2).setCell ⟨B, 3, none⟩ v3).setCell ⟨B, 4, none⟩ v4) ∧ Below F.heap.size F (((((wr.setCell ⟨B, 0, none⟩ v0).setCell ⟨B, 1, none⟩ v1).setCell ⟨B, 2, none⟩ v2).setCell ⟨B, 3, none⟩ v3).setCell ⟨B, 4, none⟩ v4) :=
  ⟨⟨hH, by simpa using hz, set5_at h, fun o => by simp only [World.frozen?_setCell]; exact hf o⟩, (((((hb.setCell (by simp; omega) _).setCell (by simp; omega) _).setCell (by simp; omega) _).setCell (by simp; omega) _).setCell (by simp; omega) _)⟩
theorem new_alloc {H : Nat} {F x : World} {cs : Array Value} {T : TypeId} (hH : H ≤ x.heap.size) (hb : Below F.heap.size F x) : New H x.heap.size cs (x.alloc (.cells cs T)) ∧ Below F.heap.size F (x.alloc (.cells cs T)) :=
  ⟨⟨hH, by simp, new_cells _ _ _, new_frozen _ _ _⟩, hb.alloc hb.size _⟩
end Go.Proofs.YthikaimhmpenhaaDoor
