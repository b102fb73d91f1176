/-
  What a new block holds: for regions that make memory beside calls.
-/
import Derived.Test.YtfmmnnodihpgmaaDoorWideC
namespace Go.Proofs.YtfmmnnodihpgmaaDoor
set_option linter.all false
open Go Go.RowKit Wd
set_option maxRecDepth 100000
theorem set5_at {wr : World} {B : Nat} {v0 v1 v2 v3 v4 x0 x1 x2 x3 x4 : Value} (h : ∀ o, wr.cell? ⟨B, o, none⟩ = (#[x0, x1, x2, x3, x4] : Array Value)[o]?) :
    ∀ o, (((((wr.setCell ⟨B, 0, none⟩ (v0)).setCell ⟨B, 1, none⟩ (v1)).setCell ⟨B, 2, none⟩ (v2)).setCell ⟨B, 3, none⟩ (v3)).setCell ⟨B, 4, none⟩ (v4)).cell? ⟨B, o, none⟩ = (#[v0, v1, v2, v3, v4] : Array Value)[o]? := by
  have h0 := set_at (i := 0) (v := v0) h
  rw [show (#[x0, x1, x2, x3, x4] : Array Value).setIfInBounds 0 v0 = #[v0, x1, x2, x3, x4] from rfl] at h0
  have h1 := set_at (i := 1) (v := v1) h0
  rw [show (#[v0, x1, x2, x3, x4] : Array Value).setIfInBounds 1 v1 = #[v0, v1, x2, x3, x4] from rfl] at h1
  have h2 := set_at (i := 2) (v := v2) h1
  rw [show (#[v0, v1, x2, x3, x4] : Array Value).setIfInBounds 2 v2 = #[v0, v1, v2, x3, x4] from rfl] at h2
  have h3 := set_at (i := 3) (v := v3) h2
  rw [show (#[v0, v1, v2, x3, x4] : Array Value).setIfInBounds 3 v3 = #[v0, v1, v2, v3, x4] from rfl] at h3
  have h4 := set_at (i := 4) (v := v4) h3
  rw [show (#[v0, v1, v2, v3, x4] : Array Value).setIfInBounds 4 v4 = #[v0, v1, v2, v3, v4] from rfl] at h4
  exact h4
theorem set5_far {wr : World} {B B' : Nat} {v0 v1 v2 v3 v4 : Value} {xs : Array Value} (hB : B ≠ B') (h : ∀ o, wr.cell? ⟨B', o, none⟩ = xs[o]?) :
    ∀ o, (((((wr.setCell ⟨B, 0, none⟩ (v0)).setCell ⟨B, 1, none⟩ (v1)).setCell ⟨B, 2, none⟩ (v2)).setCell ⟨B, 3, none⟩ (v3)).setCell ⟨B, 4, none⟩ (v4)).cell? ⟨B', o, none⟩ = xs[o]? :=
  set_far hB (set_far hB (set_far hB (set_far hB (set_far hB h))))
theorem new_cells (x : World) (cs : Array Value) (T : TypeId) : ∀ o, (x.alloc (.cells cs T)).cell? ⟨x.heap.size, o, none⟩ = cs[o]? := fun o => World.cell?_alloc_new _ _ _ _
theorem new_frozen (x : World) (cs : Array Value) (T : TypeId) : ∀ o, (x.alloc (.cells cs T)).frozen? ⟨x.heap.size, o, none⟩ = false := fun o => World.frozen?_alloc_new _ _ _ _
theorem new_cells2 (x : World) (O : Obj) (cs : Array Value) (T : TypeId) : ∀ o, ((x.alloc O).alloc (.cells cs T)).cell? ⟨x.heap.size + 1, o, none⟩ = cs[o]? := fun o => World.cell?_alloc2_new _ _ _ _
theorem new_frozen2 (x : World) (O : Obj) (cs : Array Value) (T : TypeId) : ∀ o, ((x.alloc O).alloc (.cells cs T)).frozen? ⟨x.heap.size + 1, o, none⟩ = false := fun o => World.frozen?_alloc2_new _ _ _ _
theorem new_cells_at {x : World} {B : Nat} (h : B = x.heap.size) (cs : Array Value) (T : TypeId) : ∀ o, (x.alloc (.cells cs T)).cell? ⟨B, o, none⟩ = cs[o]? := by subst h; exact new_cells x cs T
theorem new_frozen_at {x : World} {B : Nat} (h : B = x.heap.size) (cs : Array Value) (T : TypeId) : ∀ o, (x.alloc (.cells cs T)).frozen? ⟨B, o, none⟩ = false := by subst h; exact new_frozen x cs T
theorem keep_drew {W : World} {B : Nat} {xs : Array Value} (h : ∀ o, W.cell? ⟨B, o, none⟩ = xs[o]?) : ∀ o, W.drew.cell? ⟨B, o, none⟩ = xs[o]? := h
theorem keep_frozen_drew {W : World} {B : Nat} (h : ∀ o, W.frozen? ⟨B, o, none⟩ = false) : ∀ o, W.drew.frozen? ⟨B, o, none⟩ = false := h
/-- A new block: from block H on, there, its cells, not frozen. -/
structure New (H B : Nat) (xs : Array Value) (x : World) : Prop where
  from_ : H ≤ B
  lt : B < x.heap.size
  cell : ∀ o, x.cell? ⟨B, o, none⟩ = xs[o]?
  froz : ∀ o, x.frozen? ⟨B, o, none⟩ = false
end Go.Proofs.YtfmmnnodihpgmaaDoor
