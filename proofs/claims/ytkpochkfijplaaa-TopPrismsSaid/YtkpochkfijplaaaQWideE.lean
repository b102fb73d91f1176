/-
  What divide of package wide returns, for all inputs.
-/
import Derived.Test.YtkpochkfijplaaaQWideC
import Derived.Test.YtkpochkfijplaaaQDivM

namespace Go.Proofs.Ytkpochkfijplaaa
set_option linter.all false
open Go Go.RowKit Wd
set_option maxRecDepth 100000
/-- The call's own memory while it divides; Q, R: quotient and rest so far. -/
def DivMem (w : World) (a b Q R : Nat) (wr : World) : Prop :=
  (∀ o, wr.cell? ⟨w.heap.size, o, none⟩ = (#[.int .u64 (wd (a) 0), .int .u64 (wd (a) 1), .int .u64 (wd (a) 2), .int .u64 (wd (a) 3)] : Array Value)[o]?) ∧ (∀ o, wr.cell? ⟨w.heap.size + 1, o, none⟩ = (#[.int .u64 (wd (b) 0), .int .u64 (wd (b) 1), .int .u64 (wd (b) 2), .int .u64 (wd (b) 3)] : Array Value)[o]?)
  ∧ (∀ o, wr.cell? ⟨w.heap.size + 1 + 1, o, none⟩ = (#[.int .u64 (wd (Q) 0), .int .u64 (wd (Q) 1), .int .u64 (wd (Q) 2), .int .u64 (wd (Q) 3)] : Array Value)[o]?)
  ∧ (∀ o, wr.cell? ⟨w.heap.size + 1 + 1 + 1, o, none⟩ = (#[.int .u64 (wd (R) 0), .int .u64 (wd (R) 1), .int .u64 (wd (R) 2), .int .u64 (wd (R) 3)] : Array Value)[o]?)
  ∧ (∀ o, wr.frozen? ⟨w.heap.size + 1 + 1, o, none⟩ = false) ∧ (∀ o, wr.frozen? ⟨w.heap.size + 1 + 1 + 1, o, none⟩ = false)
  ∧ w.heap.size + 1 + 1 + 1 < wr.heap.size ∧ Below w.heap.size w wr
theorem DivMem.later {w wr wx : World} {a b Q R : Nat} (h : DivMem w a b Q R wr) (hb : Below wr.heap.size wr wx) : DivMem w a b Q R wx := by
  obtain ⟨c0, c1, c2, c3, f2, f3, hz, hB⟩ := h
  exact ⟨keep_cell hb (by omega) c0, keep_cell hb (by omega) c1, keep_cell hb (by omega) c2, keep_cell hb (by omega) c3, keep_frozen hb (by omega) f2, keep_frozen hb (by omega) f3, Nat.lt_of_lt_of_le hz hb.size, below_after hB hb⟩
theorem DivMem.alloc {w wr : World} {a b Q R : Nat} (h : DivMem w a b Q R wr) (O : Obj) : DivMem w a b Q R (wr.alloc O) := h.later ((Below.refl _ _).alloc (Nat.le_refl _) O)
theorem DivMem.drew {w wr : World} {a b Q R : Nat} (h : DivMem w a b Q R wr) : DivMem w a b Q R wr.drew := h.later ((Below.refl _ _).drew)
end Go.Proofs.Ytkpochkfijplaaa
