/-
  What Gcd of package wide returns, for all inputs: the greatest common divisor.
-/
import Derived.Test.YtkpochkfijplaaaQWideE
import Derived.Test.YtkpochkfijplaaaQBase
import Derived.Test.YtkpochkfijplaaaQDivM
import Derived.Test.YtkpochkfijplaaaQOddM
import Derived.Laws.Bits64b
import Derived.Test.YtkpochkfijplaaaQGcdM

namespace Go.Proofs.Ytkpochkfijplaaa
set_option linter.all false
open Go Go.RowKit Wd
set_option maxRecDepth 100000
/-- The call's own memory: both odd parts in their boxes. -/
def GcdMem (w : World) (B7 B9 x y : Nat) (wr : World) : Prop :=
  (∀ o, wr.cell? ⟨w.heap.size + 1 + 1, o, none⟩ = (#[.bool false, .int .u64 0, .int .u64 0, .int .u64 0, .int .u64 0] : Array Value)[o]?)
  ∧ (∀ o, wr.cell? ⟨B7, o, none⟩ = (#[.int .u64 (wd (x) 0), .int .u64 (wd (x) 1), .int .u64 (wd (x) 2), .int .u64 (wd (x) 3)] : Array Value)[o]?) ∧ (∀ o, wr.cell? ⟨B9, o, none⟩ = (#[.int .u64 (wd (y) 0), .int .u64 (wd (y) 1), .int .u64 (wd (y) 2), .int .u64 (wd (y) 3)] : Array Value)[o]?)
  ∧ (∀ o, wr.frozen? ⟨w.heap.size + 1 + 1, o, none⟩ = false) ∧ (∀ o, wr.frozen? ⟨B7, o, none⟩ = false) ∧ (∀ o, wr.frozen? ⟨B9, o, none⟩ = false)
  ∧ w.heap.size + 1 + 1 < wr.heap.size ∧ B7 < wr.heap.size ∧ B9 < wr.heap.size ∧ Below w.heap.size w wr
theorem GcdMem.later {w wr wx : World} {B7 B9 x y : Nat} (h : GcdMem w B7 B9 x y wr) (hb : Below wr.heap.size wr wx) : GcdMem w B7 B9 x y wx := by
  obtain ⟨c0, c1, c2, f0, f1, f2, z0, z1, z2, hB⟩ := h
  exact ⟨keep_cell hb z0 c0, keep_cell hb z1 c1, keep_cell hb z2 c2, keep_frozen hb z0 f0, keep_frozen hb z1 f1, keep_frozen hb z2 f2, keep_lt hb z0, keep_lt hb z1, keep_lt hb z2, below_after hB hb⟩
theorem GcdMem.alloc {w wr : World} {B7 B9 x y : Nat} (h : GcdMem w B7 B9 x y wr) (O : Obj) : GcdMem w B7 B9 x y (wr.alloc O) := h.later ((Below.refl _ _).alloc (Nat.le_refl _) O)
end Go.Proofs.Ytkpochkfijplaaa
