/-
  Slices of numbers in memory; what the small functions of a hull's check return: within, outside, ascending, slices.Max, slices.ContainsFunc.
-/
import Derived.Test.YtkpochkfijplaaaQHullM
import Derived.Test.YtkpochkfijplaaaShelf

namespace Go.Proofs.Ytkpochkfijplaaa
set_option linter.all false
open Go Go.RowKit Wd
set_option maxRecDepth 100000
/-- The numbers of a list lie in memory. -/
structure Ints (w : World) (b off : Nat) (l : List Int) : Prop where
  lt : b < w.heap.size
  cell : ∀ j, j < l.length → w.cell? ⟨b, off + j, none⟩ = some (.int .i64 (ix l j))
theorem Ints.later {w w' : World} {b off : Nat} {l : List Int} (h : Ints w b off l) (hb : Below w.heap.size w w') : Ints w' b off l :=
  ⟨Nat.lt_of_lt_of_le h.lt hb.size, fun j hj => (hb.cell (p := ⟨b, off + j, none⟩) h.lt).trans (h.cell j hj)⟩
/-- A slice, nil if it is empty perhaps. -/
def Has (w : World) (a : Option Addr) (l : List Int) : Prop := 0 < l.length → ∃ b o, a = some ⟨b, o, none⟩ ∧ Ints w b o l
theorem Has.later {w w' : World} {a : Option Addr} {l : List Int} (h : Has w a l) (hb : Below w.heap.size w w') : Has w' a l := fun h0 => by
  obtain ⟨b, o, e, hi⟩ := h h0
  exact ⟨b, o, e, hi.later hb⟩
end Go.Proofs.Ytkpochkfijplaaa
