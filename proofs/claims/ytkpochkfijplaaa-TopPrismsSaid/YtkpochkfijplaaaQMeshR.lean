/-
  What the reference's side returns.
-/
import Derived.Test.YtkpochkfijplaaaQMeshD

namespace Go.Proofs.Ytkpochkfijplaaa
set_option linter.all false
open Go Go.RowKit Wd
set_option maxRecDepth 100000
/-- A slice of a call's own. -/
structure Ow (e : TypeId) (size b0 : Nat) (w0 w : World) (v : Value) (n : Nat) (xs : List Value) : Prop where
  own : w.ownsRow b0 e size v n xs
  below : Below b0 w0 w
  base : b0 ≤ w.heap.size
theorem Ow.start (e : TypeId) (size : Nat) (w : World) : Ow e size w.heap.size w w (.slice none 0 0) 0 [] := ⟨World.ownsRow_nil _ _ _ _, Below.refl _ _, Nat.le_refl _⟩
theorem Ow.drew {e : TypeId} {size b0 : Nat} {w0 w : World} {v : Value} {n : Nat} {xs : List Value} (h : Ow e size b0 w0 w v n xs) : Ow e size b0 w0 w.drew v n xs := ⟨h.own.drew, h.below.drew, h.base⟩
end Go.Proofs.Ytkpochkfijplaaa
