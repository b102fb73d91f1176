/-
  What hull.Check returns, for all forms: the walk.
-/
import Derived.Test.YtkpochkfijplaaaQHullA

namespace Go.Proofs.Ytkpochkfijplaaa
set_option linter.all false
open Go Go.RowKit Wd
set_option maxRecDepth 100000
theorem Ints.has {w : World} {b o : Nat} {l : List Int} (h : Ints w b o l) : Has w (some ⟨b, o, none⟩) l := fun _ => ⟨_, _, rfl, h⟩
end Go.Proofs.Ytkpochkfijplaaa
