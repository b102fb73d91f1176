/-
  What a hull form's check says, in plain numbers; no program in sight.
-/
import Derived.Test.YtkpochkfijplaaaQKeep

namespace Go.Proofs.Ytkpochkfijplaaa
set_option linter.all false
open Go Go.RowKit Wd
set_option maxRecDepth 100000
/-- An element of a list, and a row of a list of lists: words that the walk does not open. -/
@[irreducible] def ix (l : List Int) (j : Nat) : Int := l[j]!
@[irreducible] def out (m x : Int) : Bool := !(decide (0 ≤ x) && decide (x ≤ m))
end Go.Proofs.Ytkpochkfijplaaa
