/-
  What the reference's Same of two surfaces returns, where both hold the same.
-/
import Derived.Test.YtkpochkfijplaaaQMeshR
import Derived.Test.YtkpochkfijplaaaQOutA

namespace Go.Proofs.Ytkpochkfijplaaa
set_option linter.all false
open Go Go.RowKit Wd
set_option maxRecDepth 100000
/-- Numbers that lie in a row from a block's start. -/
def RowI (w : World) (b n : Nat) (F : Nat → Int) : Prop := ∀ j, j < n → w.cell? ⟨b, j, none⟩ = some (.int .i64 (F j))
end Go.Proofs.Ytkpochkfijplaaa
