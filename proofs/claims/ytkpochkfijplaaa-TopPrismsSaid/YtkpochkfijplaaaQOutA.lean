/-
  Two slices of fractions that a call makes side by side; what a hull's outline holds.
-/
import Derived.Test.YtkpochkfijplaaaQMeshD
import Derived.Test.YtkpochkfijplaaaQHullC
import Derived.Test.YtkpochkfijplaaaQRatA

namespace Go.Proofs.Ytkpochkfijplaaa
set_option linter.all false
open Go Go.RowKit Wd
set_option maxRecDepth 100000
/-- The cells of a fraction. -/
@[irreducible] def rc (n d : Int) : List Value := [.bool (zs (rn n d)), .int .u64 (wd (Int.natAbs (rn n d)) 0), .int .u64 (wd (Int.natAbs (rn n d)) 1), .int .u64 (wd (Int.natAbs (rn n d)) 2), .int .u64 (wd (Int.natAbs (rn n d)) 3), .bool (zs (rd n d)), .int .u64 (wd (Int.natAbs (rd n d)) 0), .int .u64 (wd (Int.natAbs (rd n d)) 1), .int .u64 (wd (Int.natAbs (rd n d)) 2), .int .u64 (wd (Int.natAbs (rd n d)) 3)]
end Go.Proofs.Ytkpochkfijplaaa
