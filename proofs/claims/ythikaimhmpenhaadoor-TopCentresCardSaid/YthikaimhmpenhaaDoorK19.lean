/-
  What package ratio's Mul returns, of a fraction and an integer; natural numbers that fit in a word.
  (Written by wip/pack.py out of XFRatD.)
-/
import Derived.Test.YthikaimhmpenhaaDoorK13

namespace Go.Proofs.YthikaimhmpenhaaDoor
set_option linter.all false
open Go Go.RowKit Wd
set_option maxRecDepth 100000
end Go.Proofs.YthikaimhmpenhaaDoor
