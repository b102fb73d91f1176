/-
  What the small functions of package ratio return: sign, over, one, Make and Of of a positive denominator; and hull's of.
-/
import Derived.Test.YtkpochkfijplaaaQWideH

namespace Go.Proofs.Ytkpochkfijplaaa
set_option linter.all false
open Go Go.RowKit Wd
set_option maxRecDepth 100000
/-- The divisor by which a fraction is reduced; numerator and denominator in lowest terms. -/
@[irreducible] def gI (n d : Int) : Int := (Nat.gcd n.natAbs d.natAbs : Nat)
@[irreducible] def rn (n d : Int) : Int := n / gI n d
@[irreducible] def rd (n d : Int) : Int := d / gI n d
theorem cmpZ_pos {x : Int} (h : 0 < x) : cmpZ x 0 = 1 := by unfold cmpZ; rw [if_neg (by omega), if_pos h]
theorem far5 {wr : World} {B B' : Nat} {v0 v1 v2 v3 v4 : Value} {xs : Array Value} (hB : B ≠ B') (h : ∀ o, wr.cell? ⟨B', o, none⟩ = xs[o]?) :
    ∀ o, (((((wr.setCell ⟨B, 0, none⟩ v0).setCell ⟨B, 1, none⟩ v1).setCell ⟨B, 2, none⟩ v2).setCell ⟨B, 3, none⟩ v3).setCell ⟨B, 4, none⟩ v4).cell? ⟨B', o, none⟩ = xs[o]? := set_far hB (set_far hB (set_far hB (set_far hB (set_far hB h))))
theorem at5 {wr : World} {B : Nat} {v0 v1 v2 v3 v4 x0 x1 x2 x3 x4 : Value} (h : ∀ o, wr.cell? ⟨B, o, none⟩ = (#[x0, x1, x2, x3, x4] : Array Value)[o]?) :
    ∀ o, (((((wr.setCell ⟨B, 0, none⟩ v0).setCell ⟨B, 1, none⟩ v1).setCell ⟨B, 2, none⟩ v2).setCell ⟨B, 3, none⟩ v3).setCell ⟨B, 4, none⟩ v4).cell? ⟨B, o, none⟩ = (#[v0, v1, v2, v3, v4] : Array Value)[o]? := by
  have h0 := set_at (i := 0) (v := v0) h
  rw [show (#[x0, x1, x2, x3, x4] : Array Value).setIfInBounds 0 v0 = #[v0, x1, x2, x3, x4] from rfl] at h0
  have h1 := set_at (i := 1) (v := v1) h0
  rw [show (#[v0, x1, x2, x3, x4] : Array Value).setIfInBounds 1 v1 = #[v0, v1, x2, x3, x4] from rfl] at h1
  have h2 := set_at (i := 2) (v := v2) h1
  rw [show (#[v0, v1, x2, x3, x4] : Array Value).setIfInBounds 2 v2 = #[v0, v1, v2, x3, x4] from rfl] at h2
  have h3 := set_at (i := 3) (v := v3) h2
  rw [show (#[v0, v1, v2, x3, x4] : Array Value).setIfInBounds 3 v3 = #[v0, v1, v2, v3, x4] from rfl] at h3
  have h4 := set_at (i := 4) (v := v4) h3
  rw [show (#[v0, v1, v2, v3, x4] : Array Value).setIfInBounds 4 v4 = #[v0, v1, v2, v3, v4] from rfl] at h4
  exact h4
end Go.Proofs.Ytkpochkfijplaaa
