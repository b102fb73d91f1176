/-
  When a contour is simple: the program's test and the reference's; no program in sight.
-/
import Derived.Test.YtkpochkfijplaaaPrC
namespace Go.Proofs.Ytkpochkfijplaaa
set_option linter.all false
open Go Go.RowKit Wd
set_option maxRecDepth 100000
/-- Twice the area of a triangle. -/
@[irreducible] def trn (ax ay bx b_y cx cy : Int) : Int := (bx - ax) * (cy - ay) - (b_y - ay) * (cx - ax)
/-- Whether q lies on the edge from a to b. -/
@[irreducible] def onB (qx qy ax ay bx b_y : Int) : Bool := decide (trn ax ay bx b_y qx qy = 0) && decide (min ax bx ≤ qx) && decide (qx ≤ max ax bx) && decide (min ay b_y ≤ qy) && decide (qy ≤ max ay b_y)
theorem sgn_two {a b : Int} (h : 0 ≤ a * b) : (0 ≤ a ∧ 0 ≤ b) ∨ (a ≤ 0 ∧ b ≤ 0) := by
  by_cases ha : a = 0
  · rcases Int.le_total 0 b with g | g
    · exact Or.inl ⟨by omega, g⟩
    · exact Or.inr ⟨by omega, g⟩
  · by_cases hb : b = 0
    · rcases Int.le_total 0 a with g | g
      · exact Or.inl ⟨g, by omega⟩
      · exact Or.inr ⟨g, by omega⟩
    · rcases Int.le_total 0 a with g | g <;> rcases Int.le_total 0 b with k | k
      · exact Or.inl ⟨g, k⟩
      · exact absurd (Int.mul_neg_of_pos_of_neg (by omega : 0 < a) (by omega : b < 0)) (by omega)
      · exact absurd (Int.mul_neg_of_neg_of_pos (by omega : a < 0) (by omega : 0 < b)) (by omega)
      · exact Or.inr ⟨g, k⟩
theorem four_two {a b c d : Nat} (h : a * b = c * d) : (a ≤ d ∧ c ≤ b) ∨ (d ≤ a ∧ b ≤ c) := by
  rcases Nat.lt_trichotomy a d with h1 | h1 | h1
  · rcases Nat.lt_or_ge b c with h2 | h2
    · have := Nat.mul_lt_mul'' h1 h2
      rw [Nat.mul_comm d c] at this
      omega
    · exact Or.inl ⟨by omega, h2⟩
  · rcases Nat.le_total c b with h2 | h2
    · exact Or.inl ⟨by omega, h2⟩
    · exact Or.inr ⟨by omega, h2⟩
  · rcases Nat.lt_or_ge c b with h2 | h2
    · have := Nat.mul_lt_mul'' h1 h2
      rw [Nat.mul_comm d c] at this
      omega
    · exact Or.inr ⟨by omega, h2⟩
theorem sq_nonneg' (a : Int) : 0 ≤ a * a := by
  rcases Int.le_total 0 a with g | g
  · exact Int.mul_nonneg g g
  · exact Int.mul_nonneg_of_nonpos_of_nonpos g g
theorem spike_core {ux uy vx vy : Int} (hc : ux * vy - uy * vx = 0) (hd : 0 < ux * vx + uy * vy) :
    (min 0 vx ≤ ux ∧ ux ≤ max 0 vx ∧ min 0 vy ≤ uy ∧ uy ≤ max 0 vy) ∨ (min 0 ux ≤ vx ∧ vx ≤ max 0 ux ∧ min 0 uy ≤ vy ∧ vy ≤ max 0 uy) := by
  have hcr : ux * vy = uy * vx := by omega
  have hpp : (ux * vx) * (uy * vy) = (uy * vx) * (uy * vx) := by
    have : (ux * vx) * (uy * vy) = (ux * vy) * (uy * vx) := by grind
    rw [this, hcr]
  have h4 := sq_nonneg' (uy * vx)
  have hp : 0 ≤ ux * vx := by
    rcases Int.lt_or_le (ux * vx) 0 with h | h
    · have h3 : (ux * vx) * (uy * vy) < 0 := Int.mul_neg_of_neg_of_pos h (by omega)
      omega
    · exact h
  have hq : 0 ≤ uy * vy := by
    rcases Int.lt_or_le (uy * vy) 0 with h | h
    · have h3 : (ux * vx) * (uy * vy) < 0 := Int.mul_neg_of_pos_of_neg (by omega) h
      omega
    · exact h
  have hn : ux.natAbs * vy.natAbs = uy.natAbs * vx.natAbs := by
    rw [← Int.natAbs_mul, ← Int.natAbs_mul, hcr]
  have s1 := sgn_two hp
  have s2 := sgn_two hq
  clear hc hd hcr hpp h4 hp hq
  rcases four_two hn with ⟨k1, k2⟩ | ⟨k1, k2⟩
  · exact Or.inl (by omega)
  · exact Or.inr (by omega)
/-- A spike of the program's test is one of the reference's. -/
theorem spike_on {ax ay bx b_y cx cy : Int} (hc : trn ax ay bx b_y cx cy = 0) (hd : 0 < (ax - bx) * (cx - bx) + (ay - b_y) * (cy - b_y)) :
    onB ax ay bx b_y cx cy = true ∨ onB cx cy ax ay bx b_y = true := by
  unfold trn at hc
  have h := spike_core (ux := ax - bx) (uy := ay - b_y) (vx := cx - bx) (vy := cy - b_y) (by grind) hd
  unfold onB trn
  simp only [Bool.and_eq_true, decide_eq_true_eq]
  rcases h with ⟨h1, h2, h3, h4⟩ | ⟨h1, h2, h3, h4⟩
  · refine Or.inl ⟨⟨⟨⟨?_, ?_⟩, ?_⟩, ?_⟩, ?_⟩
    · grind
    · omega
    · omega
    · omega
    · omega
  · refine Or.inr ⟨⟨⟨⟨?_, ?_⟩, ?_⟩, ?_⟩, ?_⟩
    · grind
    · omega
    · omega
    · omega
    · omega
end Go.Proofs.Ytkpochkfijplaaa
