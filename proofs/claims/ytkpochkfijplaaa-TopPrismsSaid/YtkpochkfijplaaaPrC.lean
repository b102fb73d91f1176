/-
  A prism's volume and moments from those of its contour; no program in sight.
-/
import Derived.Test.YtkpochkfijplaaaPrB
namespace Go.Proofs.Ytkpochkfijplaaa
set_option linter.all false
open Go Go.RowKit Wd
set_option maxRecDepth 100000
theorem ps_two (A B : Nat → Int) (s : Nat) : ps A B (s + 2) = ps A B s + A s * B s + A (s + 1) * B (s + 1) := by rw [show s + 2 = s + 1 + 1 from rfl, ps_succ, ps_succ]
theorem ps_four (A B : Nat → Int) (s : Nat) : ps A B (s + 4) = ps A B s + A s * B s + A (s + 1) * B (s + 1) + A (s + 1 + 1) * B (s + 1 + 1) + A (s + 1 + 1 + 1) * B (s + 1 + 1 + 1) := by
  rw [show s + 4 = s + 1 + 1 + 1 + 1 from rfl, ps_succ, ps_succ, ps_succ, ps_succ]
theorem vol_part (X Y : Nat → Int) (t : Int) {n : Nat} (h3 : 3 ≤ n) (hn : n ≤ 32) : ∀ m, m + 2 ≤ n → ps (detF (prP X Y t) (prF n)) (fun _ => 1) (4 * (m + 1) - 2) = 3 * t * arS X Y (m + 1) + t * cr X Y (m + 1) 0
  | 0, _ => by
    obtain ⟨⟨d0, -⟩, d1, -⟩ := end_faces X Y t (n := n) (prF n) 0 1 0 (fun r hr => by rw [Nat.zero_mul, Nat.zero_add]; exact prF_first h3 hn r hr)
    rw [show 4 * (0 + 1) - 2 = 0 + 2 from rfl, ps_two, ps_zero, d0, d1, arS_succ, arS_zero]
    unfold cr
    grind
  | m + 1, hm => by
    obtain ⟨⟨d0, -⟩, ⟨d1, -⟩, d2, d3, -⟩ := mid_faces X Y t h3 hn m (by omega) _ rfl
    rw [show 4 * (m + 1 + 1) - 2 = (4 * (m + 1) - 2) + 4 by omega, ps_four, vol_part X Y t h3 hn m (by omega), d0, d1, d2, d3, arS_succ X Y (m + 1)]
    unfold cr
    rw [show m + 1 + 1 = m + 2 from rfl]
    clear d0 d1 d2 d3
    generalize arS X Y (m + 1) = v202
    generalize X (m + 2) = v151
    generalize Y (m + 2) = v152
    generalize X (m + 1) = v151
    generalize Y (m + 1) = v152
    generalize X 0 = v109
    generalize Y 0 = v110
    grind
/-- Six times a prism's volume. -/
theorem vol_prism (X Y : Nat → Int) (t : Int) {n : Nat} (h3 : 3 ≤ n) (hn : n ≤ 32) : ps (detF (prP X Y t) (prF n)) (fun _ => 1) (4 * n - 4) = 3 * t * (arS X Y (n - 1) + cr X Y (n - 1) 0) := by
  obtain ⟨⟨d0, -⟩, d1, -⟩ := end_faces X Y t (n := n) (prF n) (n - 1) 0 (4 * n - 6) (fun r hr => prF_last h3 hn r hr)
  have h := vol_part X Y t h3 hn (n - 2) (by omega)
  rw [show n - 2 + 1 = n - 1 by omega, show 4 * (n - 1) - 2 = 4 * n - 6 by omega] at h
  rw [show 4 * n - 4 = (4 * n - 6) + 2 by omega, ps_two, h, d0, d1]
  grind
theorem momx_part (X Y : Nat → Int) (t : Int) {n : Nat} (h3 : 3 ≤ n) (hn : n ≤ 32) : ∀ m, m + 2 ≤ n → ps (detF (prP X Y t) (prF n)) (sumF (prP X Y t) (prF n) 0) (4 * (m + 1) - 2) = 4 * t * moS X X Y (m + 1) + t * ((X (m + 1) + X 0) * cr X Y (m + 1) 0)
  | 0, _ => by
    obtain ⟨⟨d0, x0, -⟩, d1, x1, -⟩ := end_faces X Y t (n := n) (prF n) 0 1 0 (fun r hr => by rw [Nat.zero_mul, Nat.zero_add]; exact prF_first h3 hn r hr)
    rw [show 4 * (0 + 1) - 2 = 0 + 2 from rfl, ps_two, ps_zero, d0, d1, x0, x1, moS_succ, moS_zero]
    unfold cr
    grind
  | m + 1, hm => by
    obtain ⟨⟨d0, x0, -⟩, ⟨d1, x1, -⟩, d2, d3, x3, -⟩ := mid_faces X Y t h3 hn m (by omega) _ rfl
    rw [show 4 * (m + 1 + 1) - 2 = (4 * (m + 1) - 2) + 4 by omega, ps_four, momx_part X Y t h3 hn m (by omega), d0, d1, d2, d3, x0, x1, x3, moS_succ _ X Y (m + 1)]
    unfold cr
    rw [show m + 1 + 1 = m + 2 from rfl]
    clear d0 d1 d2 d3
    generalize moS X X Y (m + 1) = v228
    generalize X (m + 2) = v151
    generalize Y (m + 2) = v152
    generalize X (m + 1) = v151
    generalize Y (m + 1) = v152
    generalize X 0 = v109
    generalize Y 0 = v110
    grind
theorem momy_part (X Y : Nat → Int) (t : Int) {n : Nat} (h3 : 3 ≤ n) (hn : n ≤ 32) : ∀ m, m + 2 ≤ n → ps (detF (prP X Y t) (prF n)) (sumF (prP X Y t) (prF n) 1) (4 * (m + 1) - 2) = 4 * t * moS Y X Y (m + 1) + t * ((Y (m + 1) + Y 0) * cr X Y (m + 1) 0)
  | 0, _ => by
    obtain ⟨⟨d0, -, x0, -⟩, d1, -, x1, -⟩ := end_faces X Y t (n := n) (prF n) 0 1 0 (fun r hr => by rw [Nat.zero_mul, Nat.zero_add]; exact prF_first h3 hn r hr)
    rw [show 4 * (0 + 1) - 2 = 0 + 2 from rfl, ps_two, ps_zero, d0, d1, x0, x1, moS_succ, moS_zero]
    unfold cr
    grind
  | m + 1, hm => by
    obtain ⟨⟨d0, -, x0, -⟩, ⟨d1, -, x1, -⟩, d2, d3, -, x3, -⟩ := mid_faces X Y t h3 hn m (by omega) _ rfl
    rw [show 4 * (m + 1 + 1) - 2 = (4 * (m + 1) - 2) + 4 by omega, ps_four, momy_part X Y t h3 hn m (by omega), d0, d1, d2, d3, x0, x1, x3, moS_succ _ X Y (m + 1)]
    unfold cr
    rw [show m + 1 + 1 = m + 2 from rfl]
    clear d0 d1 d2 d3
    generalize moS Y X Y (m + 1) = v228
    generalize X (m + 2) = v151
    generalize Y (m + 2) = v152
    generalize X (m + 1) = v151
    generalize Y (m + 1) = v152
    generalize X 0 = v109
    generalize Y 0 = v110
    grind
theorem momz_part (X Y : Nat → Int) (t : Int) {n : Nat} (h3 : 3 ≤ n) (hn : n ≤ 32) : ∀ m, m + 2 ≤ n → ps (detF (prP X Y t) (prF n)) (sumF (prP X Y t) (prF n) 2) (4 * (m + 1) - 2) = 6 * (t * t) * arS X Y (m + 1) + 3 * (t * t) * cr X Y (m + 1) 0
  | 0, _ => by
    obtain ⟨⟨d0, -, -, x0⟩, d1, -, -, x1⟩ := end_faces X Y t (n := n) (prF n) 0 1 0 (fun r hr => by rw [Nat.zero_mul, Nat.zero_add]; exact prF_first h3 hn r hr)
    rw [show 4 * (0 + 1) - 2 = 0 + 2 from rfl, ps_two, ps_zero, d0, d1, x0, x1, arS_succ, arS_zero]
    unfold cr
    grind
  | m + 1, hm => by
    obtain ⟨⟨d0, -, -, x0⟩, ⟨d1, -, -, x1⟩, d2, d3, -, -, x3⟩ := mid_faces X Y t h3 hn m (by omega) _ rfl
    rw [show 4 * (m + 1 + 1) - 2 = (4 * (m + 1) - 2) + 4 by omega, ps_four, momz_part X Y t h3 hn m (by omega), d0, d1, d2, d3, x0, x1, x3, arS_succ X Y (m + 1)]
    unfold cr
    rw [show m + 1 + 1 = m + 2 from rfl]
    clear d0 d1 d2 d3
    generalize arS X Y (m + 1) = v202
    generalize X (m + 2) = v151
    generalize Y (m + 2) = v152
    generalize X (m + 1) = v151
    generalize Y (m + 1) = v152
    generalize X 0 = v109
    generalize Y 0 = v110
    grind
/-- 24 times a prism's moments. -/
theorem mom_prism (X Y : Nat → Int) (t : Int) {n : Nat} (h3 : 3 ≤ n) (hn : n ≤ 32) :
    ps (detF (prP X Y t) (prF n)) (sumF (prP X Y t) (prF n) 0) (4 * n - 4) = 4 * t * (moS X X Y (n - 1) + (X (n - 1) + X 0) * cr X Y (n - 1) 0) ∧
    ps (detF (prP X Y t) (prF n)) (sumF (prP X Y t) (prF n) 1) (4 * n - 4) = 4 * t * (moS Y X Y (n - 1) + (Y (n - 1) + Y 0) * cr X Y (n - 1) 0) ∧
    ps (detF (prP X Y t) (prF n)) (sumF (prP X Y t) (prF n) 2) (4 * n - 4) = 6 * (t * t) * (arS X Y (n - 1) + cr X Y (n - 1) 0) := by
  obtain ⟨⟨d0, x0, y0, z0⟩, d1, x1, y1, z1⟩ := end_faces X Y t (n := n) (prF n) (n - 1) 0 (4 * n - 6) (fun r hr => prF_last h3 hn r hr)
  have hx := momx_part X Y t h3 hn (n - 2) (by omega)
  have hy := momy_part X Y t h3 hn (n - 2) (by omega)
  have hz := momz_part X Y t h3 hn (n - 2) (by omega)
  rw [show n - 2 + 1 = n - 1 by omega, show 4 * (n - 1) - 2 = 4 * n - 6 by omega] at hx hy hz
  rw [show 4 * n - 4 = (4 * n - 6) + 2 by omega, ps_two, ps_two, ps_two, hx, hy, hz, d0, d1, x0, x1, y0, y1, z0, z1]
  refine ⟨?_, ?_, ?_⟩ <;> grind
end Go.Proofs.Ytkpochkfijplaaa
