/-
  The sums over a prism's faces: its volume and moments; no program in sight.
-/
import Derived.Test.YtkpochkfijplaaaPrA
namespace Go.Proofs.Ytkpochkfijplaaa
set_option linter.all false
open Go Go.RowKit Wd
set_option maxRecDepth 100000
theorem at_of {l q : List Nat} {k m : Nat} (h : ((l.drop k).take m == q) = true) (hm : q.length ≤ m) (r : Nat) (hr : r < q.length) : l.getD (k + r) 0 = q.getD r 0 := by
  have e : (l.drop k).take m = q := by simpa using h
  rw [← e]
  have : r < m := by omega
  simp [List.getD, List.getElem?_take, List.getElem?_drop, this]
theorem prF_first {n : Nat} (h3 : 3 ≤ n) (hn : n ≤ 32) (r : Nat) (hr : r < 6) : prF n r = (([0, 2, 3, 0, 3, 1].getD r 0 : Nat) : Int) := by
  have h := flAt_all n (by omega) h3
  unfold flAt at h
  simp only [Bool.and_eq_true] at h
  have := at_of (l := fl n n) (k := 0) (m := 6) (q := [0, 2, 3, 0, 3, 1]) (by simpa using h.1.1) (by simp) r (by simpa using hr)
  unfold prF
  rw [Nat.zero_add] at this
  rw [this]
theorem prF_last {n : Nat} (h3 : 3 ≤ n) (hn : n ≤ 32) (r : Nat) (hr : r < 6) : prF n ((4 * n - 6) * 3 + r) = (([2 * (n - 1), 0, 1, 2 * (n - 1), 1, 2 * (n - 1) + 1].getD r 0 : Nat) : Int) := by
  have h := flAt_all n (by omega) h3
  unfold flAt at h
  simp only [Bool.and_eq_true] at h
  have := at_of h.1.2 (by simp) r (by simpa using hr)
  unfold prF
  rw [this]
theorem prF_mid {n : Nat} (h3 : 3 ≤ n) (hn : n ≤ 32) (m : Nat) (hm : m + 2 < n) (r : Nat) (hr : r < 12) : prF n ((4 * (m + 1) - 2) * 3 + r) = (([2 * (m + 1), 2 * (m + 2), 2 * (m + 2) + 1, 2 * (m + 1), 2 * (m + 2) + 1, 2 * (m + 1) + 1, 0, 2 * (m + 2), 2 * (m + 1), 1, 2 * (m + 1) + 1, 2 * (m + 2) + 1].getD r 0 : Nat) : Int) := by
  have h := flAt_all n (by omega) h3
  unfold flAt at h
  simp only [Bool.and_eq_true, List.all_eq_true] at h
  have := at_of (h.2 m (List.mem_range.2 (by omega))) (by simp) r (by simpa using hr)
  unfold prF
  rw [this]
/-- The coordinates of a prism's points, where they lie. -/
@[irreducible] def prP (X Y : Nat → Int) (t : Int) (j : Nat) : Int := if j % 3 = 0 then X (j / 6) else if j % 3 = 1 then Y (j / 6) else if j % 6 = 2 then 0 else t
theorem prP_x (X Y : Nat → Int) (t : Int) (a : Nat) : prP X Y t (a * 3) = X (a / 2) := by
  unfold prP
  rw [if_pos (by omega), show a * 3 / 6 = a / 2 by omega]
theorem prP_y (X Y : Nat → Int) (t : Int) (a : Nat) : prP X Y t (a * 3 + 1) = Y (a / 2) := by
  unfold prP
  rw [if_neg (by omega), if_pos (by omega), show (a * 3 + 1) / 6 = a / 2 by omega]
theorem prP_z (X Y : Nat → Int) (t : Int) (a : Nat) : prP X Y t (a * 3 + 2) = if a % 2 = 0 then 0 else t := by
  unfold prP
  rw [if_neg (by omega), if_neg (by omega)]
  by_cases h : a % 2 = 0
  · rw [if_pos h, if_pos (by omega)]
  · rw [if_neg h, if_neg (by omega)]
/-- The height of an index's point. -/
@[irreducible] def zt (t : Int) (p : Nat) : Int := if p = 0 then 0 else t
theorem zt_0 (t : Int) : zt t 0 = 0 := by unfold zt; rfl
theorem zt_1 (t : Int) : zt t 1 = t := by unfold zt; rfl
theorem prP_at (X Y : Nat → Int) (t : Int) (i p : Nat) (hp : p < 2) : prP X Y t ((2 * i + p) * 3) = X i ∧ prP X Y t ((2 * i + p) * 3 + 1) = Y i ∧ prP X Y t ((2 * i + p) * 3 + 2) = zt t p := by
  refine ⟨?_, ?_, ?_⟩
  · rw [prP_x, show (2 * i + p) / 2 = i by omega]
  · rw [prP_y, show (2 * i + p) / 2 = i by omega]
  · rw [prP_z, show (2 * i + p) % 2 = p by omega]; unfold zt; rfl
/-- A face's determinant and sums, from its indices. -/
theorem face_is (X Y : Nat → Int) (t : Int) (F : Nat → Int) (j a b c p q r : Nat) (hp : p < 2) (hq : q < 2) (hr : r < 2) (h0 : F (j * 3) = ((2 * a + p : Nat) : Int)) (h1 : F (j * 3 + 1) = ((2 * b + q : Nat) : Int)) (h2 : F (j * 3 + 2) = ((2 * c + r : Nat) : Int)) :
    detF (prP X Y t) F j = X a * (Y b * zt t r - zt t q * Y c) + Y a * (zt t q * X c - X b * zt t r) + zt t p * (X b * Y c - Y b * X c) ∧
    sumF (prP X Y t) F 0 j = X a + X b + X c ∧ sumF (prP X Y t) F 1 j = Y a + Y b + Y c ∧ sumF (prP X Y t) F 2 j = zt t p + zt t q + zt t r := by
  obtain ⟨a0, a1, a2⟩ := prP_at X Y t a p hp
  obtain ⟨b0, b1, b2⟩ := prP_at X Y t b q hq
  obtain ⟨c0, c1, c2⟩ := prP_at X Y t c r hr
  rw [sumF_eq, sumF_eq, sumF_eq]
  unfold detF det3
  rw [h0, h1, h2]
  simp only [Int.toNat_natCast, Nat.add_zero]
  rw [a0, a1, a2, b0, b1, b2, c0, c1, c2]
  exact ⟨rfl, rfl, rfl, rfl⟩
@[irreducible] def cr (X Y : Nat → Int) (a b : Nat) : Int := X a * Y b - Y a * X b
/-- The sums over a contour's first edges: its area, and its moments. -/
@[irreducible] def arS (X Y : Nat → Int) (i : Nat) : Int := Sf.sr (fun m => cr X Y m (m + 1)) i
@[irreducible] def moS (U X Y : Nat → Int) (i : Nat) : Int := Sf.sr (fun m => (U m + U (m + 1)) * cr X Y m (m + 1)) i
theorem arS_zero (X Y : Nat → Int) : arS X Y 0 = 0 := by unfold arS; rfl
theorem arS_succ (X Y : Nat → Int) (i : Nat) : arS X Y (i + 1) = arS X Y i + cr X Y i (i + 1) := by unfold arS; rfl
theorem moS_zero (U X Y : Nat → Int) : moS U X Y 0 = 0 := by unfold moS; rfl
theorem moS_succ (U X Y : Nat → Int) (i : Nat) : moS U X Y (i + 1) = moS U X Y i + (U i + U (i + 1)) * cr X Y i (i + 1) := by unfold moS; rfl
/-- A round's faces. -/
theorem mid_faces (X Y : Nat → Int) (t : Int) {n : Nat} (h3 : 3 ≤ n) (hn : n ≤ 32) (m : Nat) (hm : m + 2 < n) (s : Nat) (hs : s = 4 * (m + 1) - 2) :
    (detF (prP X Y t) (prF n) s = t * cr X Y (m + 1) (m + 2) ∧ sumF (prP X Y t) (prF n) 0 s = X (m + 1) + X (m + 2) + X (m + 2) ∧ sumF (prP X Y t) (prF n) 1 s = Y (m + 1) + Y (m + 2) + Y (m + 2) ∧ sumF (prP X Y t) (prF n) 2 s = t) ∧
    (detF (prP X Y t) (prF n) (s + 1) = t * cr X Y (m + 1) (m + 2) ∧ sumF (prP X Y t) (prF n) 0 (s + 1) = X (m + 1) + X (m + 2) + X (m + 1) ∧ sumF (prP X Y t) (prF n) 1 (s + 1) = Y (m + 1) + Y (m + 2) + Y (m + 1) ∧ sumF (prP X Y t) (prF n) 2 (s + 1) = 2 * t) ∧
    detF (prP X Y t) (prF n) (s + 1 + 1) = 0 ∧
    (detF (prP X Y t) (prF n) (s + 1 + 1 + 1) = t * (cr X Y 0 (m + 1) + cr X Y (m + 1) (m + 2) + cr X Y (m + 2) 0) ∧ sumF (prP X Y t) (prF n) 0 (s + 1 + 1 + 1) = X 0 + X (m + 1) + X (m + 2) ∧ sumF (prP X Y t) (prF n) 1 (s + 1 + 1 + 1) = Y 0 + Y (m + 1) + Y (m + 2) ∧ sumF (prP X Y t) (prF n) 2 (s + 1 + 1 + 1) = 3 * t) := by
  have F := fun r hr => prF_mid h3 hn m hm r hr
  rw [← hs] at F
  obtain ⟨d0, x0, y0, z0⟩ := face_is X Y t (prF n) s (m + 1) (m + 2) (m + 2) 0 0 1 (by omega) (by omega) (by omega) (F 0 (by omega)) (F 1 (by omega)) (F 2 (by omega))
  obtain ⟨d1, x1, y1, z1⟩ := face_is X Y t (prF n) (s + 1) (m + 1) (m + 2) (m + 1) 0 1 1 (by omega) (by omega) (by omega) (by rw [show (s + 1) * 3 = s * 3 + 3 by omega]; exact F 3 (by omega)) (by rw [show (s + 1) * 3 + 1 = s * 3 + 4 by omega]; exact F 4 (by omega)) (by rw [show (s + 1) * 3 + 2 = s * 3 + 5 by omega]; exact F 5 (by omega))
  obtain ⟨d2, -⟩ := face_is X Y t (prF n) (s + 1 + 1) 0 (m + 2) (m + 1) 0 0 0 (by omega) (by omega) (by omega) (by rw [show (s + 1 + 1) * 3 = s * 3 + 6 by omega]; exact F 6 (by omega)) (by rw [show (s + 1 + 1) * 3 + 1 = s * 3 + 7 by omega]; exact F 7 (by omega)) (by rw [show (s + 1 + 1) * 3 + 2 = s * 3 + 8 by omega]; exact F 8 (by omega))
  obtain ⟨d3, x3, y3, z3⟩ := face_is X Y t (prF n) (s + 1 + 1 + 1) 0 (m + 1) (m + 2) 1 1 1 (by omega) (by omega) (by omega) (by rw [show (s + 1 + 1 + 1) * 3 = s * 3 + 9 by omega]; exact F 9 (by omega)) (by rw [show (s + 1 + 1 + 1) * 3 + 1 = s * 3 + 10 by omega]; exact F 10 (by omega)) (by rw [show (s + 1 + 1 + 1) * 3 + 2 = s * 3 + 11 by omega]; exact F 11 (by omega))
  rw [d0, d1, d2, d3, x0, x1, x3, y0, y1, y3, z0, z1, z3, zt_0, zt_1]
  unfold cr
  refine ⟨⟨?_, rfl, rfl, ?_⟩, ⟨?_, rfl, rfl, ?_⟩, ?_, ⟨?_, rfl, rfl, ?_⟩⟩ <;> grind
theorem end_faces (X Y : Nat → Int) (t : Int) {n : Nat} (F : Nat → Int) (i k s : Nat) (hF : ∀ r, r < 6 → F (s * 3 + r) = (([2 * i, 2 * k, 2 * k + 1, 2 * i, 2 * k + 1, 2 * i + 1].getD r 0 : Nat) : Int)) :
    (detF (prP X Y t) F s = t * cr X Y i k ∧ sumF (prP X Y t) F 0 s = X i + X k + X k ∧ sumF (prP X Y t) F 1 s = Y i + Y k + Y k ∧ sumF (prP X Y t) F 2 s = t) ∧
    (detF (prP X Y t) F (s + 1) = t * cr X Y i k ∧ sumF (prP X Y t) F 0 (s + 1) = X i + X k + X i ∧ sumF (prP X Y t) F 1 (s + 1) = Y i + Y k + Y i ∧ sumF (prP X Y t) F 2 (s + 1) = 2 * t) := by
  obtain ⟨d0, x0, y0, z0⟩ := face_is X Y t F s i k k 0 0 1 (by omega) (by omega) (by omega) (hF 0 (by omega)) (hF 1 (by omega)) (hF 2 (by omega))
  obtain ⟨d1, x1, y1, z1⟩ := face_is X Y t F (s + 1) i k i 0 1 1 (by omega) (by omega) (by omega) (by rw [show (s + 1) * 3 = s * 3 + 3 by omega]; exact hF 3 (by omega)) (by rw [show (s + 1) * 3 + 1 = s * 3 + 4 by omega]; exact hF 4 (by omega)) (by rw [show (s + 1) * 3 + 2 = s * 3 + 5 by omega]; exact hF 5 (by omega))
  rw [d0, d1, x0, x1, y0, y1, z0, z1, zt_0, zt_1]
  unfold cr
  refine ⟨⟨?_, rfl, rfl, ?_⟩, ⟨?_, rfl, rfl, ?_⟩⟩ <;> grind
end Go.Proofs.Ytkpochkfijplaaa
