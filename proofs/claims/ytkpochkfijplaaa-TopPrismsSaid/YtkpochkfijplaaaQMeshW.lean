/-
  mesh.volume: the sum of a surface's determinants.
-/
import Derived.Test.YtkpochkfijplaaaQMeshDet

namespace Go.Proofs.Ytkpochkfijplaaa
set_option linter.all false
open Go Go.RowKit Wd
set_option maxRecDepth 100000
/-- The determinant of face j. -/
@[irreducible] def detF (P F : Nat → Int) (j : Nat) : Int := det3 (P ((F (j * 3)).toNat * 3)) (P ((F (j * 3)).toNat * 3 + 1)) (P ((F (j * 3)).toNat * 3 + 2)) (P ((F (j * 3 + 1)).toNat * 3)) (P ((F (j * 3 + 1)).toNat * 3 + 1)) (P ((F (j * 3 + 1)).toNat * 3 + 2)) (P ((F (j * 3 + 2)).toNat * 3)) (P ((F (j * 3 + 2)).toNat * 3 + 1)) (P ((F (j * 3 + 2)).toNat * 3 + 2))
theorem det3_abs (a b c p q r x y z : Int) (h0 : -32768 ≤ a ∧ a ≤ 32768) (h1 : -32768 ≤ b ∧ b ≤ 32768) (h2 : -32768 ≤ c ∧ c ≤ 32768) (h3 : -32768 ≤ p ∧ p ≤ 32768) (h4 : -32768 ≤ q ∧ q ≤ 32768) (h5 : -32768 ≤ r ∧ r ≤ 32768) (h6 : -32768 ≤ x ∧ x ≤ 32768) (h7 : -32768 ≤ y ∧ y ≤ 32768) (h8 : -32768 ≤ z ∧ z ≤ 32768) :
    -4503599627370496 ≤ det3 a b c p q r x y z ∧ det3 a b c p q r x y z ≤ 4503599627370496 := by
  have p1 := abs_mul_le h4 h8 (by omega) (by omega)
  have p2 := abs_mul_le h5 h7 (by omega) (by omega)
  have p3 := abs_mul_le h5 h6 (by omega) (by omega)
  have p4 := abs_mul_le h3 h8 (by omega) (by omega)
  have p5 := abs_mul_le h3 h7 (by omega) (by omega)
  have p6 := abs_mul_le h4 h6 (by omega) (by omega)
  have p7 := abs_mul_le (a := a) (b := q * z - r * y) (m := 32768) (k := 2147483648) h0 (by omega) (by omega) (by omega)
  have p8 := abs_mul_le (a := b) (b := r * x - p * z) (m := 32768) (k := 2147483648) h1 (by omega) (by omega) (by omega)
  have p9 := abs_mul_le (a := c) (b := p * y - q * x) (m := 32768) (k := 2147483648) h2 (by omega) (by omega) (by omega)
  unfold det3
  omega
theorem detF_abs {P F : Nat → Int} {np n : Nat} (hF : ∀ j, j < n * 3 → 0 ≤ F j ∧ F j < np) (hP : ∀ j, j < np * 3 → -32768 ≤ P j ∧ P j ≤ 32768) (j : Nat) (hj : j < n) : -4503599627370496 ≤ detF P F j ∧ detF P F j ≤ 4503599627370496 := by
  have f0 := hF (j * 3) (by omega)
  have f1 := hF (j * 3 + 1) (by omega)
  have f2 := hF (j * 3 + 2) (by omega)
  unfold detF
  exact det3_abs _ _ _ _ _ _ _ _ _ (hP _ (by omega)) (hP _ (by omega)) (hP _ (by omega)) (hP _ (by omega)) (hP _ (by omega)) (hP _ (by omega)) (hP _ (by omega)) (hP _ (by omega)) (hP _ (by omega))
/-- determinant, of face j. -/
theorem detj_any (g np c : Nat) (P F : Nat → Int) (n j : Nat) (hj : j < n) (hF : ∀ j, j < n * 3 → 0 ≤ F j ∧ F j < np) (hn : np ≤ 100000) (hP : ∀ j, j < np * 3 → -32768 ≤ P j ∧ P j ≤ 32768) (w : World) (h : RowI w g (np * 3) P) (lg : g < w.heap.size) (a1 : Option Addr) (n1 c1 : Nat) :
    Calls Try.prog 29 #[.agg #[.slice (some ⟨g, 0, none⟩) np c, .slice a1 n1 c1], .agg #[.int .i64 (F (j * 3)), .int .i64 (F (j * 3 + 1)), .int .i64 (F (j * 3 + 2))]] w fun e w' => e = .returned (.int .i64 (detF P F j)) ∧ Below w.heap.size w w' := by
  have f0 := hF (j * 3) (by omega)
  have f1 := hF (j * 3 + 1) (by omega)
  have f2 := hF (j * 3 + 2) (by omega)
  have K := det_any g np c (F (j * 3)).toNat (F (j * 3 + 1)).toNat (F (j * 3 + 2)).toNat undef P (by omega) (by omega) (by omega) hn hP w h lg a1 n1 c1
  rw [Int.toNat_of_nonneg f0.1, Int.toNat_of_nonneg f1.1, Int.toNat_of_nonneg f2.1] at K
  unfold detF
  exact K
set_option maxHeartbeats 2000000 in
theorem volf_any (M g h np nf c d : Nat) (P F : Nat → Int) (n j : Nat) (hj : j < n) (hF : ∀ j, j < n * 3 → 0 ≤ F j ∧ F j < np) (hn : np ≤ 100000) (hP : ∀ j, j < np * 3 → -32768 ≤ P j ∧ P j ≤ 32768) (w : World) (hr : RowI w g (np * 3) P) (lg : g < w.heap.size)
    (hM : ∀ o, w.cell? ⟨M, o, none⟩ = (#[.slice (some ⟨g, 0, none⟩) np c, .slice (some ⟨h, 0, none⟩) nf d] : Array Value)[o]?) (lM : M < w.heap.size) :
    Calls Try.prog 44 #[.agg #[.int .i64 (F (j * 3)), .int .i64 (F (j * 3 + 1)), .int .i64 (F (j * 3 + 2))], .pointer (some ⟨M, 0, none⟩)] w fun e w' => e = .returned (.tuple #[.int .i64 (detF P F j), .int .i64 1]) ∧ Below w.heap.size w w' := by
  have K := Lib.hid (fun W (hb : Below w.heap.size w W) => detj_any g np c P F n j hj hF hn hP W (fun q hq => (hb.cell (p := ⟨g, q, none⟩) lg).trans (hr q hq)) (keep_lt hb lg) (some ⟨h, 0, none⟩) nf d)
  clear hF hP hr
  generalize F (j * 3) = a0 at *
  generalize F (j * 3 + 1) = a1 at *
  generalize F (j * 3 + 2) = a2 at *
  go_enter Try.func44, Try.ntmps44
  go_wp2_with fail
  ((with_reducible refine (K.out _ (by (repeat' (first | (with_reducible exact Below.refl _ _) | (with_reducible assumption) | (with_reducible refine below_alloc ?_ _) | (with_reducible refine Below.drew ?_) | (with_reducible refine Below.setCell ?_ ?_ _) | (with_reducible refine below_after ?_ (by assumption)) | go_size)))).mono ?_); rintro e w1 ⟨rfl, hb1⟩)
  obtain ⟨hc1, hf1⟩ := bcell hb1
  have hz1_w_0 : w.heap.size < w1.heap.size := by have h := hb1.size; (try simp at h); omega
  go_wp2
  go_returns
  exact ⟨rfl, by (repeat' (first | (with_reducible exact Below.refl _ _) | (with_reducible assumption) | (with_reducible refine below_alloc ?_ _) | (with_reducible refine Below.drew ?_) | (with_reducible refine Below.setCell ?_ ?_ _) | (with_reducible refine below_after ?_ (by assumption)) | go_size))⟩
set_option maxHeartbeats 2000000 in
theorem vol_any (g h np nf c d : Nat) (P F : Nat → Int) (hF : ∀ j, j < nf * 3 → 0 ≤ F j ∧ F j < np) (hn : np ≤ 100000) (hnf : nf ≤ 100000) (hP : ∀ j, j < np * 3 → -32768 ≤ P j ∧ P j ≤ 32768) (w : World) (hr : RowI w g (np * 3) P) (lg : g < w.heap.size) (hq : RowI w h (nf * 3) F) (lh : h < w.heap.size) :
    Calls Try.prog 26 #[.agg #[.slice (some ⟨g, 0, none⟩) np c, .slice (some ⟨h, 0, none⟩) nf d]] w fun e w' => e = .returned (.agg #[.bool (zs (ps (detF P F) (fun _ => 1) nf)), .int .u64 (wd (Int.natAbs (ps (detF P F) (fun _ => 1) nf)) 0), .int .u64 (wd (Int.natAbs (ps (detF P F) (fun _ => 1) nf)) 1), .int .u64 (wd (Int.natAbs (ps (detF P F) (fun _ => 1) nf)) 2), .int .u64 (wd (Int.natAbs (ps (detF P F) (fun _ => 1) nf)) 3)]) ∧ Below w.heap.size w w' := by
  have hen : ∀ args w, (callFunc 44 args).run Try.prog w = .ok (.enter 44 args) w := enters_of Try.func44 (by kernel_rfl) rfl
  have K := Lib.hid (fun (W : World) (hb : Below w.heap.size w W) (hM : ∀ o, W.cell? ⟨w.heap.size, o, none⟩ = (#[.slice (some ⟨g, 0, none⟩) np c, .slice (some ⟨h, 0, none⟩) nf d] : Array Value)[o]?) (lM : w.heap.size < W.heap.size) =>
    sum_any 44 #[.pointer (some ⟨w.heap.size, 0, none⟩)] hen g h np nf c d F (detF P F) (fun _ => 1) hnf (detF_abs hF hP) (fun _ _ => by omega) W (fun q hq' => (hb.cell (p := ⟨h, q, none⟩) lh).trans (hq q hq')) (keep_lt hb lh)
      (fun j hj V hV => volf_any w.heap.size g h np nf c d P F nf j hj hF hn hP V (fun q hq' => ((below_after hb hV).cell (p := ⟨g, q, none⟩) lg).trans (hr q hq')) (keep_lt (below_after hb hV) lg) (fun o => (hV.cell (p := ⟨w.heap.size, o, none⟩) lM).trans (hM o)) (keep_lt hV lM)))
  clear hF hP hr hq hen
  go_enter Try.func26, Try.ntmps26
  go_upto_region 1 with (fail)
  refine wp_world (fun x => (∀ o, x.cell? ⟨w.heap.size, o, none⟩ = (#[.slice (some ⟨g, 0, none⟩) np c, .slice (some ⟨h, 0, none⟩) nf d] : Array Value)[o]?) ∧ (∀ o, x.cell? ⟨w.heap.size + 1, o, none⟩ = (#[.bool false, .int .u64 0, .int .u64 0, .int .u64 0, .int .u64 0] : Array Value)[o]?) ∧ (∀ o, x.frozen? ⟨w.heap.size, o, none⟩ = false) ∧ (∀ o, x.frozen? ⟨w.heap.size + 1, o, none⟩ = false) ∧ w.heap.size < x.heap.size ∧ w.heap.size + 1 < x.heap.size ∧ Below w.heap.size w x) ⟨fun o => by simp [go_sem], fun o => by simp [go_sem], fun o => by simp [go_sem], fun o => by simp [go_sem], by (first | omega | (simp [go_sem]; done) | (simp [go_sem]; omega)), by (first | omega | (simp [go_sem]; done) | (simp [go_sem]; omega)), by (repeat' (first | (with_reducible exact Below.refl _ _) | (with_reducible assumption) | (with_reducible refine below_alloc ?_ _) | (with_reducible refine Below.drew ?_) | (with_reducible refine Below.setCell ?_ ?_ _) | (with_reducible refine below_after ?_ (by assumption)) | go_size))⟩ ?_
  rintro G ⟨hGc0, hGc1, hGf0, hGf1, hGz0, hGz1, hGb⟩
  go_wp2_with fail
  ((with_reducible refine (K.out _ hGb hGc0 hGz0).mono ?_); rintro e w1 ⟨rfl, hb1⟩)
  have hk1 : Kp G.heap.size [] G w1 := (by (repeat (first | (with_reducible assumption) | (with_reducible exact Kp.refl (Nat.le_refl _)) | (with_reducible refine Kp.drew ?_) | (with_reducible refine Kp.alloc ?_ _) | ((with_reducible refine Kp.put ?_ ?_ _); focus (first | (left; go_size; done) | (right; simp; done))) | ((with_reducible apply Kp.later); (with_reducible assumption)))))
  have h1c0 := fun o => (hk1.cell _ o hGz0 (by simp)).trans (hGc0 o)
  have h1f0 := fun o => (hk1.froz _ o hGz0).trans (hGf0 o)
  have h1z0 := Nat.lt_of_lt_of_le hGz0 hk1.size
  have h1c1 := fun o => (hk1.cell _ o hGz1 (by simp)).trans (hGc1 o)
  have h1f1 := fun o => (hk1.froz _ o hGz1).trans (hGf1 o)
  have h1z1 := Nat.lt_of_lt_of_le hGz1 hk1.size
  go_wp2_with ((with_reducible show bodyPost _ _ _ _ _ _); refine bodyPost_ret (by simp [results, Try.results26, go_sem, h1c0, h1c1, h1f1, h1z1]; try rfl) rfl ?_; exact ⟨rfl, by (repeat' (first | (with_reducible exact Below.refl _ _) | (with_reducible assumption) | (with_reducible refine below_alloc ?_ _) | (with_reducible refine Below.drew ?_) | (with_reducible refine Below.setCell ?_ ?_ _) | (with_reducible refine below_after ?_ (by assumption)) | go_size))⟩)
end Go.Proofs.Ytkpochkfijplaaa
