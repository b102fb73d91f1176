/-
  mesh.Volume6 and mesh.Moment24 of a closed surface that encloses something.
-/
import Derived.Test.YtkpochkfijplaaaQMeshX

namespace Go.Proofs.Ytkpochkfijplaaa
set_option linter.all false
open Go Go.RowKit Wd
set_option maxRecDepth 100000
set_option maxHeartbeats 2000000 in
theorem vol6_in (g h np nf c d : Nat) (P F : Nat → Int) (hF : ∀ j, j < nf * 3 → 0 ≤ F j ∧ F j < np) (hn : np ≤ 1024) (hnf : nf ≤ 2048) (hP : ∀ j, j < np * 3 → -32768 ≤ P j ∧ P j ≤ 32768) (hS : Shutd F nf) (hv : 0 < ps (detF P F) (fun _ => 1) nf)
    (w : World) (hr : RowI w g (np * 3) P) (lg : g < w.heap.size) (hq : RowI w h (nf * 3) F) (lh : h < w.heap.size) :
    Calls Try.prog 11 #[.agg #[.slice (some ⟨g, 0, none⟩) np c, .slice (some ⟨h, 0, none⟩) nf d]] w fun e w' => e = .returned (.tuple #[(.agg #[.bool (zs (ps (detF P F) (fun _ => 1) nf)), .int .u64 (wd (Int.natAbs (ps (detF P F) (fun _ => 1) nf)) 0), .int .u64 (wd (Int.natAbs (ps (detF P F) (fun _ => 1) nf)) 1), .int .u64 (wd (Int.natAbs (ps (detF P F) (fun _ => 1) nf)) 2), .int .u64 (wd (Int.natAbs (ps (detF P F) (fun _ => 1) nf)) 3)]), .int .i64 0]) ∧ Below w.heap.size w w' := by
  have K1 := Lib.hid (fun (W : World) (hb : Below w.heap.size w W) => mcheck_in g h np nf c d P F hF hn hnf hP hS hv W (fun q hq' => (hb.cell (p := ⟨g, q, none⟩) lg).trans (hr q hq')) (keep_lt hb lg) (fun q hq' => (hb.cell (p := ⟨h, q, none⟩) lh).trans (hq q hq')) (keep_lt hb lh))
  have K3 := Lib.hid (fun (W : World) (hb : Below w.heap.size w W) => vol_any g h np nf c d P F hF (by omega) (by omega) hP W (fun q hq' => (hb.cell (p := ⟨g, q, none⟩) lg).trans (hr q hq')) (keep_lt hb lg) (fun q hq' => (hb.cell (p := ⟨h, q, none⟩) lh).trans (hq q hq')) (keep_lt hb lh))
  clear hF hP hS hv hr hq
  generalize ps (detF P F) (fun _ => 1) nf = t at *
  go_enter Try.func11, Try.ntmps11
  go_upto_region 1 with (fail)
  refine wp_world (fun x => (∀ o, x.cell? ⟨w.heap.size, o, none⟩ = (#[.slice (some ⟨g, 0, none⟩) np c, .slice (some ⟨h, 0, none⟩) nf d] : Array Value)[o]?) ∧ (∀ o, x.cell? ⟨w.heap.size + 1, o, none⟩ = (#[.bool false, .int .u64 0, .int .u64 0, .int .u64 0, .int .u64 0] : Array Value)[o]?) ∧ (∀ o, x.frozen? ⟨w.heap.size, o, none⟩ = false) ∧ (∀ o, x.frozen? ⟨w.heap.size + 1, o, none⟩ = false) ∧ w.heap.size < x.heap.size ∧ w.heap.size + 1 < x.heap.size ∧ Below w.heap.size w x) ⟨fun o => by simp [go_sem], fun o => by simp [go_sem], fun o => by simp [go_sem], fun o => by simp [go_sem], by (first | omega | (simp [go_sem]; done) | (simp [go_sem]; omega)), by (first | omega | (simp [go_sem]; done) | (simp [go_sem]; omega)), by (repeat' (first | (with_reducible exact Below.refl _ _) | (with_reducible assumption) | (with_reducible refine below_alloc ?_ _) | (with_reducible refine Below.drew ?_) | (with_reducible refine Below.setCell ?_ ?_ _) | (with_reducible refine below_after ?_ (by assumption)) | go_size))⟩ ?_
  rintro G ⟨hGc0, hGc1, hGf0, hGf1, hGz0, hGz1, hGb⟩
  go_wp2_with fail
  ((with_reducible refine (K1.out _ (by (repeat' (first | (with_reducible exact Below.refl _ _) | (with_reducible assumption) | (with_reducible refine below_alloc ?_ _) | (with_reducible refine Below.drew ?_) | (with_reducible refine Below.setCell ?_ ?_ _) | (with_reducible refine below_after ?_ (by assumption)) | go_size)))).mono ?_); rintro e w1 ⟨rfl, hb1⟩)
  have hk1 : Kp G.heap.size [] G w1 := (by (repeat (first | (with_reducible assumption) | (with_reducible exact Kp.refl (Nat.le_refl _)) | (with_reducible refine Kp.drew ?_) | (with_reducible refine Kp.alloc ?_ _) | ((with_reducible refine Kp.put ?_ ?_ _); focus (first | (left; go_size; done) | (right; simp; done))) | ((with_reducible apply Kp.later); (with_reducible assumption)))))
  have h1c0 := fun o => (hk1.cell _ o hGz0 (by simp)).trans (hGc0 o)
  have h1f0 := fun o => (hk1.froz _ o hGz0).trans (hGf0 o)
  have h1z0 := Nat.lt_of_lt_of_le hGz0 hk1.size
  have h1c1 := fun o => (hk1.cell _ o hGz1 (by simp)).trans (hGc1 o)
  have h1f1 := fun o => (hk1.froz _ o hGz1).trans (hGf1 o)
  have h1z1 := Nat.lt_of_lt_of_le hGz1 hk1.size
  go_wp2_with fail
  ((with_reducible refine (K3.out _ (by (repeat' (first | (with_reducible exact Below.refl _ _) | (with_reducible assumption) | (with_reducible refine below_alloc ?_ _) | (with_reducible refine Below.drew ?_) | (with_reducible refine Below.setCell ?_ ?_ _) | (with_reducible refine below_after ?_ (by assumption)) | go_size)))).mono ?_); rintro e w2 ⟨rfl, hb2⟩)
  have hk2 : Kp G.heap.size [] G w2 := (by (repeat (first | (with_reducible assumption) | (with_reducible exact Kp.refl (Nat.le_refl _)) | (with_reducible refine Kp.drew ?_) | (with_reducible refine Kp.alloc ?_ _) | ((with_reducible refine Kp.put ?_ ?_ _); focus (first | (left; go_size; done) | (right; simp; done))) | ((with_reducible apply Kp.later); (with_reducible assumption)))))
  have h2c0 := fun o => (hk2.cell _ o hGz0 (by simp)).trans (hGc0 o)
  have h2f0 := fun o => (hk2.froz _ o hGz0).trans (hGf0 o)
  have h2z0 := Nat.lt_of_lt_of_le hGz0 hk2.size
  have h2c1 := fun o => (hk2.cell _ o hGz1 (by simp)).trans (hGc1 o)
  have h2f1 := fun o => (hk2.froz _ o hGz1).trans (hGf1 o)
  have h2z1 := Nat.lt_of_lt_of_le hGz1 hk2.size
  go_wp2_with ((with_reducible show bodyPost _ _ _ _ _ _); refine bodyPost_ret (by simp [results, Try.results11, go_sem, h2c0, h2c1, h2f1, h2z1]; try rfl) rfl ?_; exact ⟨rfl, by (repeat' (first | (with_reducible exact Below.refl _ _) | (with_reducible assumption) | (with_reducible refine below_alloc ?_ _) | (with_reducible refine Below.drew ?_) | (with_reducible refine Below.setCell ?_ ?_ _) | (with_reducible refine below_after ?_ (by assumption)) | go_size))⟩)
/-- The sum of a coordinate over the corners of face j. -/
@[irreducible] def sumF (P F : Nat → Int) (q j : Nat) : Int := P ((F (j * 3)).toNat * 3 + q) + P ((F (j * 3 + 1)).toNat * 3 + q) + P ((F (j * 3 + 2)).toNat * 3 + q)
theorem sumF_eq (P F : Nat → Int) (q j : Nat) : sumF P F q j = P ((F (j * 3)).toNat * 3 + q) + P ((F (j * 3 + 1)).toNat * 3 + q) + P ((F (j * 3 + 2)).toNat * 3 + q) := by unfold sumF; rfl
theorem index3_0 (x y z : Int) (w : World) : (Instr.index 62 (.agg #[.int .i64 x, .int .i64 y, .int .i64 z]) (.int .i64 0)).run Try.prog w = .ok (.int .i64 x) w := rfl
theorem index3_1 (x y z : Int) (w : World) : (Instr.index 62 (.agg #[.int .i64 x, .int .i64 y, .int .i64 z]) (.int .i64 1)).run Try.prog w = .ok (.int .i64 y) w := rfl
theorem index3_2 (x y z : Int) (w : World) : (Instr.index 62 (.agg #[.int .i64 x, .int .i64 y, .int .i64 z]) (.int .i64 2)).run Try.prog w = .ok (.int .i64 z) w := rfl
set_option maxHeartbeats 4000000 in
theorem momf_0 (M I g h np nf c d : Nat) (P F : Nat → Int) (n j : Nat) (hj : j < n) (hF : ∀ j, j < n * 3 → 0 ≤ F j ∧ F j < np) (hn : np ≤ 100000) (hP : ∀ j, j < np * 3 → -32768 ≤ P j ∧ P j ≤ 32768) (w : World) (hr : RowI w g (np * 3) P) (lg : g < w.heap.size)
    (hM : ∀ o, w.cell? ⟨M, o, none⟩ = (#[.slice (some ⟨g, 0, none⟩) np c, .slice (some ⟨h, 0, none⟩) nf d] : Array Value)[o]?) (lM : M < w.heap.size) (hI : ∀ o, w.cell? ⟨I, o, none⟩ = (#[.int .i64 0] : Array Value)[o]?) (lI : I < w.heap.size) :
    Calls Try.prog 28 #[.agg #[.int .i64 (F (j * 3)), .int .i64 (F (j * 3 + 1)), .int .i64 (F (j * 3 + 2))], .pointer (some ⟨M, 0, none⟩), .pointer (some ⟨I, 0, none⟩)] w fun e w' => e = .returned (.tuple #[.int .i64 (detF P F j), .int .i64 (sumF P F 0 j)]) ∧ Below w.heap.size w w' := by
  have K := Lib.hid (fun W (hb : Below w.heap.size w W) => detj_any g np c P F n j hj hF hn hP W (fun q hq => (hb.cell (p := ⟨g, q, none⟩) lg).trans (hr q hq)) (keep_lt hb lg) (some ⟨h, 0, none⟩) nf d)
  have b0 := hF (j * 3) (by omega)
  have b1 := hF (j * 3 + 1) (by omega)
  have b2 := hF (j * 3 + 2) (by omega)
  have hs := Lib.hid (sumF_eq P F 0 j)
  obtain ⟨i0, e0⟩ : ∃ x : Nat, F (j * 3) = x := ⟨(F (j * 3)).toNat, by omega⟩
  obtain ⟨i1, e1⟩ : ∃ x : Nat, F (j * 3 + 1) = x := ⟨(F (j * 3 + 1)).toNat, by omega⟩
  obtain ⟨i2, e2⟩ : ∃ x : Nat, F (j * 3 + 2) = x := ⟨(F (j * 3 + 2)).toNat, by omega⟩
  rw [e0, e1, e2] at K ⊢
  rw [e0] at b0
  rw [e1] at b1
  rw [e2] at b2
  rw [e0, e1, e2] at hs
  simp only [Int.toNat_natCast] at hs
  have R := Lib.hid (show ∀ i : Nat, (i : Int) < np → ∀ W, Below w.heap.size w W → (W.cell? ⟨g, i * 3, none⟩ = some (.int .i64 (P (i * 3))) ∧ W.cell? ⟨g, i * 3 + 1, none⟩ = some (.int .i64 (P (i * 3 + 1))) ∧ W.cell? ⟨g, i * 3 + 2, none⟩ = some (.int .i64 (P (i * 3 + 2)))) ∧ (-32768 ≤ P (i * 3) ∧ P (i * 3) ≤ 32768) ∧ (-32768 ≤ P (i * 3 + 1) ∧ P (i * 3 + 1) ≤ 32768) ∧ (-32768 ≤ P (i * 3 + 2) ∧ P (i * 3 + 2) ≤ 32768) from fun i hi W hb =>
    ⟨⟨(hb.cell (p := ⟨g, i * 3, none⟩) lg).trans (hr _ (by omega)), (hb.cell (p := ⟨g, i * 3 + 1, none⟩) lg).trans (hr _ (by omega)), (hb.cell (p := ⟨g, i * 3 + 2, none⟩) lg).trans (hr _ (by omega))⟩, hP _ (by omega), hP _ (by omega), hP _ (by omega)⟩)
  have HC := Lib.hid (show ∀ W, Below w.heap.size w W → (∀ o, W.cell? ⟨M, o, none⟩ = (#[.slice (some ⟨g, 0, none⟩) np c, .slice (some ⟨h, 0, none⟩) nf d] : Array Value)[o]?) ∧ M < W.heap.size ∧ (∀ o, W.cell? ⟨I, o, none⟩ = (#[.int .i64 0] : Array Value)[o]?) ∧ I < W.heap.size ∧ g < W.heap.size from fun W hb => ⟨keep_cell hb lM hM, keep_lt hb lM, keep_cell hb lI hI, keep_lt hb lI, keep_lt hb lg⟩)
  clear hF hP hr e0 e1 e2 hM hI
  go_enter Try.func28, Try.ntmps28
  go_upto_region 2 with (fail)
  refine wp_world (fun x => (∀ o, x.cell? ⟨w.heap.size, o, none⟩ = (#[.int .i64 (i0 : Int), .int .i64 (i1 : Int), .int .i64 (i2 : Int)] : Array Value)[o]?) ∧ (∀ o, x.frozen? ⟨w.heap.size, o, none⟩ = false) ∧ w.heap.size < x.heap.size ∧ Below w.heap.size w x) ⟨fun o => by simp [go_sem], fun o => by simp [go_sem], by (first | omega | (simp [go_sem]; done) | (simp [go_sem]; omega)), by (repeat' (first | (with_reducible exact Below.refl _ _) | (with_reducible assumption) | (with_reducible refine below_alloc ?_ _) | (with_reducible refine Below.drew ?_) | (with_reducible refine Below.setCell ?_ ?_ _) | (with_reducible refine below_after ?_ (by assumption)) | go_size))⟩ ?_
  rintro G ⟨hGc0, hGf0, hGz0, hGb⟩
  have HG := Lib.hid hGb
  go_wp2
  go_loopg [6, 11] 3 (fun gg v6 v wr => ∃ i : Nat, i ≤ 3 ∧ 3 - i ≤ gg ∧ v = .int .i64 (i : Int) ∧ v6 = .int .i64 (if i = 0 then 0 else if i = 1 then P (i0 * 3 + 0) else if i = 2 then P (i0 * 3 + 0) + P (i1 * 3 + 0) else P (i0 * 3 + 0) + P (i1 * 3 + 0) + P (i2 * 3 + 0)) ∧ Hid (Below G.heap.size G wr))
  case atStart => exact ⟨0, by omega, by omega, rfl, rfl, Lib.hid (Below.refl _ _)⟩
  case round =>
    obtain ⟨i, hi, hgi, rfl, rfl, HB⟩ := hrel
    have hbw := below_after HG.out HB.out
    obtain ⟨mc, mz, ic, iz, gz⟩ := HC.out _ hbw
    have r0 := R.out i0 b0.2 _ hbw
    have r1 := R.out i1 b1.2 _ hbw
    have r2 := R.out i2 b2.2 _ hbw
    obtain ⟨⟨f00, f01, f02⟩, g00, g01, g02⟩ := r0
    obtain ⟨⟨f10, f11, f12⟩, g10, g11, g12⟩ := r1
    obtain ⟨⟨f20, f21, f22⟩, g20, g21, g22⟩ := r2
    have gc := keep_cell HB.out hGz0 hGc0
    have gcz := keep_lt HB.out hGz0
    (try simp only [Nat.add_zero] at hs)
    clear hGc0 hGf0 hGz0 hGb lM lI lg
    have hbG := HB.out
    have x0 := index3_0
    have x1 := index3_1
    have x2 := index3_2
    have b00 := b0.2
    have b10 := b1.2
    have b20 := b2.2
    rcases (by omega : i = 0 ∨ i = 1 ∨ i = 2 ∨ i = 3) with rfl | rfl | rfl | rfl
    · go_wp2
      go_roundg 2
      case rel => exact ⟨1, by omega, by omega, rfl, by simp, Lib.hid (by (repeat' (first | (with_reducible exact Below.refl _ _) | (with_reducible assumption) | (with_reducible refine below_alloc ?_ _) | (with_reducible refine Below.drew ?_) | (with_reducible refine Below.setCell ?_ ?_ _) | (with_reducible refine below_after ?_ (by assumption)) | go_size)))⟩
      case measure => omega
    · go_wp2
      go_roundg 1
      case rel => exact ⟨2, by omega, by omega, rfl, by simp, Lib.hid (by (repeat' (first | (with_reducible exact Below.refl _ _) | (with_reducible assumption) | (with_reducible refine below_alloc ?_ _) | (with_reducible refine Below.drew ?_) | (with_reducible refine Below.setCell ?_ ?_ _) | (with_reducible refine below_after ?_ (by assumption)) | go_size)))⟩
      case measure => omega
    · go_wp2
      go_roundg 0
      case rel => exact ⟨3, by omega, by omega, rfl, by simp, Lib.hid (by (repeat' (first | (with_reducible exact Below.refl _ _) | (with_reducible assumption) | (with_reducible refine below_alloc ?_ _) | (with_reducible refine Below.drew ?_) | (with_reducible refine Below.setCell ?_ ?_ _) | (with_reducible refine below_after ?_ (by assumption)) | go_size)))⟩
      case measure => omega
    · go_wp2_with (first | (go_at_call 29; (with_reducible refine (K.out _ (by (repeat' (first | (with_reducible exact Below.refl _ _) | (with_reducible assumption) | (with_reducible refine below_alloc ?_ _) | (with_reducible refine Below.drew ?_) | (with_reducible refine Below.setCell ?_ ?_ _) | (with_reducible refine below_after ?_ (by assumption)) | go_size)))).mono ?_); rintro e w1 ⟨rfl, hb1⟩))
      rw [hs.out]
      go_returns
      exact ⟨by simp, by (repeat' (first | (with_reducible exact Below.refl _ _) | (with_reducible assumption) | (with_reducible refine below_alloc ?_ _) | (with_reducible refine Below.drew ?_) | (with_reducible refine Below.setCell ?_ ?_ _) | (with_reducible refine below_after ?_ (by assumption)) | go_size))⟩
set_option maxHeartbeats 4000000 in
theorem momf_1 (M I g h np nf c d : Nat) (P F : Nat → Int) (n j : Nat) (hj : j < n) (hF : ∀ j, j < n * 3 → 0 ≤ F j ∧ F j < np) (hn : np ≤ 100000) (hP : ∀ j, j < np * 3 → -32768 ≤ P j ∧ P j ≤ 32768) (w : World) (hr : RowI w g (np * 3) P) (lg : g < w.heap.size)
    (hM : ∀ o, w.cell? ⟨M, o, none⟩ = (#[.slice (some ⟨g, 0, none⟩) np c, .slice (some ⟨h, 0, none⟩) nf d] : Array Value)[o]?) (lM : M < w.heap.size) (hI : ∀ o, w.cell? ⟨I, o, none⟩ = (#[.int .i64 1] : Array Value)[o]?) (lI : I < w.heap.size) :
    Calls Try.prog 28 #[.agg #[.int .i64 (F (j * 3)), .int .i64 (F (j * 3 + 1)), .int .i64 (F (j * 3 + 2))], .pointer (some ⟨M, 0, none⟩), .pointer (some ⟨I, 0, none⟩)] w fun e w' => e = .returned (.tuple #[.int .i64 (detF P F j), .int .i64 (sumF P F 1 j)]) ∧ Below w.heap.size w w' := by
  have K := Lib.hid (fun W (hb : Below w.heap.size w W) => detj_any g np c P F n j hj hF hn hP W (fun q hq => (hb.cell (p := ⟨g, q, none⟩) lg).trans (hr q hq)) (keep_lt hb lg) (some ⟨h, 0, none⟩) nf d)
  have b0 := hF (j * 3) (by omega)
  have b1 := hF (j * 3 + 1) (by omega)
  have b2 := hF (j * 3 + 2) (by omega)
  have hs := Lib.hid (sumF_eq P F 1 j)
  obtain ⟨i0, e0⟩ : ∃ x : Nat, F (j * 3) = x := ⟨(F (j * 3)).toNat, by omega⟩
  obtain ⟨i1, e1⟩ : ∃ x : Nat, F (j * 3 + 1) = x := ⟨(F (j * 3 + 1)).toNat, by omega⟩
  obtain ⟨i2, e2⟩ : ∃ x : Nat, F (j * 3 + 2) = x := ⟨(F (j * 3 + 2)).toNat, by omega⟩
  rw [e0, e1, e2] at K ⊢
  rw [e0] at b0
  rw [e1] at b1
  rw [e2] at b2
  rw [e0, e1, e2] at hs
  simp only [Int.toNat_natCast] at hs
  have R := Lib.hid (show ∀ i : Nat, (i : Int) < np → ∀ W, Below w.heap.size w W → (W.cell? ⟨g, i * 3, none⟩ = some (.int .i64 (P (i * 3))) ∧ W.cell? ⟨g, i * 3 + 1, none⟩ = some (.int .i64 (P (i * 3 + 1))) ∧ W.cell? ⟨g, i * 3 + 2, none⟩ = some (.int .i64 (P (i * 3 + 2)))) ∧ (-32768 ≤ P (i * 3) ∧ P (i * 3) ≤ 32768) ∧ (-32768 ≤ P (i * 3 + 1) ∧ P (i * 3 + 1) ≤ 32768) ∧ (-32768 ≤ P (i * 3 + 2) ∧ P (i * 3 + 2) ≤ 32768) from fun i hi W hb =>
    ⟨⟨(hb.cell (p := ⟨g, i * 3, none⟩) lg).trans (hr _ (by omega)), (hb.cell (p := ⟨g, i * 3 + 1, none⟩) lg).trans (hr _ (by omega)), (hb.cell (p := ⟨g, i * 3 + 2, none⟩) lg).trans (hr _ (by omega))⟩, hP _ (by omega), hP _ (by omega), hP _ (by omega)⟩)
  have HC := Lib.hid (show ∀ W, Below w.heap.size w W → (∀ o, W.cell? ⟨M, o, none⟩ = (#[.slice (some ⟨g, 0, none⟩) np c, .slice (some ⟨h, 0, none⟩) nf d] : Array Value)[o]?) ∧ M < W.heap.size ∧ (∀ o, W.cell? ⟨I, o, none⟩ = (#[.int .i64 1] : Array Value)[o]?) ∧ I < W.heap.size ∧ g < W.heap.size from fun W hb => ⟨keep_cell hb lM hM, keep_lt hb lM, keep_cell hb lI hI, keep_lt hb lI, keep_lt hb lg⟩)
  clear hF hP hr e0 e1 e2 hM hI
  go_enter Try.func28, Try.ntmps28
  go_upto_region 2 with (fail)
  refine wp_world (fun x => (∀ o, x.cell? ⟨w.heap.size, o, none⟩ = (#[.int .i64 (i0 : Int), .int .i64 (i1 : Int), .int .i64 (i2 : Int)] : Array Value)[o]?) ∧ (∀ o, x.frozen? ⟨w.heap.size, o, none⟩ = false) ∧ w.heap.size < x.heap.size ∧ Below w.heap.size w x) ⟨fun o => by simp [go_sem], fun o => by simp [go_sem], by (first | omega | (simp [go_sem]; done) | (simp [go_sem]; omega)), by (repeat' (first | (with_reducible exact Below.refl _ _) | (with_reducible assumption) | (with_reducible refine below_alloc ?_ _) | (with_reducible refine Below.drew ?_) | (with_reducible refine Below.setCell ?_ ?_ _) | (with_reducible refine below_after ?_ (by assumption)) | go_size))⟩ ?_
  rintro G ⟨hGc0, hGf0, hGz0, hGb⟩
  have HG := Lib.hid hGb
  go_wp2
  go_loopg [6, 11] 3 (fun gg v6 v wr => ∃ i : Nat, i ≤ 3 ∧ 3 - i ≤ gg ∧ v = .int .i64 (i : Int) ∧ v6 = .int .i64 (if i = 0 then 0 else if i = 1 then P (i0 * 3 + 1) else if i = 2 then P (i0 * 3 + 1) + P (i1 * 3 + 1) else P (i0 * 3 + 1) + P (i1 * 3 + 1) + P (i2 * 3 + 1)) ∧ Hid (Below G.heap.size G wr))
  case atStart => exact ⟨0, by omega, by omega, rfl, rfl, Lib.hid (Below.refl _ _)⟩
  case round =>
    obtain ⟨i, hi, hgi, rfl, rfl, HB⟩ := hrel
    have hbw := below_after HG.out HB.out
    obtain ⟨mc, mz, ic, iz, gz⟩ := HC.out _ hbw
    have r0 := R.out i0 b0.2 _ hbw
    have r1 := R.out i1 b1.2 _ hbw
    have r2 := R.out i2 b2.2 _ hbw
    obtain ⟨⟨f00, f01, f02⟩, g00, g01, g02⟩ := r0
    obtain ⟨⟨f10, f11, f12⟩, g10, g11, g12⟩ := r1
    obtain ⟨⟨f20, f21, f22⟩, g20, g21, g22⟩ := r2
    have gc := keep_cell HB.out hGz0 hGc0
    have gcz := keep_lt HB.out hGz0
    (try simp only [Nat.add_zero] at hs)
    clear hGc0 hGf0 hGz0 hGb lM lI lg
    have hbG := HB.out
    have x0 := index3_0
    have x1 := index3_1
    have x2 := index3_2
    have b00 := b0.2
    have b10 := b1.2
    have b20 := b2.2
    rcases (by omega : i = 0 ∨ i = 1 ∨ i = 2 ∨ i = 3) with rfl | rfl | rfl | rfl
    · go_wp2
      go_roundg 2
      case rel => exact ⟨1, by omega, by omega, rfl, by simp, Lib.hid (by (repeat' (first | (with_reducible exact Below.refl _ _) | (with_reducible assumption) | (with_reducible refine below_alloc ?_ _) | (with_reducible refine Below.drew ?_) | (with_reducible refine Below.setCell ?_ ?_ _) | (with_reducible refine below_after ?_ (by assumption)) | go_size)))⟩
      case measure => omega
    · go_wp2
      go_roundg 1
      case rel => exact ⟨2, by omega, by omega, rfl, by simp, Lib.hid (by (repeat' (first | (with_reducible exact Below.refl _ _) | (with_reducible assumption) | (with_reducible refine below_alloc ?_ _) | (with_reducible refine Below.drew ?_) | (with_reducible refine Below.setCell ?_ ?_ _) | (with_reducible refine below_after ?_ (by assumption)) | go_size)))⟩
      case measure => omega
    · go_wp2
      go_roundg 0
      case rel => exact ⟨3, by omega, by omega, rfl, by simp, Lib.hid (by (repeat' (first | (with_reducible exact Below.refl _ _) | (with_reducible assumption) | (with_reducible refine below_alloc ?_ _) | (with_reducible refine Below.drew ?_) | (with_reducible refine Below.setCell ?_ ?_ _) | (with_reducible refine below_after ?_ (by assumption)) | go_size)))⟩
      case measure => omega
    · go_wp2_with (first | (go_at_call 29; (with_reducible refine (K.out _ (by (repeat' (first | (with_reducible exact Below.refl _ _) | (with_reducible assumption) | (with_reducible refine below_alloc ?_ _) | (with_reducible refine Below.drew ?_) | (with_reducible refine Below.setCell ?_ ?_ _) | (with_reducible refine below_after ?_ (by assumption)) | go_size)))).mono ?_); rintro e w1 ⟨rfl, hb1⟩))
      rw [hs.out]
      go_returns
      exact ⟨by simp, by (repeat' (first | (with_reducible exact Below.refl _ _) | (with_reducible assumption) | (with_reducible refine below_alloc ?_ _) | (with_reducible refine Below.drew ?_) | (with_reducible refine Below.setCell ?_ ?_ _) | (with_reducible refine below_after ?_ (by assumption)) | go_size))⟩
set_option maxHeartbeats 4000000 in
theorem momf_2 (M I g h np nf c d : Nat) (P F : Nat → Int) (n j : Nat) (hj : j < n) (hF : ∀ j, j < n * 3 → 0 ≤ F j ∧ F j < np) (hn : np ≤ 100000) (hP : ∀ j, j < np * 3 → -32768 ≤ P j ∧ P j ≤ 32768) (w : World) (hr : RowI w g (np * 3) P) (lg : g < w.heap.size)
    (hM : ∀ o, w.cell? ⟨M, o, none⟩ = (#[.slice (some ⟨g, 0, none⟩) np c, .slice (some ⟨h, 0, none⟩) nf d] : Array Value)[o]?) (lM : M < w.heap.size) (hI : ∀ o, w.cell? ⟨I, o, none⟩ = (#[.int .i64 2] : Array Value)[o]?) (lI : I < w.heap.size) :
    Calls Try.prog 28 #[.agg #[.int .i64 (F (j * 3)), .int .i64 (F (j * 3 + 1)), .int .i64 (F (j * 3 + 2))], .pointer (some ⟨M, 0, none⟩), .pointer (some ⟨I, 0, none⟩)] w fun e w' => e = .returned (.tuple #[.int .i64 (detF P F j), .int .i64 (sumF P F 2 j)]) ∧ Below w.heap.size w w' := by
  have K := Lib.hid (fun W (hb : Below w.heap.size w W) => detj_any g np c P F n j hj hF hn hP W (fun q hq => (hb.cell (p := ⟨g, q, none⟩) lg).trans (hr q hq)) (keep_lt hb lg) (some ⟨h, 0, none⟩) nf d)
  have b0 := hF (j * 3) (by omega)
  have b1 := hF (j * 3 + 1) (by omega)
  have b2 := hF (j * 3 + 2) (by omega)
  have hs := Lib.hid (sumF_eq P F 2 j)
  obtain ⟨i0, e0⟩ : ∃ x : Nat, F (j * 3) = x := ⟨(F (j * 3)).toNat, by omega⟩
  obtain ⟨i1, e1⟩ : ∃ x : Nat, F (j * 3 + 1) = x := ⟨(F (j * 3 + 1)).toNat, by omega⟩
  obtain ⟨i2, e2⟩ : ∃ x : Nat, F (j * 3 + 2) = x := ⟨(F (j * 3 + 2)).toNat, by omega⟩
  rw [e0, e1, e2] at K ⊢
  rw [e0] at b0
  rw [e1] at b1
  rw [e2] at b2
  rw [e0, e1, e2] at hs
  simp only [Int.toNat_natCast] at hs
  have R := Lib.hid (show ∀ i : Nat, (i : Int) < np → ∀ W, Below w.heap.size w W → (W.cell? ⟨g, i * 3, none⟩ = some (.int .i64 (P (i * 3))) ∧ W.cell? ⟨g, i * 3 + 1, none⟩ = some (.int .i64 (P (i * 3 + 1))) ∧ W.cell? ⟨g, i * 3 + 2, none⟩ = some (.int .i64 (P (i * 3 + 2)))) ∧ (-32768 ≤ P (i * 3) ∧ P (i * 3) ≤ 32768) ∧ (-32768 ≤ P (i * 3 + 1) ∧ P (i * 3 + 1) ≤ 32768) ∧ (-32768 ≤ P (i * 3 + 2) ∧ P (i * 3 + 2) ≤ 32768) from fun i hi W hb =>
    ⟨⟨(hb.cell (p := ⟨g, i * 3, none⟩) lg).trans (hr _ (by omega)), (hb.cell (p := ⟨g, i * 3 + 1, none⟩) lg).trans (hr _ (by omega)), (hb.cell (p := ⟨g, i * 3 + 2, none⟩) lg).trans (hr _ (by omega))⟩, hP _ (by omega), hP _ (by omega), hP _ (by omega)⟩)
  have HC := Lib.hid (show ∀ W, Below w.heap.size w W → (∀ o, W.cell? ⟨M, o, none⟩ = (#[.slice (some ⟨g, 0, none⟩) np c, .slice (some ⟨h, 0, none⟩) nf d] : Array Value)[o]?) ∧ M < W.heap.size ∧ (∀ o, W.cell? ⟨I, o, none⟩ = (#[.int .i64 2] : Array Value)[o]?) ∧ I < W.heap.size ∧ g < W.heap.size from fun W hb => ⟨keep_cell hb lM hM, keep_lt hb lM, keep_cell hb lI hI, keep_lt hb lI, keep_lt hb lg⟩)
  clear hF hP hr e0 e1 e2 hM hI
  go_enter Try.func28, Try.ntmps28
  go_upto_region 2 with (fail)
  refine wp_world (fun x => (∀ o, x.cell? ⟨w.heap.size, o, none⟩ = (#[.int .i64 (i0 : Int), .int .i64 (i1 : Int), .int .i64 (i2 : Int)] : Array Value)[o]?) ∧ (∀ o, x.frozen? ⟨w.heap.size, o, none⟩ = false) ∧ w.heap.size < x.heap.size ∧ Below w.heap.size w x) ⟨fun o => by simp [go_sem], fun o => by simp [go_sem], by (first | omega | (simp [go_sem]; done) | (simp [go_sem]; omega)), by (repeat' (first | (with_reducible exact Below.refl _ _) | (with_reducible assumption) | (with_reducible refine below_alloc ?_ _) | (with_reducible refine Below.drew ?_) | (with_reducible refine Below.setCell ?_ ?_ _) | (with_reducible refine below_after ?_ (by assumption)) | go_size))⟩ ?_
  rintro G ⟨hGc0, hGf0, hGz0, hGb⟩
  have HG := Lib.hid hGb
  go_wp2
  go_loopg [6, 11] 3 (fun gg v6 v wr => ∃ i : Nat, i ≤ 3 ∧ 3 - i ≤ gg ∧ v = .int .i64 (i : Int) ∧ v6 = .int .i64 (if i = 0 then 0 else if i = 1 then P (i0 * 3 + 2) else if i = 2 then P (i0 * 3 + 2) + P (i1 * 3 + 2) else P (i0 * 3 + 2) + P (i1 * 3 + 2) + P (i2 * 3 + 2)) ∧ Hid (Below G.heap.size G wr))
  case atStart => exact ⟨0, by omega, by omega, rfl, rfl, Lib.hid (Below.refl _ _)⟩
  case round =>
    obtain ⟨i, hi, hgi, rfl, rfl, HB⟩ := hrel
    have hbw := below_after HG.out HB.out
    obtain ⟨mc, mz, ic, iz, gz⟩ := HC.out _ hbw
    have r0 := R.out i0 b0.2 _ hbw
    have r1 := R.out i1 b1.2 _ hbw
    have r2 := R.out i2 b2.2 _ hbw
    obtain ⟨⟨f00, f01, f02⟩, g00, g01, g02⟩ := r0
    obtain ⟨⟨f10, f11, f12⟩, g10, g11, g12⟩ := r1
    obtain ⟨⟨f20, f21, f22⟩, g20, g21, g22⟩ := r2
    have gc := keep_cell HB.out hGz0 hGc0
    have gcz := keep_lt HB.out hGz0
    (try simp only [Nat.add_zero] at hs)
    clear hGc0 hGf0 hGz0 hGb lM lI lg
    have hbG := HB.out
    have x0 := index3_0
    have x1 := index3_1
    have x2 := index3_2
    have b00 := b0.2
    have b10 := b1.2
    have b20 := b2.2
    rcases (by omega : i = 0 ∨ i = 1 ∨ i = 2 ∨ i = 3) with rfl | rfl | rfl | rfl
    · go_wp2
      go_roundg 2
      case rel => exact ⟨1, by omega, by omega, rfl, by simp, Lib.hid (by (repeat' (first | (with_reducible exact Below.refl _ _) | (with_reducible assumption) | (with_reducible refine below_alloc ?_ _) | (with_reducible refine Below.drew ?_) | (with_reducible refine Below.setCell ?_ ?_ _) | (with_reducible refine below_after ?_ (by assumption)) | go_size)))⟩
      case measure => omega
    · go_wp2
      go_roundg 1
      case rel => exact ⟨2, by omega, by omega, rfl, by simp, Lib.hid (by (repeat' (first | (with_reducible exact Below.refl _ _) | (with_reducible assumption) | (with_reducible refine below_alloc ?_ _) | (with_reducible refine Below.drew ?_) | (with_reducible refine Below.setCell ?_ ?_ _) | (with_reducible refine below_after ?_ (by assumption)) | go_size)))⟩
      case measure => omega
    · go_wp2
      go_roundg 0
      case rel => exact ⟨3, by omega, by omega, rfl, by simp, Lib.hid (by (repeat' (first | (with_reducible exact Below.refl _ _) | (with_reducible assumption) | (with_reducible refine below_alloc ?_ _) | (with_reducible refine Below.drew ?_) | (with_reducible refine Below.setCell ?_ ?_ _) | (with_reducible refine below_after ?_ (by assumption)) | go_size)))⟩
      case measure => omega
    · go_wp2_with (first | (go_at_call 29; (with_reducible refine (K.out _ (by (repeat' (first | (with_reducible exact Below.refl _ _) | (with_reducible assumption) | (with_reducible refine below_alloc ?_ _) | (with_reducible refine Below.drew ?_) | (with_reducible refine Below.setCell ?_ ?_ _) | (with_reducible refine below_after ?_ (by assumption)) | go_size)))).mono ?_); rintro e w1 ⟨rfl, hb1⟩))
      rw [hs.out]
      go_returns
      exact ⟨by simp, by (repeat' (first | (with_reducible exact Below.refl _ _) | (with_reducible assumption) | (with_reducible refine below_alloc ?_ _) | (with_reducible refine Below.drew ?_) | (with_reducible refine Below.setCell ?_ ?_ _) | (with_reducible refine below_after ?_ (by assumption)) | go_size))⟩
end Go.Proofs.Ytkpochkfijplaaa
