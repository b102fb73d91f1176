/-
  What mesh.beyond, the library's search through a surface's points, and mesh.determinant return.
  mesh.sum: the sum, over all faces, of the products of a function's two numbers.
  mesh.determinant.
  mesh.volume: the sum of a surface's determinants.
  mesh.Check of a closed surface that encloses something.
  mesh.Volume6 and mesh.Moment24 of a closed surface that encloses something.
  The surface of a form that passes, as numbers in memory: closed, with a volume; its moment about the middle is 0; a box's volume.
  mesh.Moment24 of a closed surface that encloses something. (Written by wip/gen_mom.py.)
  That the lists of hull.Mesh hold numbers, and are not empty.
  What hull.Mesh leaves in memory, as numbers: a closed surface.
  (Written by wip/pack.py out of XMeshE, XMeshV, XMeshDet, XMeshW, XMeshX, XMeshY, XSurfH, XMeshZ, XMeshL, XMeshN.)
-/
import Derived.Test.YtfmmnnodihpgmaaDoorMeshS
import Derived.BigRegion
import Derived.Test.YtfmmnnodihpgmaaDoorRatA
import Derived.Test.YtfmmnnodihpgmaaDoorPackA
namespace Go.Proofs.YtfmmnnodihpgmaaDoor
set_option linter.all false
open Go Go.RowKit Wd
set_option maxRecDepth 100000
set_option maxHeartbeats 2000000 in
theorem beyond_in (x y z : Int) (hx : -1048576 ≤ x) (hx' : x ≤ 1048576) (hy : -1048576 ≤ y) (hy' : y ≤ 1048576) (hz : -1048576 ≤ z) (hz' : z ≤ 1048576) (w : World) :
    Calls Tryd.prog 60 #[.agg #[.int .i64 x, .int .i64 y, .int .i64 z]] w fun e w' => e = .returned (.bool false) ∧ Below w.heap.size w w' := by
  go_enter Tryd.func60, Tryd.ntmps60
  go_wp2
  all_goals go_returns
  all_goals exact ⟨ret_bool (by first | rfl | (simp; done) | (simp; omega)), by (repeat' (first | (with_reducible exact Below.refl _ _) | (with_reducible assumption) | (with_reducible refine below_alloc ?_ _) | (with_reducible refine Below.drew ?_) | (with_reducible refine Below.setCell ?_ ?_ _) | (with_reducible refine below_after ?_ (by assumption)) | go_size))⟩
set_option maxHeartbeats 2000000 in
theorem index_in (g np c : Nat) (P : Nat → Int) (hn : np ≤ 1000000) (hP : ∀ j, j < np * 3 → -1048576 ≤ P j ∧ P j ≤ 1048576) (w : World) (h : RowI w g (np * 3) P) (lg : g < w.heap.size) :
    Calls Tryd.prog 86 #[.slice (some ⟨g, 0, none⟩) np c, .func (.func 60) #[] #[]] w fun e w' => e = .returned (.int .i64 (-1)) ∧ Below w.heap.size w w' := by
  have eg : ∀ args w, (callFunc 60 args).run Tryd.prog w = .ok (.enter 60 args) w := enters_of Tryd.func60 (by kernel_rfl) rfl
  have HP := Lib.hid hP
  have HR := Lib.hid h
  clear hP h
  go_enter Tryd.func86, Tryd.ntmps86
  go_wp2
  go_loopg [5, 8] np (fun gg _ v wr => ∃ j : Nat, j ≤ np ∧ np - j ≤ gg ∧ v = .int .i64 (j : Int) ∧ Hid (Below w.heap.size w wr))
  case atStart => exact ⟨0, by omega, by omega, rfl, Lib.hid (Below.refl _ _)⟩
  case round =>
    obtain ⟨j, hj, hgj, rfl, HB⟩ := hrel
    by_cases hlt : j < np
    · have hjn : (j : Int) < (np : Int) := by omega
      have hlr := keep_lt HB.out lg
      have f0 := (HB.out.cell (p := ⟨g, j * 3, none⟩) lg).trans (HR.out (j * 3) (by omega))
      have f1 := (HB.out.cell (p := ⟨g, j * 3 + 1, none⟩) lg).trans (HR.out (j * 3 + 1) (by omega))
      have f2 := (HB.out.cell (p := ⟨g, j * 3 + 2, none⟩) lg).trans (HR.out (j * 3 + 2) (by omega))
      have b0 := HP.out (j * 3) (by omega)
      have b1 := HP.out (j * 3 + 1) (by omega)
      have b2 := HP.out (j * 3 + 2) (by omega)
      generalize P (j * 3) = x at *
      generalize P (j * 3 + 1) = y at *
      generalize P (j * 3 + 2) = z at *
      have K := Lib.hid (fun w => beyond_in x y z b0.1 b0.2 b1.1 b1.2 b2.1 b2.2 w)
      have hbr := HB.out
      go_wp2_with (go_at_fn 60; refine (K.out _).mono ?_; rintro e w' ⟨rfl, hb1⟩)
      go_roundg (np - (j + 1))
      case rel => exact ⟨j + 1, by omega, by omega, by go_num, Lib.hid (by (repeat' (first | (with_reducible exact Below.refl _ _) | (with_reducible assumption) | (with_reducible refine below_alloc ?_ _) | (with_reducible refine Below.drew ?_) | (with_reducible refine Below.setCell ?_ ?_ _) | (with_reducible refine below_after ?_ (by assumption)) | go_size)))⟩
      case measure => omega
    · obtain rfl : j = np := by omega
      have hjn : ¬ (j : Int) < (j : Int) := by omega
      have hbr := HB.out
      go_wp2
      go_returns
      exact ⟨rfl, hbr⟩
set_option maxHeartbeats 2000000 in
theorem contains_in (g np c : Nat) (P : Nat → Int) (hn : np ≤ 1000000) (hP : ∀ j, j < np * 3 → -1048576 ≤ P j ∧ P j ≤ 1048576) (w : World) (h : RowI w g (np * 3) P) (lg : g < w.heap.size) :
    Calls Tryd.prog 59 #[.slice (some ⟨g, 0, none⟩) np c, .func (.func 60) #[] #[]] w fun e w' => e = .returned (.bool false) ∧ Below w.heap.size w w' := by
  have K := Lib.hid (index_in g np c P hn hP w h lg)
  clear hP h
  go_enter Tryd.func59, Tryd.ntmps59
  go_wp2_with fail
  ((with_reducible refine K.out.mono ?_); rintro e w1 ⟨rfl, hb1⟩)
  go_wp2
  go_returns
  exact ⟨rfl, by (repeat' (first | (with_reducible exact Below.refl _ _) | (with_reducible assumption) | (with_reducible refine below_alloc ?_ _) | (with_reducible refine Below.drew ?_) | (with_reducible refine Below.setCell ?_ ?_ _) | (with_reducible refine below_after ?_ (by assumption)) | go_size))⟩
/-- The determinant of three points. -/
@[irreducible] def det3 (a b c p q r x y z : Int) : Int := a * (q * z - r * y) + b * (r * x - p * z) + c * (p * y - q * x)
end Go.Proofs.YtfmmnnodihpgmaaDoor
namespace Go.Proofs.YtfmmnnodihpgmaaDoor
set_option linter.all false
open Go Go.RowKit Wd
set_option maxRecDepth 100000
/-- The sum of the first products. -/
@[irreducible] def ps (A B : Nat → Int) (n : Nat) : Int := Sf.sr (fun j => A j * B j) n
theorem ps_zero (A B : Nat → Int) : ps A B 0 = 0 := by unfold ps; rfl
theorem ps_succ (A B : Nat → Int) (n : Nat) : ps A B (n + 1) = ps A B n + A n * B n := by unfold ps; rfl
theorem abs_mul_le {a b m k : Int} (ha : -m ≤ a ∧ a ≤ m) (hb : -k ≤ b ∧ b ≤ k) (_hm : 0 ≤ m) (_hk : 0 ≤ k) : -(m * k) ≤ a * b ∧ a * b ≤ m * k := by
  have h : (a * b).natAbs ≤ m.natAbs * k.natAbs := by
    rw [Int.natAbs_mul]
    exact Nat.mul_le_mul (by omega) (by omega)
  have h2 : ((m * k).natAbs : Int) = m * k := Int.natAbs_of_nonneg (Int.mul_nonneg _hm _hk)
  rw [Int.natAbs_mul] at h2
  omega
theorem ps_abs (A B : Nat → Int) (N : Nat) (hA : ∀ j, j < N → -4503599627370496 ≤ A j ∧ A j ≤ 4503599627370496) (hB : ∀ j, j < N → -1048576 ≤ B j ∧ B j ≤ 1048576) : ∀ n, n ≤ N → -(4722366482869645213696 * (n : Int)) ≤ ps A B n ∧ ps A B n ≤ 4722366482869645213696 * (n : Int)
  | 0, _ => by rw [ps_zero]; omega
  | n + 1, hn => by
    have h1 := ps_abs A B N hA hB n (by omega)
    have h2 := abs_mul_le (hA n (by omega)) (hB n (by omega)) (by omega) (by omega)
    rw [ps_succ]
    omega
theorem mul_small (x y : Int) (hx : -4503599627370496 ≤ x ∧ x ≤ 4503599627370496) (hy : -1048576 ≤ y ∧ y ≤ 1048576) (w : World) :
    Calls Tryd.prog 76 #[(.agg #[.bool (zs (x)), .int .u64 (wd (Int.natAbs (x)) 0), .int .u64 (wd (Int.natAbs (x)) 1), .int .u64 (wd (Int.natAbs (x)) 2), .int .u64 (wd (Int.natAbs (x)) 3)]), (.agg #[.bool (zs (y)), .int .u64 (wd (Int.natAbs (y)) 0), .int .u64 (wd (Int.natAbs (y)) 1), .int .u64 (wd (Int.natAbs (y)) 2), .int .u64 (wd (Int.natAbs (y)) 3)])] w fun e w' => e = .returned (.tuple #[(.agg #[.bool (zs (x * y)), .int .u64 (wd (Int.natAbs (x * y)) 0), .int .u64 (wd (Int.natAbs (x * y)) 1), .int .u64 (wd (Int.natAbs (x * y)) 2), .int .u64 (wd (Int.natAbs (x * y)) 3)]), .int .i64 0]) ∧ Below w.heap.size w w' := by
  have h2 := abs_mul_le hx hy (by omega) (by omega)
  have hn : (x * y).natAbs < 2 ^ 256 := by omega
  have h := mul_any (zs x) (zs y) x.natAbs y.natAbs (by omega) (by omega) w
  rw [val_zs, val_zs, fitZ_in hn, fitE_in hn] at h
  exact h
theorem add_small (x y : Int) (hx : x.natAbs < 2 ^ 200) (hy : y.natAbs < 2 ^ 200) (w : World) :
    Calls Tryd.prog 85 #[(.agg #[.bool (zs (x)), .int .u64 (wd (Int.natAbs (x)) 0), .int .u64 (wd (Int.natAbs (x)) 1), .int .u64 (wd (Int.natAbs (x)) 2), .int .u64 (wd (Int.natAbs (x)) 3)]), (.agg #[.bool (zs (y)), .int .u64 (wd (Int.natAbs (y)) 0), .int .u64 (wd (Int.natAbs (y)) 1), .int .u64 (wd (Int.natAbs (y)) 2), .int .u64 (wd (Int.natAbs (y)) 3)])] w fun e w' => e = .returned (.tuple #[(.agg #[.bool (zs (x + y)), .int .u64 (wd (Int.natAbs (x + y)) 0), .int .u64 (wd (Int.natAbs (x + y)) 1), .int .u64 (wd (Int.natAbs (x + y)) 2), .int .u64 (wd (Int.natAbs (x + y)) 3)]), .int .i64 0]) ∧ Below w.heap.size w w' := by
  have hn : (x + y).natAbs < 2 ^ 256 := by omega
  have h := add_any (zs x) (zs y) x.natAbs y.natAbs (by omega) (by omega) w
  rw [val_zs, val_zs, fitZ_in hn, fitE_in hn] at h
  exact h
set_option maxHeartbeats 4000000 in
theorem sum_any (fc : FuncId) (env : Array Value) (hen : ∀ args w, (callFunc fc args).run Tryd.prog w = .ok (.enter fc args) w) (g h np n c d : Nat) (F A B : Nat → Int) (hn : n ≤ 100000) (hA : ∀ j, j < n → -4503599627370496 ≤ A j ∧ A j ≤ 4503599627370496) (hB : ∀ j, j < n → -1048576 ≤ B j ∧ B j ≤ 1048576)
    (w : World) (hF : RowI w h (n * 3) F) (lh : h < w.heap.size)
    (K : ∀ j, j < n → ∀ W, Below w.heap.size w W → Calls Tryd.prog fc (#[.agg #[.int .i64 (F (j * 3)), .int .i64 (F (j * 3 + 1)), .int .i64 (F (j * 3 + 2))]] ++ env) W fun e W' => e = .returned (.tuple #[.int .i64 (A j), .int .i64 (B j)]) ∧ Below W.heap.size W W') :
    Calls Tryd.prog 56 #[.agg #[.slice (some ⟨g, 0, none⟩) np c, .slice (some ⟨h, 0, none⟩) n d], .func (.func fc) #[] env] w fun e w' => e = .returned (.agg #[.bool (zs (ps A B n)), .int .u64 (wd (Int.natAbs (ps A B n)) 0), .int .u64 (wd (Int.natAbs (ps A B n)) 1), .int .u64 (wd (Int.natAbs (ps A B n)) 2), .int .u64 (wd (Int.natAbs (ps A B n)) 3)]) ∧ Below w.heap.size w w' := by
  have HP := Lib.hid (ps_abs A B n hA hB)
  have HK := Lib.hid K
  have HF := Lib.hid hF
  have HA := Lib.hid hA
  have HB := Lib.hid hB
  clear K hF hA hB
  go_enter Tryd.func56, Tryd.ntmps56
  go_upto_region 2 with (fail)
  refine wp_world (fun x => (∀ o, x.cell? ⟨w.heap.size, o, none⟩ = (#[.slice (some ⟨g, 0, none⟩) np c, .slice (some ⟨h, 0, none⟩) n d] : Array Value)[o]?) ∧ (∀ o, x.cell? ⟨w.heap.size + 1, o, none⟩ = (#[.bool false, .int .u64 0, .int .u64 0, .int .u64 0, .int .u64 0] : Array Value)[o]?) ∧ (∀ o, x.cell? ⟨w.heap.size + 1 + 1, o, none⟩ = (#[.bool false, .int .u64 0, .int .u64 0, .int .u64 0, .int .u64 0] : Array Value)[o]?) ∧ (∀ o, x.frozen? ⟨w.heap.size, o, none⟩ = false) ∧ (∀ o, x.frozen? ⟨w.heap.size + 1, o, none⟩ = false) ∧ (∀ o, x.frozen? ⟨w.heap.size + 1 + 1, o, none⟩ = false) ∧ w.heap.size < x.heap.size ∧ w.heap.size + 1 < x.heap.size ∧ w.heap.size + 1 + 1 < x.heap.size ∧ Below w.heap.size w x) ⟨fun o => by simp [go_sem], fun o => by simp [go_sem], fun o => by simp [go_sem], fun o => by simp [go_sem], fun o => by simp [go_sem], fun o => by simp [go_sem], by (first | omega | (simp [go_sem]; done) | (simp [go_sem]; omega)), by (first | omega | (simp [go_sem]; done) | (simp [go_sem]; omega)), by (first | omega | (simp [go_sem]; done) | (simp [go_sem]; omega)), by (repeat' (first | (with_reducible exact Below.refl _ _) | (with_reducible assumption) | (with_reducible refine below_alloc ?_ _) | (with_reducible refine Below.drew ?_) | (with_reducible refine Below.setCell ?_ ?_ _) | (with_reducible refine below_after ?_ (by assumption)) | go_size))⟩ ?_
  rintro G ⟨hGc0, hGc1, hGc2, hGf0, hGf1, hGf2, hGz0, hGz1, hGz2, hGb⟩
  generalize hR : w.heap.size + 1 = R at *
  generalize hT : R + 1 = T at *
  have hRw : w.heap.size ≤ R := by omega
  have hTw : w.heap.size ≤ T := by omega
  have hRT : R ≠ T := by omega
  clear hR hT
  have lhG := keep_lt hGb lh
  go_wp2
  go_loopg [15] n (fun gg v wr => ∃ j : Nat, j ≤ n ∧ n - j ≤ gg ∧ v = .int .i64 (j : Int) ∧ Hid ((∀ o, wr.cell? ⟨R, o, none⟩ = (#[.bool false, .int .u64 0, .int .u64 0, .int .u64 0, .int .u64 0] : Array Value)[o]?) ∧ (∀ o, wr.frozen? ⟨R, o, none⟩ = false) ∧ R < wr.heap.size ∧ (∀ o, wr.cell? ⟨T, o, none⟩ = (#[.bool (zs (ps A B j)), .int .u64 (wd (Int.natAbs (ps A B j)) 0), .int .u64 (wd (Int.natAbs (ps A B j)) 1), .int .u64 (wd (Int.natAbs (ps A B j)) 2), .int .u64 (wd (Int.natAbs (ps A B j)) 3)] : Array Value)[o]?) ∧ (∀ o, wr.frozen? ⟨T, o, none⟩ = false) ∧ T < wr.heap.size ∧ Below w.heap.size w wr))
  case atStart => exact ⟨0, by omega, by omega, rfl, Lib.hid ⟨hGc1, hGf1, hGz1, by rw [ps_zero, zs_zero]; simp only [Int.natAbs_zero, wd_zero]; exact hGc2, hGf2, hGz2, hGb⟩⟩
  case round =>
    obtain ⟨j, hj, hgj, rfl, HI⟩ := hrel
    clear hGc0 hGc1 hGc2 hGf0 hGf1 hGf2 hGz0 hGz1 hGz2
    by_cases hlt : j < n
    · have hjn : (j : Int) < (n : Int) := by omega
      obtain ⟨hRc, hRf, hRz, hTc, hTf, hTz, hb⟩ := HI.out
      have hlr := keep_lt hb lh
      have f0 := (hb.cell (p := ⟨h, j * 3, none⟩) lh).trans (HF.out (j * 3) (by omega))
      have f1 := (hb.cell (p := ⟨h, j * 3 + 1, none⟩) lh).trans (HF.out (j * 3 + 1) (by omega))
      have f2 := (hb.cell (p := ⟨h, j * 3 + 2, none⟩) lh).trans (HF.out (j * 3 + 2) (by omega))
      have KJ := Lib.hid (HK.out j hlt)
      have hp0 := HP.out j (by omega)
      have hps := Lib.hid (ps_succ A B j)
      have hAj := HA.out j hlt
      have hBj := HB.out j hlt
      generalize F (j * 3) = a0 at *
      generalize F (j * 3 + 1) = a1 at *
      generalize F (j * 3 + 2) = a2 at *
      obtain ⟨aj, haj⟩ : ∃ x, x = A j := ⟨_, rfl⟩
      obtain ⟨bj, hbj⟩ : ∃ x, x = B j := ⟨_, rfl⟩
      obtain ⟨tj, htj⟩ : ∃ x, x = ps A B j := ⟨_, rfl⟩
      rw [← haj, ← hbj] at KJ hps
      rw [← haj] at hAj
      rw [← hbj] at hBj
      rw [← htj] at hTc hps hp0
      have hpr := abs_mul_le hAj hBj (by omega) (by omega)
      have M1 := Lib.hid (of_any aj (by omega) (by omega))
      have M2 := Lib.hid (of_any bj (by omega) (by omega))
      have M3 := Lib.hid (mul_small aj bj hAj hBj)
      have M4 := Lib.hid (add_small tj (aj * bj) (by omega) (by omega))
      clear haj hbj htj HI hp0 hpr hAj hBj HP HA HB HK
      go_upto_region 5 with (fail)
      refine wp_world (fun x => (∀ o, x.cell? ⟨R, o, none⟩ = (#[.bool false, .int .u64 0, .int .u64 0, .int .u64 0, .int .u64 0] : Array Value)[o]?) ∧ (∀ o, x.cell? ⟨T, o, none⟩ = (#[.bool (zs (tj)), .int .u64 (wd (Int.natAbs (tj)) 0), .int .u64 (wd (Int.natAbs (tj)) 1), .int .u64 (wd (Int.natAbs (tj)) 2), .int .u64 (wd (Int.natAbs (tj)) 3)] : Array Value)[o]?) ∧ (∀ o, x.cell? ⟨wr.heap.size, o, none⟩ = (#[.int .i64 a0, .int .i64 a1, .int .i64 a2] : Array Value)[o]?) ∧ (∀ o, x.frozen? ⟨R, o, none⟩ = false) ∧ (∀ o, x.frozen? ⟨T, o, none⟩ = false) ∧ (∀ o, x.frozen? ⟨wr.heap.size, o, none⟩ = false) ∧ R < x.heap.size ∧ T < x.heap.size ∧ wr.heap.size < x.heap.size ∧ Below w.heap.size w x) ⟨fun o => by simp [go_sem, hRc, hTc, hRf, hTf, hRz, hTz], fun o => by simp [go_sem, hRc, hTc, hRf, hTf, hRz, hTz], fun o => by simp [go_sem, hRc, hTc, hRf, hTf, hRz, hTz], fun o => by simp [go_sem, hRc, hTc, hRf, hTf, hRz, hTz], fun o => by simp [go_sem, hRc, hTc, hRf, hTf, hRz, hTz], fun o => by simp [go_sem, hRc, hTc, hRf, hTf, hRz, hTz], by (first | omega | (simp [go_sem, hRc, hTc, hRf, hTf, hRz, hTz]; done) | (simp [go_sem, hRc, hTc, hRf, hTf, hRz, hTz]; omega)), by (first | omega | (simp [go_sem, hRc, hTc, hRf, hTf, hRz, hTz]; done) | (simp [go_sem, hRc, hTc, hRf, hTf, hRz, hTz]; omega)), by (first | omega | (simp [go_sem, hRc, hTc, hRf, hTf, hRz, hTz]; done) | (simp [go_sem, hRc, hTc, hRf, hTf, hRz, hTz]; omega)), by (repeat' (first | (with_reducible exact Below.refl _ _) | (with_reducible assumption) | (with_reducible refine below_alloc ?_ _) | (with_reducible refine Below.drew ?_) | (with_reducible refine Below.setCell ?_ ?_ _) | (with_reducible refine below_after ?_ (by assumption)) | go_size))⟩ ?_
      rintro E ⟨hEc0, hEc1, hEc2, hEf0, hEf1, hEf2, hEz0, hEz1, hEz2, hEb⟩
      go_wp2_with (first | (go_at_fn fc; (with_reducible refine (KJ.out _ (by (repeat' (first | (with_reducible exact Below.refl _ _) | (with_reducible assumption) | (with_reducible refine below_alloc ?_ _) | (with_reducible refine Below.drew ?_) | (with_reducible refine Below.setCell ?_ ?_ _) | (with_reducible refine below_after ?_ (by assumption)) | go_size)))).mono ?_); rintro e w1 ⟨rfl, hb1⟩))
      ((with_reducible refine (M1.out _).mono ?_); rintro e w2 ⟨rfl, hb2⟩)
      have hk2 : Kp E.heap.size [] E w2 := (by (repeat (first | (with_reducible assumption) | (with_reducible exact Kp.refl (Nat.le_refl _)) | (with_reducible refine Kp.drew ?_) | (with_reducible refine Kp.alloc ?_ _) | ((with_reducible refine Kp.put ?_ ?_ _); focus (first | (left; go_size; done) | (right; simp; done))) | ((with_reducible apply Kp.later); (with_reducible assumption)))))
      have h2c0 := fun o => (hk2.cell _ o hEz0 (by simp)).trans (hEc0 o)
      have h2f0 := fun o => (hk2.froz _ o hEz0).trans (hEf0 o)
      have h2z0 := Nat.lt_of_lt_of_le hEz0 hk2.size
      have h2c1 := fun o => (hk2.cell _ o hEz1 (by simp)).trans (hEc1 o)
      have h2f1 := fun o => (hk2.froz _ o hEz1).trans (hEf1 o)
      have h2z1 := Nat.lt_of_lt_of_le hEz1 hk2.size
      have h2c2 := fun o => (hk2.cell _ o hEz2 (by simp)).trans (hEc2 o)
      have h2f2 := fun o => (hk2.froz _ o hEz2).trans (hEf2 o)
      have h2z2 := Nat.lt_of_lt_of_le hEz2 hk2.size
      go_wp2_with fail
      ((with_reducible refine (M2.out _).mono ?_); rintro e w3 ⟨rfl, hb3⟩)
      have hk3 : Kp E.heap.size [] E w3 := (by (repeat (first | (with_reducible assumption) | (with_reducible exact Kp.refl (Nat.le_refl _)) | (with_reducible refine Kp.drew ?_) | (with_reducible refine Kp.alloc ?_ _) | ((with_reducible refine Kp.put ?_ ?_ _); focus (first | (left; go_size; done) | (right; simp; done))) | ((with_reducible apply Kp.later); (with_reducible assumption)))))
      have h3c0 := fun o => (hk3.cell _ o hEz0 (by simp)).trans (hEc0 o)
      have h3f0 := fun o => (hk3.froz _ o hEz0).trans (hEf0 o)
      have h3z0 := Nat.lt_of_lt_of_le hEz0 hk3.size
      have h3c1 := fun o => (hk3.cell _ o hEz1 (by simp)).trans (hEc1 o)
      have h3f1 := fun o => (hk3.froz _ o hEz1).trans (hEf1 o)
      have h3z1 := Nat.lt_of_lt_of_le hEz1 hk3.size
      have h3c2 := fun o => (hk3.cell _ o hEz2 (by simp)).trans (hEc2 o)
      have h3f2 := fun o => (hk3.froz _ o hEz2).trans (hEf2 o)
      have h3z2 := Nat.lt_of_lt_of_le hEz2 hk3.size
      go_wp2_with fail
      ((with_reducible refine (M3.out _).mono ?_); rintro e w4 ⟨rfl, hb4⟩)
      have hk4 : Kp E.heap.size [] E w4 := (by (repeat (first | (with_reducible assumption) | (with_reducible exact Kp.refl (Nat.le_refl _)) | (with_reducible refine Kp.drew ?_) | (with_reducible refine Kp.alloc ?_ _) | ((with_reducible refine Kp.put ?_ ?_ _); focus (first | (left; go_size; done) | (right; simp; done))) | ((with_reducible apply Kp.later); (with_reducible assumption)))))
      have h4c0 := fun o => (hk4.cell _ o hEz0 (by simp)).trans (hEc0 o)
      have h4f0 := fun o => (hk4.froz _ o hEz0).trans (hEf0 o)
      have h4z0 := Nat.lt_of_lt_of_le hEz0 hk4.size
      have h4c1 := fun o => (hk4.cell _ o hEz1 (by simp)).trans (hEc1 o)
      have h4f1 := fun o => (hk4.froz _ o hEz1).trans (hEf1 o)
      have h4z1 := Nat.lt_of_lt_of_le hEz1 hk4.size
      have h4c2 := fun o => (hk4.cell _ o hEz2 (by simp)).trans (hEc2 o)
      have h4f2 := fun o => (hk4.froz _ o hEz2).trans (hEf2 o)
      have h4z2 := Nat.lt_of_lt_of_le hEz2 hk4.size
      go_upto_region 7 with (fail)
      refine wp_world (fun x => (∀ o, x.cell? ⟨R, o, none⟩ = (#[.bool false, .int .u64 0, .int .u64 0, .int .u64 0, .int .u64 0] : Array Value)[o]?) ∧ (∀ o, x.cell? ⟨T, o, none⟩ = (#[.bool (zs (tj)), .int .u64 (wd (Int.natAbs (tj)) 0), .int .u64 (wd (Int.natAbs (tj)) 1), .int .u64 (wd (Int.natAbs (tj)) 2), .int .u64 (wd (Int.natAbs (tj)) 3)] : Array Value)[o]?) ∧ (∀ o, x.cell? ⟨w4.heap.size, o, none⟩ = (#[.bool (zs (aj * bj)), .int .u64 (wd (Int.natAbs (aj * bj)) 0), .int .u64 (wd (Int.natAbs (aj * bj)) 1), .int .u64 (wd (Int.natAbs (aj * bj)) 2), .int .u64 (wd (Int.natAbs (aj * bj)) 3)] : Array Value)[o]?) ∧ (∀ o, x.frozen? ⟨R, o, none⟩ = false) ∧ (∀ o, x.frozen? ⟨T, o, none⟩ = false) ∧ (∀ o, x.frozen? ⟨w4.heap.size, o, none⟩ = false) ∧ R < x.heap.size ∧ T < x.heap.size ∧ w4.heap.size < x.heap.size ∧ Below w.heap.size w x) ⟨fun o => by simp [go_sem, h4c0, h4f0, h4z0, h4c1, h4f1, h4z1, h4c2, h4f2, h4z2], fun o => by simp [go_sem, h4c0, h4f0, h4z0, h4c1, h4f1, h4z1, h4c2, h4f2, h4z2], fun o => by simp [go_sem, h4c0, h4f0, h4z0, h4c1, h4f1, h4z1, h4c2, h4f2, h4z2], fun o => by simp [go_sem, h4c0, h4f0, h4z0, h4c1, h4f1, h4z1, h4c2, h4f2, h4z2], fun o => by simp [go_sem, h4c0, h4f0, h4z0, h4c1, h4f1, h4z1, h4c2, h4f2, h4z2], fun o => by simp [go_sem, h4c0, h4f0, h4z0, h4c1, h4f1, h4z1, h4c2, h4f2, h4z2], by (first | omega | (simp [go_sem, h4c0, h4f0, h4z0, h4c1, h4f1, h4z1, h4c2, h4f2, h4z2]; done) | (simp [go_sem, h4c0, h4f0, h4z0, h4c1, h4f1, h4z1, h4c2, h4f2, h4z2]; omega)), by (first | omega | (simp [go_sem, h4c0, h4f0, h4z0, h4c1, h4f1, h4z1, h4c2, h4f2, h4z2]; done) | (simp [go_sem, h4c0, h4f0, h4z0, h4c1, h4f1, h4z1, h4c2, h4f2, h4z2]; omega)), by (first | omega | (simp [go_sem, h4c0, h4f0, h4z0, h4c1, h4f1, h4z1, h4c2, h4f2, h4z2]; done) | (simp [go_sem, h4c0, h4f0, h4z0, h4c1, h4f1, h4z1, h4c2, h4f2, h4z2]; omega)), by (repeat' (first | (with_reducible exact Below.refl _ _) | (with_reducible assumption) | (with_reducible refine below_alloc ?_ _) | (with_reducible refine Below.drew ?_) | (with_reducible refine Below.setCell ?_ ?_ _) | (with_reducible refine below_after ?_ (by assumption)) | go_size))⟩ ?_
      rintro V ⟨hVc0, hVc1, hVc2, hVf0, hVf1, hVf2, hVz0, hVz1, hVz2, hVb⟩
      go_wp2_with fail
      ((with_reducible refine (M4.out _).mono ?_); rintro e w5 ⟨rfl, hb5⟩)
      have hk5 : Kp V.heap.size [] V w5 := (by (repeat (first | (with_reducible assumption) | (with_reducible exact Kp.refl (Nat.le_refl _)) | (with_reducible refine Kp.drew ?_) | (with_reducible refine Kp.alloc ?_ _) | ((with_reducible refine Kp.put ?_ ?_ _); focus (first | (left; go_size; done) | (right; simp; done))) | ((with_reducible apply Kp.later); (with_reducible assumption)))))
      have h5c0 := fun o => (hk5.cell _ o hVz0 (by simp)).trans (hVc0 o)
      have h5f0 := fun o => (hk5.froz _ o hVz0).trans (hVf0 o)
      have h5z0 := Nat.lt_of_lt_of_le hVz0 hk5.size
      have h5c1 := fun o => (hk5.cell _ o hVz1 (by simp)).trans (hVc1 o)
      have h5f1 := fun o => (hk5.froz _ o hVz1).trans (hVf1 o)
      have h5z1 := Nat.lt_of_lt_of_le hVz1 hk5.size
      have h5c2 := fun o => (hk5.cell _ o hVz2 (by simp)).trans (hVc2 o)
      have h5f2 := fun o => (hk5.froz _ o hVz2).trans (hVf2 o)
      have h5z2 := Nat.lt_of_lt_of_le hVz2 hk5.size
      go_wp2
      have hnj := hps.out
      go_roundg (n - (j + 1))
      case rel => exact ⟨j + 1, by omega, by omega, by go_num, Lib.hid ⟨far5 (Ne.symm hRT) h5c0, fun o => by simp only [World.frozen?_setCell]; exact h5f0 o, by simpa using h5z0, by rw [hnj]; exact at5 h5c1, fun o => by simp only [World.frozen?_setCell]; exact h5f1 o, by simpa using h5z1, by (repeat' (first | (with_reducible exact Below.refl _ _) | (with_reducible assumption) | (with_reducible refine below_alloc ?_ _) | (with_reducible refine Below.drew ?_) | (with_reducible refine Below.setCell ?_ ?_ _) | (with_reducible refine below_after ?_ (by assumption)) | go_size))⟩⟩
      case measure => omega
    · obtain rfl : j = n := by omega
      have hjn : ¬ (j : Int) < (j : Int) := by omega
      obtain ⟨hRc, hRf, hRz, hTc, hTf, hTz, hb⟩ := HI.out
      clear HI HP HA HB HK
      go_wp2_with ((with_reducible show bodyPost _ _ _ _ _ _); refine bodyPost_ret (by simp [results, Tryd.results56, go_sem, hRc, hTc, hRf, hTf, hRz, hTz]; try rfl) rfl ?_; exact ⟨rfl, by (repeat' (first | (with_reducible exact Below.refl _ _) | (with_reducible assumption) | (with_reducible refine below_alloc ?_ _) | (with_reducible refine Below.drew ?_) | (with_reducible refine Below.setCell ?_ ?_ _) | (with_reducible refine below_after ?_ (by assumption)) | go_size))⟩)
end Go.Proofs.YtfmmnnodihpgmaaDoor
namespace Go.Proofs.YtfmmnnodihpgmaaDoor
set_option linter.all false
open Go Go.RowKit Wd
set_option maxRecDepth 100000
set_option maxHeartbeats 8000000 in
theorem det_any (g np c i0 i1 i2 : Nat) (fv : Value) (P : Nat → Int) (h0 : i0 < np) (h1 : i1 < np) (h2 : i2 < np) (hn : np ≤ 100000) (hP : ∀ j, j < np * 3 → -32768 ≤ P j ∧ P j ≤ 32768) (w : World) (h : RowI w g (np * 3) P) (lg : g < w.heap.size) (a1 : Option Addr) (n1 c1 : Nat) :
    Calls Tryd.prog 58 #[.agg #[.slice (some ⟨g, 0, none⟩) np c, .slice a1 n1 c1], .agg #[.int .i64 (i0 : Int), .int .i64 (i1 : Int), .int .i64 (i2 : Int)]] w fun e w' => e = .returned (.int .i64 (det3 (P (i0 * 3)) (P (i0 * 3 + 1)) (P (i0 * 3 + 2)) (P (i1 * 3)) (P (i1 * 3 + 1)) (P (i1 * 3 + 2)) (P (i2 * 3)) (P (i2 * 3 + 1)) (P (i2 * 3 + 2)))) ∧ Below w.heap.size w w' := by
  have B0 := hP (i0 * 3) (by omega)
  have B1 := hP (i0 * 3 + 1) (by omega)
  have B2 := hP (i0 * 3 + 2) (by omega)
  have B3 := hP (i1 * 3) (by omega)
  have B4 := hP (i1 * 3 + 1) (by omega)
  have B5 := hP (i1 * 3 + 2) (by omega)
  have B6 := hP (i2 * 3) (by omega)
  have B7 := hP (i2 * 3 + 1) (by omega)
  have B8 := hP (i2 * 3 + 2) (by omega)
  have f0 := h (i0 * 3) (by omega)
  have f1 := h (i0 * 3 + 1) (by omega)
  have f2 := h (i0 * 3 + 2) (by omega)
  have f3 := h (i1 * 3) (by omega)
  have f4 := h (i1 * 3 + 1) (by omega)
  have f5 := h (i1 * 3 + 2) (by omega)
  have f6 := h (i2 * 3) (by omega)
  have f7 := h (i2 * 3 + 1) (by omega)
  have f8 := h (i2 * 3 + 2) (by omega)
  clear h hP
  generalize P (i0 * 3) = x0 at *
  generalize P (i0 * 3 + 1) = y0 at *
  generalize P (i0 * 3 + 2) = z0 at *
  generalize P (i1 * 3) = x1 at *
  generalize P (i1 * 3 + 1) = y1 at *
  generalize P (i1 * 3 + 2) = z1 at *
  generalize P (i2 * 3) = x2 at *
  generalize P (i2 * 3 + 1) = y2 at *
  generalize P (i2 * 3 + 2) = z2 at *
  have q0 : (i0 : Int) < (np : Int) := by omega
  have q1 : (i1 : Int) < (np : Int) := by omega
  have q2 : (i2 : Int) < (np : Int) := by omega
  have BD := Lib.hid (And.intro B0 (And.intro B1 (And.intro B2 (And.intro B3 (And.intro B4 (And.intro B5 (And.intro B6 (And.intro B7 B8))))))))
  clear B0 B1 B2 B3 B4 B5 B6 B7 B8 h0 h1 h2
  go_enter Tryd.func58, Tryd.ntmps58
  go_upto_region 1 with (fail)
  refine wp_world (fun x => ((∀ o, x.cell? ⟨w.heap.size, o, none⟩ = (#[.slice (some ⟨g, 0, none⟩) np c, .slice a1 n1 c1] : Array Value)[o]?) ∧ (∀ o, x.cell? ⟨w.heap.size + 1, o, none⟩ = (#[.int .i64 (i0 : Int), .int .i64 (i1 : Int), .int .i64 (i2 : Int)] : Array Value)[o]?) ∧ w.heap.size < x.heap.size ∧ w.heap.size + 1 < x.heap.size ∧ g < x.heap.size) ∧ (x.cell? ⟨g, i0 * 3, none⟩ = some (.int .i64 x0) ∧ x.cell? ⟨g, i0 * 3 + 1, none⟩ = some (.int .i64 y0) ∧ x.cell? ⟨g, i0 * 3 + 2, none⟩ = some (.int .i64 z0)) ∧ (x.cell? ⟨g, i1 * 3, none⟩ = some (.int .i64 x1) ∧ x.cell? ⟨g, i1 * 3 + 1, none⟩ = some (.int .i64 y1) ∧ x.cell? ⟨g, i1 * 3 + 2, none⟩ = some (.int .i64 z1)) ∧ (x.cell? ⟨g, i2 * 3, none⟩ = some (.int .i64 x2) ∧ x.cell? ⟨g, i2 * 3 + 1, none⟩ = some (.int .i64 y2) ∧ x.cell? ⟨g, i2 * 3 + 2, none⟩ = some (.int .i64 z2)) ∧ Hid (Below w.heap.size w x))
    ⟨⟨fun o => by simp [go_sem], fun o => by simp [go_sem], by simp; omega, by simp, by simp; omega⟩, ⟨by simp [go_sem, f0, lg], by simp [go_sem, f1, lg], by simp [go_sem, f2, lg]⟩, ⟨by simp [go_sem, f3, lg], by simp [go_sem, f4, lg], by simp [go_sem, f5, lg]⟩, ⟨by simp [go_sem, f6, lg], by simp [go_sem, f7, lg], by simp [go_sem, f8, lg]⟩, Lib.hid (by (repeat' (first | (with_reducible exact Below.refl _ _) | (with_reducible assumption) | (with_reducible refine below_alloc ?_ _) | (with_reducible refine Below.drew ?_) | (with_reducible refine Below.setCell ?_ ?_ _) | (with_reducible refine below_after ?_ (by assumption)) | go_size)))⟩ ?_
  clear f0 f1 f2 f3 f4 f5 f6 f7 f8 lg
  rintro G ⟨⟨c0, d0, s0, s1, s2⟩, ⟨f0, f1, f2⟩, ⟨f3, f4, f5⟩, ⟨f6, f7, f8⟩, HB⟩
  have hS := Lib.hid (show ∀ x : World, Below G.heap.size G x → ((∀ o, x.cell? ⟨w.heap.size, o, none⟩ = (#[.slice (some ⟨g, 0, none⟩) np c, .slice a1 n1 c1] : Array Value)[o]?) ∧ (∀ o, x.cell? ⟨w.heap.size + 1, o, none⟩ = (#[.int .i64 (i0 : Int), .int .i64 (i1 : Int), .int .i64 (i2 : Int)] : Array Value)[o]?) ∧ w.heap.size < x.heap.size ∧ w.heap.size + 1 < x.heap.size ∧ g < x.heap.size) ∧ (x.cell? ⟨g, i0 * 3, none⟩ = some (.int .i64 x0) ∧ x.cell? ⟨g, i0 * 3 + 1, none⟩ = some (.int .i64 y0) ∧ x.cell? ⟨g, i0 * 3 + 2, none⟩ = some (.int .i64 z0)) ∧ (x.cell? ⟨g, i1 * 3, none⟩ = some (.int .i64 x1) ∧ x.cell? ⟨g, i1 * 3 + 1, none⟩ = some (.int .i64 y1) ∧ x.cell? ⟨g, i1 * 3 + 2, none⟩ = some (.int .i64 z1)) ∧ (x.cell? ⟨g, i2 * 3, none⟩ = some (.int .i64 x2) ∧ x.cell? ⟨g, i2 * 3 + 1, none⟩ = some (.int .i64 y2) ∧ x.cell? ⟨g, i2 * 3 + 2, none⟩ = some (.int .i64 z2)) from fun x hb => ⟨⟨keep_cell hb s0 c0, keep_cell hb s1 d0, keep_lt hb s0, keep_lt hb s1, keep_lt hb s2⟩, ⟨keep_one hb s2 f0, keep_one hb s2 f1, keep_one hb s2 f2⟩, ⟨keep_one hb s2 f3, keep_one hb s2 f4, keep_one hb s2 f5⟩, ⟨keep_one hb s2 f6, keep_one hb s2 f7, keep_one hb s2 f8⟩⟩)
  clear c0 d0 f0 f1 f2 f3 f4 f5 f6 f7 f8
  go_cut [5, 6, 7] (fun v5 v6 v7 wx => ∃ b5 b6 b7, v5 = .pointer (some ⟨b5, 0, none⟩) ∧ v6 = .pointer (some ⟨b6, 0, none⟩) ∧ v7 = .pointer (some ⟨b7, 0, none⟩) ∧ (∀ o, wx.cell? ⟨b5, o, none⟩ = (#[.int .i64 x0, .int .i64 y0, .int .i64 z0] : Array Value)[o]?) ∧ (∀ o, wx.cell? ⟨b6, o, none⟩ = (#[.int .i64 x1, .int .i64 y1, .int .i64 z1] : Array Value)[o]?) ∧ (∀ o, wx.cell? ⟨b7, o, none⟩ = (#[.int .i64 x2, .int .i64 y2, .int .i64 z2] : Array Value)[o]?) ∧ b5 < wx.heap.size ∧ b6 < wx.heap.size ∧ b7 < wx.heap.size ∧ Below G.heap.size G wx)
  case first =>
    refine wp_region_held_drew (S := fun x => ((∀ o, x.cell? ⟨w.heap.size, o, none⟩ = (#[.slice (some ⟨g, 0, none⟩) np c, .slice a1 n1 c1] : Array Value)[o]?) ∧ (∀ o, x.cell? ⟨w.heap.size + 1, o, none⟩ = (#[.int .i64 (i0 : Int), .int .i64 (i1 : Int), .int .i64 (i2 : Int)] : Array Value)[o]?) ∧ w.heap.size < x.heap.size ∧ w.heap.size + 1 < x.heap.size ∧ g < x.heap.size) ∧ (x.cell? ⟨g, i0 * 3, none⟩ = some (.int .i64 x0) ∧ x.cell? ⟨g, i0 * 3 + 1, none⟩ = some (.int .i64 y0) ∧ x.cell? ⟨g, i0 * 3 + 2, none⟩ = some (.int .i64 z0)) ∧ (x.cell? ⟨g, i1 * 3, none⟩ = some (.int .i64 x1) ∧ x.cell? ⟨g, i1 * 3 + 1, none⟩ = some (.int .i64 y1) ∧ x.cell? ⟨g, i1 * 3 + 2, none⟩ = some (.int .i64 z1)) ∧ (x.cell? ⟨g, i2 * 3, none⟩ = some (.int .i64 x2) ∧ x.cell? ⟨g, i2 * 3 + 1, none⟩ = some (.int .i64 y2) ∧ x.cell? ⟨g, i2 * 3 + 2, none⟩ = some (.int .i64 z2))) (by kernel_rfl) (by (refine hS.out _ ?_; (repeat (first | (with_reducible assumption) | (with_reducible exact Below.refl _ _) | (with_reducible refine Below.drew ?_) | ((with_reducible refine below_alloc' ?_ ?_ _); (focus (first | omega | (simp; done) | (simp; omega)))) | ((with_reducible refine below_set' ?_ ?_ _); (focus (first | exact Nat.le_refl _ | omega | (simp; done) | (simp; omega)))))))) (fun hHeld => ?_)
    iterate 24 (all_goals (first
      | ((refine wpAnyH_take (i := 0) (v := .pointer (some ⟨w.heap.size, 0, none⟩)) rfl (by kernel_rfl) (by decide +kernel) (by decide +kernel) (fun _ _ _ h => h) (Or.inl ⟨rfl, fun x hx => (by ((try dsimp only at hx); go_simp))⟩) hHeld ?_); (try simp only [List.getElem_toArray, List.getElem_cons_succ, List.getElem_cons_zero, Act.put, List.setIfInBounds_toArray, List.set_cons_zero, List.set_cons_succ]))
      | ((refine wpAnyH_take (i := 1) (v := .slice (some ⟨g, 0, none⟩) np c) rfl (by kernel_rfl) (by decide +kernel) (by decide +kernel) (fun _ _ _ h => h) (Or.inl ⟨rfl, fun x hx => (by ((try dsimp only at hx); go_simp))⟩) hHeld ?_); (try simp only [List.getElem_toArray, List.getElem_cons_succ, List.getElem_cons_zero, Act.put, List.setIfInBounds_toArray, List.set_cons_zero, List.set_cons_succ]))
      | ((refine wpAnyH_take (i := 2) (v := .pointer (some ⟨w.heap.size + 1, 0, none⟩)) rfl (by kernel_rfl) (by decide +kernel) (by decide +kernel) (fun _ _ _ h => h) (Or.inl ⟨rfl, fun x hx => (by ((try dsimp only at hx); go_simp))⟩) hHeld ?_); (try simp only [List.getElem_toArray, List.getElem_cons_succ, List.getElem_cons_zero, Act.put, List.setIfInBounds_toArray, List.set_cons_zero, List.set_cons_succ]))
      | ((refine wpAnyH_take (i := 3) (v := .int .i64 (i0 : Int)) rfl (by kernel_rfl) (by decide +kernel) (by decide +kernel) (fun _ _ _ h => h) (Or.inl ⟨rfl, fun x hx => (by ((try dsimp only at hx); go_simp))⟩) hHeld ?_); (try simp only [List.getElem_toArray, List.getElem_cons_succ, List.getElem_cons_zero, Act.put, List.setIfInBounds_toArray, List.set_cons_zero, List.set_cons_succ]))
      | ((refine wpAnyH_take (i := 4) (v := .pointer (some ⟨g, i0 * 3, none⟩)) rfl (by kernel_rfl) (by decide +kernel) (by decide +kernel) (fun _ _ _ h => h) (Or.inl ⟨rfl, fun x hx => (by ((try dsimp only at hx); go_simp))⟩) hHeld ?_); (try simp only [List.getElem_toArray, List.getElem_cons_succ, List.getElem_cons_zero, Act.put, List.setIfInBounds_toArray, List.set_cons_zero, List.set_cons_succ]))
      | ((refine wpAnyH_take (i := 5) (v := .agg (#[.int .i64 x0, .int .i64 y0, .int .i64 z0] : Array Value)) rfl (by kernel_rfl) (by decide +kernel) (by decide +kernel) (fun _ _ _ h => h) (Or.inl ⟨rfl, fun x hx => (by ((try dsimp only at hx); go_simp))⟩) hHeld ?_); (try simp only [List.getElem_toArray, List.getElem_cons_succ, List.getElem_cons_zero, Act.put, List.setIfInBounds_toArray, List.set_cons_zero, List.set_cons_succ]))
      | ((refine wpAnyH_take (i := 6) (v := .pointer (some ⟨w.heap.size, 0, none⟩)) rfl (by kernel_rfl) (by decide +kernel) (by decide +kernel) (fun _ _ _ h => h) (Or.inl ⟨rfl, fun x hx => (by ((try dsimp only at hx); go_simp))⟩) hHeld ?_); (try simp only [List.getElem_toArray, List.getElem_cons_succ, List.getElem_cons_zero, Act.put, List.setIfInBounds_toArray, List.set_cons_zero, List.set_cons_succ]))
      | ((refine wpAnyH_take (i := 7) (v := .slice (some ⟨g, 0, none⟩) np c) rfl (by kernel_rfl) (by decide +kernel) (by decide +kernel) (fun _ _ _ h => h) (Or.inl ⟨rfl, fun x hx => (by ((try dsimp only at hx); go_simp))⟩) hHeld ?_); (try simp only [List.getElem_toArray, List.getElem_cons_succ, List.getElem_cons_zero, Act.put, List.setIfInBounds_toArray, List.set_cons_zero, List.set_cons_succ]))
      | ((refine wpAnyH_take (i := 8) (v := .pointer (some ⟨w.heap.size + 1, 1, none⟩)) rfl (by kernel_rfl) (by decide +kernel) (by decide +kernel) (fun _ _ _ h => h) (Or.inl ⟨rfl, fun x hx => (by ((try dsimp only at hx); go_simp))⟩) hHeld ?_); (try simp only [List.getElem_toArray, List.getElem_cons_succ, List.getElem_cons_zero, Act.put, List.setIfInBounds_toArray, List.set_cons_zero, List.set_cons_succ]))
      | ((refine wpAnyH_take (i := 9) (v := .int .i64 (i1 : Int)) rfl (by kernel_rfl) (by decide +kernel) (by decide +kernel) (fun _ _ _ h => h) (Or.inl ⟨rfl, fun x hx => (by ((try dsimp only at hx); go_simp))⟩) hHeld ?_); (try simp only [List.getElem_toArray, List.getElem_cons_succ, List.getElem_cons_zero, Act.put, List.setIfInBounds_toArray, List.set_cons_zero, List.set_cons_succ]))
      | ((refine wpAnyH_take (i := 10) (v := .pointer (some ⟨g, i1 * 3, none⟩)) rfl (by kernel_rfl) (by decide +kernel) (by decide +kernel) (fun _ _ _ h => h) (Or.inl ⟨rfl, fun x hx => (by ((try dsimp only at hx); go_simp))⟩) hHeld ?_); (try simp only [List.getElem_toArray, List.getElem_cons_succ, List.getElem_cons_zero, Act.put, List.setIfInBounds_toArray, List.set_cons_zero, List.set_cons_succ]))
      | ((refine wpAnyH_take (i := 11) (v := .agg (#[.int .i64 x1, .int .i64 y1, .int .i64 z1] : Array Value)) rfl (by kernel_rfl) (by decide +kernel) (by decide +kernel) (fun _ _ _ h => h) (Or.inl ⟨rfl, fun x hx => (by ((try dsimp only at hx); go_simp))⟩) hHeld ?_); (try simp only [List.getElem_toArray, List.getElem_cons_succ, List.getElem_cons_zero, Act.put, List.setIfInBounds_toArray, List.set_cons_zero, List.set_cons_succ]))
      | ((refine wpAnyH_take (i := 12) (v := .pointer (some ⟨w.heap.size, 0, none⟩)) rfl (by kernel_rfl) (by decide +kernel) (by decide +kernel) (fun _ _ _ h => h) (Or.inl ⟨rfl, fun x hx => (by ((try dsimp only at hx); go_simp))⟩) hHeld ?_); (try simp only [List.getElem_toArray, List.getElem_cons_succ, List.getElem_cons_zero, Act.put, List.setIfInBounds_toArray, List.set_cons_zero, List.set_cons_succ]))
      | ((refine wpAnyH_take (i := 13) (v := .slice (some ⟨g, 0, none⟩) np c) rfl (by kernel_rfl) (by decide +kernel) (by decide +kernel) (fun _ _ _ h => h) (Or.inl ⟨rfl, fun x hx => (by ((try dsimp only at hx); go_simp))⟩) hHeld ?_); (try simp only [List.getElem_toArray, List.getElem_cons_succ, List.getElem_cons_zero, Act.put, List.setIfInBounds_toArray, List.set_cons_zero, List.set_cons_succ]))
      | ((refine wpAnyH_take (i := 14) (v := .pointer (some ⟨w.heap.size + 1, 2, none⟩)) rfl (by kernel_rfl) (by decide +kernel) (by decide +kernel) (fun _ _ _ h => h) (Or.inl ⟨rfl, fun x hx => (by ((try dsimp only at hx); go_simp))⟩) hHeld ?_); (try simp only [List.getElem_toArray, List.getElem_cons_succ, List.getElem_cons_zero, Act.put, List.setIfInBounds_toArray, List.set_cons_zero, List.set_cons_succ]))
      | ((refine wpAnyH_take (i := 15) (v := .int .i64 (i2 : Int)) rfl (by kernel_rfl) (by decide +kernel) (by decide +kernel) (fun _ _ _ h => h) (Or.inl ⟨rfl, fun x hx => (by ((try dsimp only at hx); go_simp))⟩) hHeld ?_); (try simp only [List.getElem_toArray, List.getElem_cons_succ, List.getElem_cons_zero, Act.put, List.setIfInBounds_toArray, List.set_cons_zero, List.set_cons_succ]))
      | ((refine wpAnyH_take (i := 16) (v := .pointer (some ⟨g, i2 * 3, none⟩)) rfl (by kernel_rfl) (by decide +kernel) (by decide +kernel) (fun _ _ _ h => h) (Or.inl ⟨rfl, fun x hx => (by ((try dsimp only at hx); go_simp))⟩) hHeld ?_); (try simp only [List.getElem_toArray, List.getElem_cons_succ, List.getElem_cons_zero, Act.put, List.setIfInBounds_toArray, List.set_cons_zero, List.set_cons_succ]))
      | ((refine wpAnyH_take (i := 17) (v := .agg (#[.int .i64 x2, .int .i64 y2, .int .i64 z2] : Array Value)) rfl (by kernel_rfl) (by decide +kernel) (by decide +kernel) (fun _ _ _ h => h) (Or.inl ⟨rfl, fun x hx => (by ((try dsimp only at hx); go_simp))⟩) hHeld ?_); (try simp only [List.getElem_toArray, List.getElem_cons_succ, List.getElem_cons_zero, Act.put, List.setIfInBounds_toArray, List.set_cons_zero, List.set_cons_succ]))
      | ((refine wpAnyH_ready (rs := [18, 19, 20]) (by decide +kernel) (by simp) (AllReadyH.cons rfl (fun K hK => ?_) (AllReadyH.cons rfl (fun K hK => ?_) (AllReadyH.cons rfl (fun K hK => ?_) AllReadyH.nil)))) <;> (go_simp; (first | skip | skip); (refine hK.out _ _ ?_ (fun hNew => ?_)); (focus (refine hS.out _ ?_; (repeat (first | (with_reducible assumption) | (with_reducible exact Below.refl _ _) | (with_reducible refine Below.drew ?_) | ((with_reducible refine below_alloc' ?_ ?_ _); (focus (first | omega | (simp; done) | (simp; omega)))) | ((with_reducible refine below_set' ?_ ?_ _); (focus (first | exact Nat.le_refl _ | omega | (simp; done) | (simp; omega)))))))); clear hHeld hK K; have hHeld := hNew; clear hNew; (try simp only [List.getElem_toArray, List.getElem_cons_succ, List.getElem_cons_zero, Act.put, List.setIfInBounds_toArray, List.set_cons_zero, List.set_cons_succ])))
      | ((refine wpAnyH_ready (rs := [18, 19]) (by decide +kernel) (by simp) (AllReadyH.cons rfl (fun K hK => ?_) (AllReadyH.cons rfl (fun K hK => ?_) AllReadyH.nil))) <;> (go_simp; (first | skip | skip); (refine hK.out _ _ ?_ (fun hNew => ?_)); (focus (refine hS.out _ ?_; (repeat (first | (with_reducible assumption) | (with_reducible exact Below.refl _ _) | (with_reducible refine Below.drew ?_) | ((with_reducible refine below_alloc' ?_ ?_ _); (focus (first | omega | (simp; done) | (simp; omega)))) | ((with_reducible refine below_set' ?_ ?_ _); (focus (first | exact Nat.le_refl _ | omega | (simp; done) | (simp; omega)))))))); clear hHeld hK K; have hHeld := hNew; clear hNew; (try simp only [List.getElem_toArray, List.getElem_cons_succ, List.getElem_cons_zero, Act.put, List.setIfInBounds_toArray, List.set_cons_zero, List.set_cons_succ])))
      | ((refine wpAnyH_ready (rs := [18, 20]) (by decide +kernel) (by simp) (AllReadyH.cons rfl (fun K hK => ?_) (AllReadyH.cons rfl (fun K hK => ?_) AllReadyH.nil))) <;> (go_simp; (first | skip | skip); (refine hK.out _ _ ?_ (fun hNew => ?_)); (focus (refine hS.out _ ?_; (repeat (first | (with_reducible assumption) | (with_reducible exact Below.refl _ _) | (with_reducible refine Below.drew ?_) | ((with_reducible refine below_alloc' ?_ ?_ _); (focus (first | omega | (simp; done) | (simp; omega)))) | ((with_reducible refine below_set' ?_ ?_ _); (focus (first | exact Nat.le_refl _ | omega | (simp; done) | (simp; omega)))))))); clear hHeld hK K; have hHeld := hNew; clear hNew; (try simp only [List.getElem_toArray, List.getElem_cons_succ, List.getElem_cons_zero, Act.put, List.setIfInBounds_toArray, List.set_cons_zero, List.set_cons_succ])))
      | ((refine wpAnyH_ready (rs := [19, 20]) (by decide +kernel) (by simp) (AllReadyH.cons rfl (fun K hK => ?_) (AllReadyH.cons rfl (fun K hK => ?_) AllReadyH.nil))) <;> (go_simp; (first | skip | skip); (refine hK.out _ _ ?_ (fun hNew => ?_)); (focus (refine hS.out _ ?_; (repeat (first | (with_reducible assumption) | (with_reducible exact Below.refl _ _) | (with_reducible refine Below.drew ?_) | ((with_reducible refine below_alloc' ?_ ?_ _); (focus (first | omega | (simp; done) | (simp; omega)))) | ((with_reducible refine below_set' ?_ ?_ _); (focus (first | exact Nat.le_refl _ | omega | (simp; done) | (simp; omega)))))))); clear hHeld hK K; have hHeld := hNew; clear hNew; (try simp only [List.getElem_toArray, List.getElem_cons_succ, List.getElem_cons_zero, Act.put, List.setIfInBounds_toArray, List.set_cons_zero, List.set_cons_succ])))
      | ((refine wpAnyH_ready (rs := [18]) (by decide +kernel) (by simp) (AllReadyH.cons rfl (fun K hK => ?_) AllReadyH.nil)) <;> (go_simp; (first | skip | skip); (refine hK.out _ _ ?_ (fun hNew => ?_)); (focus (refine hS.out _ ?_; (repeat (first | (with_reducible assumption) | (with_reducible exact Below.refl _ _) | (with_reducible refine Below.drew ?_) | ((with_reducible refine below_alloc' ?_ ?_ _); (focus (first | omega | (simp; done) | (simp; omega)))) | ((with_reducible refine below_set' ?_ ?_ _); (focus (first | exact Nat.le_refl _ | omega | (simp; done) | (simp; omega)))))))); clear hHeld hK K; have hHeld := hNew; clear hNew; (try simp only [List.getElem_toArray, List.getElem_cons_succ, List.getElem_cons_zero, Act.put, List.setIfInBounds_toArray, List.set_cons_zero, List.set_cons_succ])))
      | ((refine wpAnyH_ready (rs := [19]) (by decide +kernel) (by simp) (AllReadyH.cons rfl (fun K hK => ?_) AllReadyH.nil)) <;> (go_simp; (first | skip | skip); (refine hK.out _ _ ?_ (fun hNew => ?_)); (focus (refine hS.out _ ?_; (repeat (first | (with_reducible assumption) | (with_reducible exact Below.refl _ _) | (with_reducible refine Below.drew ?_) | ((with_reducible refine below_alloc' ?_ ?_ _); (focus (first | omega | (simp; done) | (simp; omega)))) | ((with_reducible refine below_set' ?_ ?_ _); (focus (first | exact Nat.le_refl _ | omega | (simp; done) | (simp; omega)))))))); clear hHeld hK K; have hHeld := hNew; clear hNew; (try simp only [List.getElem_toArray, List.getElem_cons_succ, List.getElem_cons_zero, Act.put, List.setIfInBounds_toArray, List.set_cons_zero, List.set_cons_succ])))
      | ((refine wpAnyH_ready (rs := [20]) (by decide +kernel) (by simp) (AllReadyH.cons rfl (fun K hK => ?_) AllReadyH.nil)) <;> (go_simp; (first | skip | skip); (refine hK.out _ _ ?_ (fun hNew => ?_)); (focus (refine hS.out _ ?_; (repeat (first | (with_reducible assumption) | (with_reducible exact Below.refl _ _) | (with_reducible refine Below.drew ?_) | ((with_reducible refine below_alloc' ?_ ?_ _); (focus (first | omega | (simp; done) | (simp; omega)))) | ((with_reducible refine below_set' ?_ ?_ _); (focus (first | exact Nat.le_refl _ | omega | (simp; done) | (simp; omega)))))))); clear hHeld hK K; have hHeld := hNew; clear hNew; (try simp only [List.getElem_toArray, List.getElem_cons_succ, List.getElem_cons_zero, Act.put, List.setIfInBounds_toArray, List.set_cons_zero, List.set_cons_succ])))
      | ((refine wpAnyH_ready (rs := [21]) (by decide +kernel) (by simp) (AllReadyH.cons rfl (fun K hK => ?_) AllReadyH.nil)) <;> (go_simp; (first | skip | skip); (refine hK.out _ _ ?_ (fun hNew => ?_)); (focus (refine hS.out _ ?_; (repeat (first | (with_reducible assumption) | (with_reducible exact Below.refl _ _) | (with_reducible refine Below.drew ?_) | ((with_reducible refine below_alloc' ?_ ?_ _); (focus (first | omega | (simp; done) | (simp; omega)))) | ((with_reducible refine below_set' ?_ ?_ _); (focus (first | exact Nat.le_refl _ | omega | (simp; done) | (simp; omega)))))))); clear hHeld hK K; have hHeld := hNew; clear hNew; (try simp only [List.getElem_toArray, List.getElem_cons_succ, List.getElem_cons_zero, Act.put, List.setIfInBounds_toArray, List.set_cons_zero, List.set_cons_succ])))
      | ((refine wpAnyH_ready (rs := [22]) (by decide +kernel) (by simp) (AllReadyH.cons rfl (fun K hK => ?_) AllReadyH.nil)) <;> (go_simp; (first | skip | skip); (refine hK.out _ _ ?_ (fun hNew => ?_)); (focus (refine hS.out _ ?_; (repeat (first | (with_reducible assumption) | (with_reducible exact Below.refl _ _) | (with_reducible refine Below.drew ?_) | ((with_reducible refine below_alloc' ?_ ?_ _); (focus (first | omega | (simp; done) | (simp; omega)))) | ((with_reducible refine below_set' ?_ ?_ _); (focus (first | exact Nat.le_refl _ | omega | (simp; done) | (simp; omega)))))))); clear hHeld hK K; have hHeld := hNew; clear hNew; (try simp only [List.getElem_toArray, List.getElem_cons_succ, List.getElem_cons_zero, Act.put, List.setIfInBounds_toArray, List.set_cons_zero, List.set_cons_succ])))
      | ((refine wpAnyH_ready (rs := [23]) (by decide +kernel) (by simp) (AllReadyH.cons rfl (fun K hK => ?_) AllReadyH.nil)) <;> (go_simp; (first | skip | skip); (refine hK.out _ _ ?_ (fun hNew => ?_)); (focus (refine hS.out _ ?_; (repeat (first | (with_reducible assumption) | (with_reducible exact Below.refl _ _) | (with_reducible refine Below.drew ?_) | ((with_reducible refine below_alloc' ?_ ?_ _); (focus (first | omega | (simp; done) | (simp; omega)))) | ((with_reducible refine below_set' ?_ ?_ _); (focus (first | exact Nat.le_refl _ | omega | (simp; done) | (simp; omega)))))))); clear hHeld hK K; have hHeld := hNew; clear hNew; (try simp only [List.getElem_toArray, List.getElem_cons_succ, List.getElem_cons_zero, Act.put, List.setIfInBounds_toArray, List.set_cons_zero, List.set_cons_succ])))))
    all_goals (refine wpAnyH_done (by kernel_rfl) ?_ _; clear hHeld)
    all_goals
      go_wp2
      go_meet
      case rel => exact ⟨_, _, _, rfl, rfl, rfl, fun o => by simp [go_sem], fun o => by simp [go_sem], fun o => by simp [go_sem], by simp; first | done | omega, by simp; first | done | omega, by simp; first | done | omega, by (repeat' (first | (with_reducible exact Below.refl _ _) | (with_reducible assumption) | (with_reducible refine below_alloc ?_ _) | (with_reducible refine Below.drew ?_) | (with_reducible refine Below.setCell ?_ ?_ _) | (with_reducible refine below_after ?_ (by assumption)) | go_size))⟩
  case rest =>
    obtain ⟨b5, b6, b7, rfl, rfl, rfl, k5, k6, k7, l5, l6, l7, hbx⟩ := hcut
    obtain ⟨B0, B1, B2, B3, B4, B5, B6, B7, B8⟩ := BD.out
    have p1 := abs_mul_le B4 B8 (by omega) (by omega)
    have p2 := abs_mul_le B5 B7 (by omega) (by omega)
    have p3 := abs_mul_le B5 B6 (by omega) (by omega)
    have p4 := abs_mul_le B3 B8 (by omega) (by omega)
    have p5 := abs_mul_le B3 B7 (by omega) (by omega)
    have p6 := abs_mul_le B4 B6 (by omega) (by omega)
    have p7 := abs_mul_le (a := x0) (b := y1 * z2 - z1 * y2) (m := 32768) (k := 2147483648) B0 (by omega) (by omega) (by omega)
    have p8 := abs_mul_le (a := y0) (b := z1 * x2 - x1 * z2) (m := 32768) (k := 2147483648) B1 (by omega) (by omega) (by omega)
    have p9 := abs_mul_le (a := z0) (b := x1 * y2 - y1 * x2) (m := 32768) (k := 2147483648) B2 (by omega) (by omega) (by omega)
    clear BD B0 B1 B2 B3 B4 B5 B6 B7 B8
    have hdd : x0 * (y1 * z2 - z1 * y2) + y0 * (z1 * x2 - x1 * z2) + z0 * (x1 * y2 - y1 * x2) = det3 x0 y0 z0 x1 y1 z1 x2 y2 z2 := by unfold det3; rfl
    have HD := Lib.hid hdd
    clear hdd
    go_wp2
    rw [HD.out]
    go_returns
    exact ⟨rfl, below_after HB.out hbx⟩
end Go.Proofs.YtfmmnnodihpgmaaDoor
namespace Go.Proofs.YtfmmnnodihpgmaaDoor
set_option linter.all false
open Go Go.RowKit Wd
set_option maxRecDepth 100000
/-- The determinant of face j. -/
@[irreducible] def detF (P F : Nat → Int) (j : Nat) : Int := det3 (P ((F (j * 3)).toNat * 3)) (P ((F (j * 3)).toNat * 3 + 1)) (P ((F (j * 3)).toNat * 3 + 2)) (P ((F (j * 3 + 1)).toNat * 3)) (P ((F (j * 3 + 1)).toNat * 3 + 1)) (P ((F (j * 3 + 1)).toNat * 3 + 2)) (P ((F (j * 3 + 2)).toNat * 3)) (P ((F (j * 3 + 2)).toNat * 3 + 1)) (P ((F (j * 3 + 2)).toNat * 3 + 2))
theorem det3_abs (a b c p q r x y z : Int) (h0 : -32768 ≤ a ∧ a ≤ 32768) (h1 : -32768 ≤ b ∧ b ≤ 32768) (h2 : -32768 ≤ c ∧ c ≤ 32768) (h3 : -32768 ≤ p ∧ p ≤ 32768) (h4 : -32768 ≤ q ∧ q ≤ 32768) (h5 : -32768 ≤ r ∧ r ≤ 32768) (h6 : -32768 ≤ x ∧ x ≤ 32768) (h7 : -32768 ≤ y ∧ y ≤ 32768) (h8 : -32768 ≤ z ∧ z ≤ 32768) :
    -4503599627370496 ≤ det3 a b c p q r x y z ∧ det3 a b c p q r x y z ≤ 4503599627370496 := by
  have p1 := abs_mul_le h4 h8 (by omega) (by omega)
  have p2 := abs_mul_le h5 h7 (by omega) (by omega)
  have p3 := abs_mul_le h5 h6 (by omega) (by omega)
  have p4 := abs_mul_le h3 h8 (by omega) (by omega)
  have p5 := abs_mul_le h3 h7 (by omega) (by omega)
  have p6 := abs_mul_le h4 h6 (by omega) (by omega)
  have p7 := abs_mul_le (a := a) (b := q * z - r * y) (m := 32768) (k := 2147483648) h0 (by omega) (by omega) (by omega)
  have p8 := abs_mul_le (a := b) (b := r * x - p * z) (m := 32768) (k := 2147483648) h1 (by omega) (by omega) (by omega)
  have p9 := abs_mul_le (a := c) (b := p * y - q * x) (m := 32768) (k := 2147483648) h2 (by omega) (by omega) (by omega)
  unfold det3
  omega
theorem detF_abs {P F : Nat → Int} {np n : Nat} (hF : ∀ j, j < n * 3 → 0 ≤ F j ∧ F j < np) (hP : ∀ j, j < np * 3 → -32768 ≤ P j ∧ P j ≤ 32768) (j : Nat) (hj : j < n) : -4503599627370496 ≤ detF P F j ∧ detF P F j ≤ 4503599627370496 := by
  have f0 := hF (j * 3) (by omega)
  have f1 := hF (j * 3 + 1) (by omega)
  have f2 := hF (j * 3 + 2) (by omega)
  unfold detF
  exact det3_abs _ _ _ _ _ _ _ _ _ (hP _ (by omega)) (hP _ (by omega)) (hP _ (by omega)) (hP _ (by omega)) (hP _ (by omega)) (hP _ (by omega)) (hP _ (by omega)) (hP _ (by omega)) (hP _ (by omega))
/-- determinant, of face j. -/
theorem detj_any (g np c : Nat) (P F : Nat → Int) (n j : Nat) (hj : j < n) (hF : ∀ j, j < n * 3 → 0 ≤ F j ∧ F j < np) (hn : np ≤ 100000) (hP : ∀ j, j < np * 3 → -32768 ≤ P j ∧ P j ≤ 32768) (w : World) (h : RowI w g (np * 3) P) (lg : g < w.heap.size) (a1 : Option Addr) (n1 c1 : Nat) :
    Calls Tryd.prog 58 #[.agg #[.slice (some ⟨g, 0, none⟩) np c, .slice a1 n1 c1], .agg #[.int .i64 (F (j * 3)), .int .i64 (F (j * 3 + 1)), .int .i64 (F (j * 3 + 2))]] w fun e w' => e = .returned (.int .i64 (detF P F j)) ∧ Below w.heap.size w w' := by
  have f0 := hF (j * 3) (by omega)
  have f1 := hF (j * 3 + 1) (by omega)
  have f2 := hF (j * 3 + 2) (by omega)
  have K := det_any g np c (F (j * 3)).toNat (F (j * 3 + 1)).toNat (F (j * 3 + 2)).toNat undef P (by omega) (by omega) (by omega) hn hP w h lg a1 n1 c1
  rw [Int.toNat_of_nonneg f0.1, Int.toNat_of_nonneg f1.1, Int.toNat_of_nonneg f2.1] at K
  unfold detF
  exact K
set_option maxHeartbeats 2000000 in
theorem volf_any (M g h np nf c d : Nat) (P F : Nat → Int) (n j : Nat) (hj : j < n) (hF : ∀ j, j < n * 3 → 0 ≤ F j ∧ F j < np) (hn : np ≤ 100000) (hP : ∀ j, j < np * 3 → -32768 ≤ P j ∧ P j ≤ 32768) (w : World) (hr : RowI w g (np * 3) P) (lg : g < w.heap.size)
    (hM : ∀ o, w.cell? ⟨M, o, none⟩ = (#[.slice (some ⟨g, 0, none⟩) np c, .slice (some ⟨h, 0, none⟩) nf d] : Array Value)[o]?) (lM : M < w.heap.size) :
    Calls Tryd.prog 84 #[.agg #[.int .i64 (F (j * 3)), .int .i64 (F (j * 3 + 1)), .int .i64 (F (j * 3 + 2))], .pointer (some ⟨M, 0, none⟩)] w fun e w' => e = .returned (.tuple #[.int .i64 (detF P F j), .int .i64 1]) ∧ Below w.heap.size w w' := by
  have K := Lib.hid (fun W (hb : Below w.heap.size w W) => detj_any g np c P F n j hj hF hn hP W (fun q hq => (hb.cell (p := ⟨g, q, none⟩) lg).trans (hr q hq)) (keep_lt hb lg) (some ⟨h, 0, none⟩) nf d)
  clear hF hP hr
  generalize F (j * 3) = a0 at *
  generalize F (j * 3 + 1) = a1 at *
  generalize F (j * 3 + 2) = a2 at *
  go_enter Tryd.func84, Tryd.ntmps84
  go_wp2_with fail
  ((with_reducible refine (K.out _ (by (repeat' (first | (with_reducible exact Below.refl _ _) | (with_reducible assumption) | (with_reducible refine below_alloc ?_ _) | (with_reducible refine Below.drew ?_) | (with_reducible refine Below.setCell ?_ ?_ _) | (with_reducible refine below_after ?_ (by assumption)) | go_size)))).mono ?_); rintro e w1 ⟨rfl, hb1⟩)
  obtain ⟨hc1, hf1⟩ := bcell hb1
  have hz1_w_0 : w.heap.size < w1.heap.size := by have h := hb1.size; (try simp at h); omega
  go_wp2
  go_returns
  exact ⟨rfl, by (repeat' (first | (with_reducible exact Below.refl _ _) | (with_reducible assumption) | (with_reducible refine below_alloc ?_ _) | (with_reducible refine Below.drew ?_) | (with_reducible refine Below.setCell ?_ ?_ _) | (with_reducible refine below_after ?_ (by assumption)) | go_size))⟩
set_option maxHeartbeats 2000000 in
theorem vol_any (g h np nf c d : Nat) (P F : Nat → Int) (hF : ∀ j, j < nf * 3 → 0 ≤ F j ∧ F j < np) (hn : np ≤ 100000) (hnf : nf ≤ 100000) (hP : ∀ j, j < np * 3 → -32768 ≤ P j ∧ P j ≤ 32768) (w : World) (hr : RowI w g (np * 3) P) (lg : g < w.heap.size) (hq : RowI w h (nf * 3) F) (lh : h < w.heap.size) :
    Calls Tryd.prog 54 #[.agg #[.slice (some ⟨g, 0, none⟩) np c, .slice (some ⟨h, 0, none⟩) nf d]] w fun e w' => e = .returned (.agg #[.bool (zs (ps (detF P F) (fun _ => 1) nf)), .int .u64 (wd (Int.natAbs (ps (detF P F) (fun _ => 1) nf)) 0), .int .u64 (wd (Int.natAbs (ps (detF P F) (fun _ => 1) nf)) 1), .int .u64 (wd (Int.natAbs (ps (detF P F) (fun _ => 1) nf)) 2), .int .u64 (wd (Int.natAbs (ps (detF P F) (fun _ => 1) nf)) 3)]) ∧ Below w.heap.size w w' := by
  have hen : ∀ args w, (callFunc 84 args).run Tryd.prog w = .ok (.enter 84 args) w := enters_of Tryd.func84 (by kernel_rfl) rfl
  have K := Lib.hid (fun (W : World) (hb : Below w.heap.size w W) (hM : ∀ o, W.cell? ⟨w.heap.size, o, none⟩ = (#[.slice (some ⟨g, 0, none⟩) np c, .slice (some ⟨h, 0, none⟩) nf d] : Array Value)[o]?) (lM : w.heap.size < W.heap.size) =>
    sum_any 84 #[.pointer (some ⟨w.heap.size, 0, none⟩)] hen g h np nf c d F (detF P F) (fun _ => 1) hnf (detF_abs hF hP) (fun _ _ => by omega) W (fun q hq' => (hb.cell (p := ⟨h, q, none⟩) lh).trans (hq q hq')) (keep_lt hb lh)
      (fun j hj V hV => volf_any w.heap.size g h np nf c d P F nf j hj hF hn hP V (fun q hq' => ((below_after hb hV).cell (p := ⟨g, q, none⟩) lg).trans (hr q hq')) (keep_lt (below_after hb hV) lg) (fun o => (hV.cell (p := ⟨w.heap.size, o, none⟩) lM).trans (hM o)) (keep_lt hV lM)))
  clear hF hP hr hq hen
  go_enter Tryd.func54, Tryd.ntmps54
  go_upto_region 1 with (fail)
  refine wp_world (fun x => (∀ o, x.cell? ⟨w.heap.size, o, none⟩ = (#[.slice (some ⟨g, 0, none⟩) np c, .slice (some ⟨h, 0, none⟩) nf d] : Array Value)[o]?) ∧ (∀ o, x.cell? ⟨w.heap.size + 1, o, none⟩ = (#[.bool false, .int .u64 0, .int .u64 0, .int .u64 0, .int .u64 0] : Array Value)[o]?) ∧ (∀ o, x.frozen? ⟨w.heap.size, o, none⟩ = false) ∧ (∀ o, x.frozen? ⟨w.heap.size + 1, o, none⟩ = false) ∧ w.heap.size < x.heap.size ∧ w.heap.size + 1 < x.heap.size ∧ Below w.heap.size w x) ⟨fun o => by simp [go_sem], fun o => by simp [go_sem], fun o => by simp [go_sem], fun o => by simp [go_sem], by (first | omega | (simp [go_sem]; done) | (simp [go_sem]; omega)), by (first | omega | (simp [go_sem]; done) | (simp [go_sem]; omega)), by (repeat' (first | (with_reducible exact Below.refl _ _) | (with_reducible assumption) | (with_reducible refine below_alloc ?_ _) | (with_reducible refine Below.drew ?_) | (with_reducible refine Below.setCell ?_ ?_ _) | (with_reducible refine below_after ?_ (by assumption)) | go_size))⟩ ?_
  rintro G ⟨hGc0, hGc1, hGf0, hGf1, hGz0, hGz1, hGb⟩
  go_wp2_with fail
  ((with_reducible refine (K.out _ hGb hGc0 hGz0).mono ?_); rintro e w1 ⟨rfl, hb1⟩)
  have hk1 : Kp G.heap.size [] G w1 := (by (repeat (first | (with_reducible assumption) | (with_reducible exact Kp.refl (Nat.le_refl _)) | (with_reducible refine Kp.drew ?_) | (with_reducible refine Kp.alloc ?_ _) | ((with_reducible refine Kp.put ?_ ?_ _); focus (first | (left; go_size; done) | (right; simp; done))) | ((with_reducible apply Kp.later); (with_reducible assumption)))))
  have h1c0 := fun o => (hk1.cell _ o hGz0 (by simp)).trans (hGc0 o)
  have h1f0 := fun o => (hk1.froz _ o hGz0).trans (hGf0 o)
  have h1z0 := Nat.lt_of_lt_of_le hGz0 hk1.size
  have h1c1 := fun o => (hk1.cell _ o hGz1 (by simp)).trans (hGc1 o)
  have h1f1 := fun o => (hk1.froz _ o hGz1).trans (hGf1 o)
  have h1z1 := Nat.lt_of_lt_of_le hGz1 hk1.size
  go_wp2_with ((with_reducible show bodyPost _ _ _ _ _ _); refine bodyPost_ret (by simp [results, Tryd.results54, go_sem, h1c0, h1c1, h1f1, h1z1]; try rfl) rfl ?_; exact ⟨rfl, by (repeat' (first | (with_reducible exact Below.refl _ _) | (with_reducible assumption) | (with_reducible refine below_alloc ?_ _) | (with_reducible refine Below.drew ?_) | (with_reducible refine Below.setCell ?_ ?_ _) | (with_reducible refine below_after ?_ (by assumption)) | go_size))⟩)
end Go.Proofs.YtfmmnnodihpgmaaDoor
namespace Go.Proofs.YtfmmnnodihpgmaaDoor
set_option linter.all false
open Go Go.RowKit Wd
set_option maxRecDepth 100000
theorem cmp_pos (x : Int) (hx : 0 < x) (hn : x.natAbs < 2 ^ 200) (w : World) :
    Calls Tryd.prog 62 #[(.agg #[.bool (zs (x)), .int .u64 (wd (Int.natAbs (x)) 0), .int .u64 (wd (Int.natAbs (x)) 1), .int .u64 (wd (Int.natAbs (x)) 2), .int .u64 (wd (Int.natAbs (x)) 3)]), .agg #[.bool false, .int .u64 0, .int .u64 0, .int .u64 0, .int .u64 0]] w fun e w' => e = .returned (.int .i64 1) ∧ Below w.heap.size w w' := by
  have h := cmp_any (zs x) false x.natAbs 0 (by omega) (by omega) w
  rw [val_zs, show val false 0 = 0 by unfold val; rfl, cmpZ_pos hx] at h
  simp only [wd_zero] at h
  exact h
set_option maxHeartbeats 4000000 in
theorem mcheck_in (g h np nf c d : Nat) (P F : Nat → Int) (hF : ∀ j, j < nf * 3 → 0 ≤ F j ∧ F j < np) (hn : np ≤ 1024) (hnf : nf ≤ 2048) (hP : ∀ j, j < np * 3 → -32768 ≤ P j ∧ P j ≤ 32768) (hS : Shutd F nf) (hv : 0 < ps (detF P F) (fun _ => 1) nf)
    (w : World) (hr : RowI w g (np * 3) P) (lg : g < w.heap.size) (hq : RowI w h (nf * 3) F) (lh : h < w.heap.size) :
    Calls Tryd.prog 26 #[.agg #[.slice (some ⟨g, 0, none⟩) np c, .slice (some ⟨h, 0, none⟩) nf d]] w fun e w' => e = .returned (.int .i64 0) ∧ Below w.heap.size w w' := by
  have pb := ps_abs (detF P F) (fun _ => 1) nf (detF_abs hF hP) (fun _ _ => by omega) nf (Nat.le_refl _)
  have K1 := Lib.hid (fun (W : World) (hb : Below w.heap.size w W) => contains_in g np c P (by omega) (fun j hj => by have := hP j hj; omega) W (fun q hq' => (hb.cell (p := ⟨g, q, none⟩) lg).trans (hr q hq')) (keep_lt hb lg))
  have K2 := Lib.hid (fun (W : World) (hb : Below w.heap.size w W) => closed_any g h np nf c d F (by omega) hS W (fun q hq' => (hb.cell (p := ⟨h, q, none⟩) lh).trans (hq q hq')) (keep_lt hb lh))
  have K3 := Lib.hid (fun (W : World) (hb : Below w.heap.size w W) => vol_any g h np nf c d P F hF (by omega) (by omega) hP W (fun q hq' => (hb.cell (p := ⟨g, q, none⟩) lg).trans (hr q hq')) (keep_lt hb lg) (fun q hq' => (hb.cell (p := ⟨h, q, none⟩) lh).trans (hq q hq')) (keep_lt hb lh))
  have K4 := Lib.hid (cmp_pos _ hv (by omega))
  have HF := Lib.hid hF
  have HQ := Lib.hid hq
  clear hP hS hr hv hF hq pb
  generalize ps (detF P F) (fun _ => 1) nf = t at *
  go_enter Tryd.func26, Tryd.ntmps26
  go_wp2_with fail
  ((with_reducible refine (K1.out _ (by (repeat' (first | (with_reducible exact Below.refl _ _) | (with_reducible assumption) | (with_reducible refine below_alloc ?_ _) | (with_reducible refine Below.drew ?_) | (with_reducible refine Below.setCell ?_ ?_ _) | (with_reducible refine below_after ?_ (by assumption)) | go_size)))).mono ?_); rintro e w1 ⟨rfl, hb1⟩)
  obtain ⟨hc1, hf1⟩ := bcell hb1
  have hz1_w_0 : w.heap.size < w1.heap.size := by have h := hb1.size; (try simp at h); omega
  go_upto_region 5 with (fail)
  refine wp_world (fun x => (∀ o, x.cell? ⟨w.heap.size, o, none⟩ = (#[.slice (some ⟨g, 0, none⟩) np c, .slice (some ⟨h, 0, none⟩) nf d] : Array Value)[o]?) ∧ (∀ o, x.frozen? ⟨w.heap.size, o, none⟩ = false) ∧ w.heap.size < x.heap.size ∧ Below w.heap.size w x) ⟨fun o => by simp [go_sem, hc1, hf1, hz1_w_0], fun o => by simp [go_sem, hc1, hf1, hz1_w_0], by (first | omega | (simp [go_sem, hc1, hf1, hz1_w_0]; done) | (simp [go_sem, hc1, hf1, hz1_w_0]; omega)), by (repeat' (first | (with_reducible exact Below.refl _ _) | (with_reducible assumption) | (with_reducible refine below_alloc ?_ _) | (with_reducible refine Below.drew ?_) | (with_reducible refine Below.setCell ?_ ?_ _) | (with_reducible refine below_after ?_ (by assumption)) | go_size))⟩ ?_
  rintro G ⟨hGc0, hGf0, hGz0, hGb⟩
  clear hb1 hc1 hf1
  have HG := Lib.hid hGb
  go_wp2
  go_loopg [21] nf (fun gg v wr => ∃ j : Nat, j ≤ nf ∧ nf - j ≤ gg ∧ v = .int .i64 (j : Int) ∧ Hid ((∀ o, wr.cell? ⟨w.heap.size, o, none⟩ = (#[.slice (some ⟨g, 0, none⟩) np c, .slice (some ⟨h, 0, none⟩) nf d] : Array Value)[o]?) ∧ w.heap.size < wr.heap.size ∧ Below w.heap.size w wr))
  case atStart => exact ⟨0, by omega, by omega, rfl, Lib.hid ⟨hGc0, hGz0, hGb⟩⟩
  case round =>
    obtain ⟨j, hj, hgj, rfl, HI⟩ := hrel
    obtain ⟨hc, hz, hb⟩ := HI.out
    clear hGc0 hGf0 hGz0 hGb HI
    by_cases hlt : j < nf
    · have hjn : (j : Int) < (nf : Int) := by omega
      have hlr := keep_lt hb lh
      have f0 := (hb.cell (p := ⟨h, j * 3, none⟩) lh).trans (HQ.out (j * 3) (by omega))
      have f1 := (hb.cell (p := ⟨h, j * 3 + 1, none⟩) lh).trans (HQ.out (j * 3 + 1) (by omega))
      have f2 := (hb.cell (p := ⟨h, j * 3 + 2, none⟩) lh).trans (HQ.out (j * 3 + 2) (by omega))
      have b0 := HF.out (j * 3) (by omega)
      have b1 := HF.out (j * 3 + 1) (by omega)
      have b2 := HF.out (j * 3 + 2) (by omega)
      generalize F (j * 3) = a0 at *
      generalize F (j * 3 + 1) = a1 at *
      generalize F (j * 3 + 2) = a2 at *
      have m1 : ¬ min a0 (min a1 a2) < 0 := by omega
      have m2 : ¬ min (min a0 a1) a2 < 0 := by omega
      go_wp2
      all_goals
        go_roundg (nf - (j + 1))
        case rel => exact ⟨j + 1, by omega, by omega, by go_num, Lib.hid ⟨fun o => by simp [go_sem, hc, hz], by simp; omega, by (repeat' (first | (with_reducible exact Below.refl _ _) | (with_reducible assumption) | (with_reducible refine below_alloc ?_ _) | (with_reducible refine Below.drew ?_) | (with_reducible refine Below.setCell ?_ ?_ _) | (with_reducible refine below_after ?_ (by assumption)) | go_size))⟩⟩
        case measure => omega
    · obtain rfl : j = nf := by omega
      have hjn : ¬ (j : Int) < (j : Int) := by omega
      go_wp2_with (first
        | (go_at_call 61; (with_reducible refine (K2.out _ (by (repeat' (first | (with_reducible exact Below.refl _ _) | (with_reducible assumption) | (with_reducible refine below_alloc ?_ _) | (with_reducible refine Below.drew ?_) | (with_reducible refine Below.setCell ?_ ?_ _) | (with_reducible refine below_after ?_ (by assumption)) | go_size)))).mono ?_); rintro e w1 ⟨rfl, hb1⟩; have hc1 := keep_cell hb1 hz hc; have hz1 := keep_lt hb1 hz)
        | (go_at_call 54; (with_reducible refine (K3.out _ (by (repeat' (first | (with_reducible exact Below.refl _ _) | (with_reducible assumption) | (with_reducible refine below_alloc ?_ _) | (with_reducible refine Below.drew ?_) | (with_reducible refine Below.setCell ?_ ?_ _) | (with_reducible refine below_after ?_ (by assumption)) | go_size)))).mono ?_); rintro e w2 ⟨rfl, hb2⟩)
        | (go_at_call 62; (with_reducible refine (K4.out _).mono ?_); rintro e w3 ⟨rfl, hb3⟩))
      go_returns
      exact ⟨rfl, by (repeat' (first | (with_reducible exact Below.refl _ _) | (with_reducible assumption) | (with_reducible refine below_alloc ?_ _) | (with_reducible refine Below.drew ?_) | (with_reducible refine Below.setCell ?_ ?_ _) | (with_reducible refine below_after ?_ (by assumption)) | go_size))⟩
end Go.Proofs.YtfmmnnodihpgmaaDoor
namespace Go.Proofs.YtfmmnnodihpgmaaDoor
set_option linter.all false
open Go Go.RowKit Wd
set_option maxRecDepth 100000
set_option maxHeartbeats 2000000 in
theorem vol6_in (g h np nf c d : Nat) (P F : Nat → Int) (hF : ∀ j, j < nf * 3 → 0 ≤ F j ∧ F j < np) (hn : np ≤ 1024) (hnf : nf ≤ 2048) (hP : ∀ j, j < np * 3 → -32768 ≤ P j ∧ P j ≤ 32768) (hS : Shutd F nf) (hv : 0 < ps (detF P F) (fun _ => 1) nf)
    (w : World) (hr : RowI w g (np * 3) P) (lg : g < w.heap.size) (hq : RowI w h (nf * 3) F) (lh : h < w.heap.size) :
    Calls Tryd.prog 23 #[.agg #[.slice (some ⟨g, 0, none⟩) np c, .slice (some ⟨h, 0, none⟩) nf d]] w fun e w' => e = .returned (.tuple #[(.agg #[.bool (zs (ps (detF P F) (fun _ => 1) nf)), .int .u64 (wd (Int.natAbs (ps (detF P F) (fun _ => 1) nf)) 0), .int .u64 (wd (Int.natAbs (ps (detF P F) (fun _ => 1) nf)) 1), .int .u64 (wd (Int.natAbs (ps (detF P F) (fun _ => 1) nf)) 2), .int .u64 (wd (Int.natAbs (ps (detF P F) (fun _ => 1) nf)) 3)]), .int .i64 0]) ∧ Below w.heap.size w w' := by
  have K1 := Lib.hid (fun (W : World) (hb : Below w.heap.size w W) => mcheck_in g h np nf c d P F hF hn hnf hP hS hv W (fun q hq' => (hb.cell (p := ⟨g, q, none⟩) lg).trans (hr q hq')) (keep_lt hb lg) (fun q hq' => (hb.cell (p := ⟨h, q, none⟩) lh).trans (hq q hq')) (keep_lt hb lh))
  have K3 := Lib.hid (fun (W : World) (hb : Below w.heap.size w W) => vol_any g h np nf c d P F hF (by omega) (by omega) hP W (fun q hq' => (hb.cell (p := ⟨g, q, none⟩) lg).trans (hr q hq')) (keep_lt hb lg) (fun q hq' => (hb.cell (p := ⟨h, q, none⟩) lh).trans (hq q hq')) (keep_lt hb lh))
  clear hF hP hS hv hr hq
  generalize ps (detF P F) (fun _ => 1) nf = t at *
  go_enter Tryd.func23, Tryd.ntmps23
  go_upto_region 1 with (fail)
  refine wp_world (fun x => (∀ o, x.cell? ⟨w.heap.size, o, none⟩ = (#[.slice (some ⟨g, 0, none⟩) np c, .slice (some ⟨h, 0, none⟩) nf d] : Array Value)[o]?) ∧ (∀ o, x.cell? ⟨w.heap.size + 1, o, none⟩ = (#[.bool false, .int .u64 0, .int .u64 0, .int .u64 0, .int .u64 0] : Array Value)[o]?) ∧ (∀ o, x.frozen? ⟨w.heap.size, o, none⟩ = false) ∧ (∀ o, x.frozen? ⟨w.heap.size + 1, o, none⟩ = false) ∧ w.heap.size < x.heap.size ∧ w.heap.size + 1 < x.heap.size ∧ Below w.heap.size w x) ⟨fun o => by simp [go_sem], fun o => by simp [go_sem], fun o => by simp [go_sem], fun o => by simp [go_sem], by (first | omega | (simp [go_sem]; done) | (simp [go_sem]; omega)), by (first | omega | (simp [go_sem]; done) | (simp [go_sem]; omega)), by (repeat' (first | (with_reducible exact Below.refl _ _) | (with_reducible assumption) | (with_reducible refine below_alloc ?_ _) | (with_reducible refine Below.drew ?_) | (with_reducible refine Below.setCell ?_ ?_ _) | (with_reducible refine below_after ?_ (by assumption)) | go_size))⟩ ?_
  rintro G ⟨hGc0, hGc1, hGf0, hGf1, hGz0, hGz1, hGb⟩
  go_wp2_with fail
  ((with_reducible refine (K1.out _ (by (repeat' (first | (with_reducible exact Below.refl _ _) | (with_reducible assumption) | (with_reducible refine below_alloc ?_ _) | (with_reducible refine Below.drew ?_) | (with_reducible refine Below.setCell ?_ ?_ _) | (with_reducible refine below_after ?_ (by assumption)) | go_size)))).mono ?_); rintro e w1 ⟨rfl, hb1⟩)
  have hk1 : Kp G.heap.size [] G w1 := (by (repeat (first | (with_reducible assumption) | (with_reducible exact Kp.refl (Nat.le_refl _)) | (with_reducible refine Kp.drew ?_) | (with_reducible refine Kp.alloc ?_ _) | ((with_reducible refine Kp.put ?_ ?_ _); focus (first | (left; go_size; done) | (right; simp; done))) | ((with_reducible apply Kp.later); (with_reducible assumption)))))
  have h1c0 := fun o => (hk1.cell _ o hGz0 (by simp)).trans (hGc0 o)
  have h1f0 := fun o => (hk1.froz _ o hGz0).trans (hGf0 o)
  have h1z0 := Nat.lt_of_lt_of_le hGz0 hk1.size
  have h1c1 := fun o => (hk1.cell _ o hGz1 (by simp)).trans (hGc1 o)
  have h1f1 := fun o => (hk1.froz _ o hGz1).trans (hGf1 o)
  have h1z1 := Nat.lt_of_lt_of_le hGz1 hk1.size
  go_wp2_with fail
  ((with_reducible refine (K3.out _ (by (repeat' (first | (with_reducible exact Below.refl _ _) | (with_reducible assumption) | (with_reducible refine below_alloc ?_ _) | (with_reducible refine Below.drew ?_) | (with_reducible refine Below.setCell ?_ ?_ _) | (with_reducible refine below_after ?_ (by assumption)) | go_size)))).mono ?_); rintro e w2 ⟨rfl, hb2⟩)
  have hk2 : Kp G.heap.size [] G w2 := (by (repeat (first | (with_reducible assumption) | (with_reducible exact Kp.refl (Nat.le_refl _)) | (with_reducible refine Kp.drew ?_) | (with_reducible refine Kp.alloc ?_ _) | ((with_reducible refine Kp.put ?_ ?_ _); focus (first | (left; go_size; done) | (right; simp; done))) | ((with_reducible apply Kp.later); (with_reducible assumption)))))
  have h2c0 := fun o => (hk2.cell _ o hGz0 (by simp)).trans (hGc0 o)
  have h2f0 := fun o => (hk2.froz _ o hGz0).trans (hGf0 o)
  have h2z0 := Nat.lt_of_lt_of_le hGz0 hk2.size
  have h2c1 := fun o => (hk2.cell _ o hGz1 (by simp)).trans (hGc1 o)
  have h2f1 := fun o => (hk2.froz _ o hGz1).trans (hGf1 o)
  have h2z1 := Nat.lt_of_lt_of_le hGz1 hk2.size
  go_wp2_with ((with_reducible show bodyPost _ _ _ _ _ _); refine bodyPost_ret (by simp [results, Tryd.results23, go_sem, h2c0, h2c1, h2f1, h2z1]; try rfl) rfl ?_; exact ⟨rfl, by (repeat' (first | (with_reducible exact Below.refl _ _) | (with_reducible assumption) | (with_reducible refine below_alloc ?_ _) | (with_reducible refine Below.drew ?_) | (with_reducible refine Below.setCell ?_ ?_ _) | (with_reducible refine below_after ?_ (by assumption)) | go_size))⟩)
/-- The sum of a coordinate over the corners of face j. -/
@[irreducible] def sumF (P F : Nat → Int) (q j : Nat) : Int := P ((F (j * 3)).toNat * 3 + q) + P ((F (j * 3 + 1)).toNat * 3 + q) + P ((F (j * 3 + 2)).toNat * 3 + q)
theorem sumF_eq (P F : Nat → Int) (q j : Nat) : sumF P F q j = P ((F (j * 3)).toNat * 3 + q) + P ((F (j * 3 + 1)).toNat * 3 + q) + P ((F (j * 3 + 2)).toNat * 3 + q) := by unfold sumF; rfl
theorem index3_0 (x y z : Int) (w : World) : (Instr.index 84 (.agg #[.int .i64 x, .int .i64 y, .int .i64 z]) (.int .i64 0)).run Tryd.prog w = .ok (.int .i64 x) w := rfl
theorem index3_1 (x y z : Int) (w : World) : (Instr.index 84 (.agg #[.int .i64 x, .int .i64 y, .int .i64 z]) (.int .i64 1)).run Tryd.prog w = .ok (.int .i64 y) w := rfl
theorem index3_2 (x y z : Int) (w : World) : (Instr.index 84 (.agg #[.int .i64 x, .int .i64 y, .int .i64 z]) (.int .i64 2)).run Tryd.prog w = .ok (.int .i64 z) w := rfl
set_option maxHeartbeats 4000000 in
theorem momf_0 (M I g h np nf c d : Nat) (P F : Nat → Int) (n j : Nat) (hj : j < n) (hF : ∀ j, j < n * 3 → 0 ≤ F j ∧ F j < np) (hn : np ≤ 100000) (hP : ∀ j, j < np * 3 → -32768 ≤ P j ∧ P j ≤ 32768) (w : World) (hr : RowI w g (np * 3) P) (lg : g < w.heap.size)
    (hM : ∀ o, w.cell? ⟨M, o, none⟩ = (#[.slice (some ⟨g, 0, none⟩) np c, .slice (some ⟨h, 0, none⟩) nf d] : Array Value)[o]?) (lM : M < w.heap.size) (hI : ∀ o, w.cell? ⟨I, o, none⟩ = (#[.int .i64 0] : Array Value)[o]?) (lI : I < w.heap.size) :
    Calls Tryd.prog 57 #[.agg #[.int .i64 (F (j * 3)), .int .i64 (F (j * 3 + 1)), .int .i64 (F (j * 3 + 2))], .pointer (some ⟨M, 0, none⟩), .pointer (some ⟨I, 0, none⟩)] w fun e w' => e = .returned (.tuple #[.int .i64 (detF P F j), .int .i64 (sumF P F 0 j)]) ∧ Below w.heap.size w w' := by
  have K := Lib.hid (fun W (hb : Below w.heap.size w W) => detj_any g np c P F n j hj hF hn hP W (fun q hq => (hb.cell (p := ⟨g, q, none⟩) lg).trans (hr q hq)) (keep_lt hb lg) (some ⟨h, 0, none⟩) nf d)
  have b0 := hF (j * 3) (by omega)
  have b1 := hF (j * 3 + 1) (by omega)
  have b2 := hF (j * 3 + 2) (by omega)
  have hs := Lib.hid (sumF_eq P F 0 j)
  obtain ⟨i0, e0⟩ : ∃ x : Nat, F (j * 3) = x := ⟨(F (j * 3)).toNat, by omega⟩
  obtain ⟨i1, e1⟩ : ∃ x : Nat, F (j * 3 + 1) = x := ⟨(F (j * 3 + 1)).toNat, by omega⟩
  obtain ⟨i2, e2⟩ : ∃ x : Nat, F (j * 3 + 2) = x := ⟨(F (j * 3 + 2)).toNat, by omega⟩
  rw [e0, e1, e2] at K ⊢
  rw [e0] at b0
  rw [e1] at b1
  rw [e2] at b2
  rw [e0, e1, e2] at hs
  simp only [Int.toNat_natCast] at hs
  have R := Lib.hid (show ∀ i : Nat, (i : Int) < np → ∀ W, Below w.heap.size w W → (W.cell? ⟨g, i * 3, none⟩ = some (.int .i64 (P (i * 3))) ∧ W.cell? ⟨g, i * 3 + 1, none⟩ = some (.int .i64 (P (i * 3 + 1))) ∧ W.cell? ⟨g, i * 3 + 2, none⟩ = some (.int .i64 (P (i * 3 + 2)))) ∧ (-32768 ≤ P (i * 3) ∧ P (i * 3) ≤ 32768) ∧ (-32768 ≤ P (i * 3 + 1) ∧ P (i * 3 + 1) ≤ 32768) ∧ (-32768 ≤ P (i * 3 + 2) ∧ P (i * 3 + 2) ≤ 32768) from fun i hi W hb =>
    ⟨⟨(hb.cell (p := ⟨g, i * 3, none⟩) lg).trans (hr _ (by omega)), (hb.cell (p := ⟨g, i * 3 + 1, none⟩) lg).trans (hr _ (by omega)), (hb.cell (p := ⟨g, i * 3 + 2, none⟩) lg).trans (hr _ (by omega))⟩, hP _ (by omega), hP _ (by omega), hP _ (by omega)⟩)
  have HC := Lib.hid (show ∀ W, Below w.heap.size w W → (∀ o, W.cell? ⟨M, o, none⟩ = (#[.slice (some ⟨g, 0, none⟩) np c, .slice (some ⟨h, 0, none⟩) nf d] : Array Value)[o]?) ∧ M < W.heap.size ∧ (∀ o, W.cell? ⟨I, o, none⟩ = (#[.int .i64 0] : Array Value)[o]?) ∧ I < W.heap.size ∧ g < W.heap.size from fun W hb => ⟨keep_cell hb lM hM, keep_lt hb lM, keep_cell hb lI hI, keep_lt hb lI, keep_lt hb lg⟩)
  clear hF hP hr e0 e1 e2 hM hI
  go_enter Tryd.func57, Tryd.ntmps57
  go_upto_region 2 with (fail)
  refine wp_world (fun x => (∀ o, x.cell? ⟨w.heap.size, o, none⟩ = (#[.int .i64 (i0 : Int), .int .i64 (i1 : Int), .int .i64 (i2 : Int)] : Array Value)[o]?) ∧ (∀ o, x.frozen? ⟨w.heap.size, o, none⟩ = false) ∧ w.heap.size < x.heap.size ∧ Below w.heap.size w x) ⟨fun o => by simp [go_sem], fun o => by simp [go_sem], by (first | omega | (simp [go_sem]; done) | (simp [go_sem]; omega)), by (repeat' (first | (with_reducible exact Below.refl _ _) | (with_reducible assumption) | (with_reducible refine below_alloc ?_ _) | (with_reducible refine Below.drew ?_) | (with_reducible refine Below.setCell ?_ ?_ _) | (with_reducible refine below_after ?_ (by assumption)) | go_size))⟩ ?_
  rintro G ⟨hGc0, hGf0, hGz0, hGb⟩
  have HG := Lib.hid hGb
  go_wp2
  go_loopg [6, 11] 3 (fun gg v6 v wr => ∃ i : Nat, i ≤ 3 ∧ 3 - i ≤ gg ∧ v = .int .i64 (i : Int) ∧ v6 = .int .i64 (if i = 0 then 0 else if i = 1 then P (i0 * 3 + 0) else if i = 2 then P (i0 * 3 + 0) + P (i1 * 3 + 0) else P (i0 * 3 + 0) + P (i1 * 3 + 0) + P (i2 * 3 + 0)) ∧ Hid (Below G.heap.size G wr))
  case atStart => exact ⟨0, by omega, by omega, rfl, rfl, Lib.hid (Below.refl _ _)⟩
  case round =>
    obtain ⟨i, hi, hgi, rfl, rfl, HB⟩ := hrel
    have hbw := below_after HG.out HB.out
    obtain ⟨mc, mz, ic, iz, gz⟩ := HC.out _ hbw
    have r0 := R.out i0 b0.2 _ hbw
    have r1 := R.out i1 b1.2 _ hbw
    have r2 := R.out i2 b2.2 _ hbw
    obtain ⟨⟨f00, f01, f02⟩, g00, g01, g02⟩ := r0
    obtain ⟨⟨f10, f11, f12⟩, g10, g11, g12⟩ := r1
    obtain ⟨⟨f20, f21, f22⟩, g20, g21, g22⟩ := r2
    have gc := keep_cell HB.out hGz0 hGc0
    have gcz := keep_lt HB.out hGz0
    (try simp only [Nat.add_zero] at hs)
    clear hGc0 hGf0 hGz0 hGb lM lI lg
    have hbG := HB.out
    have x0 := index3_0
    have x1 := index3_1
    have x2 := index3_2
    have b00 := b0.2
    have b10 := b1.2
    have b20 := b2.2
    rcases (by omega : i = 0 ∨ i = 1 ∨ i = 2 ∨ i = 3) with rfl | rfl | rfl | rfl
    · go_wp2
      go_roundg 2
      case rel => exact ⟨1, by omega, by omega, rfl, by simp, Lib.hid (by (repeat' (first | (with_reducible exact Below.refl _ _) | (with_reducible assumption) | (with_reducible refine below_alloc ?_ _) | (with_reducible refine Below.drew ?_) | (with_reducible refine Below.setCell ?_ ?_ _) | (with_reducible refine below_after ?_ (by assumption)) | go_size)))⟩
      case measure => omega
    · go_wp2
      go_roundg 1
      case rel => exact ⟨2, by omega, by omega, rfl, by simp, Lib.hid (by (repeat' (first | (with_reducible exact Below.refl _ _) | (with_reducible assumption) | (with_reducible refine below_alloc ?_ _) | (with_reducible refine Below.drew ?_) | (with_reducible refine Below.setCell ?_ ?_ _) | (with_reducible refine below_after ?_ (by assumption)) | go_size)))⟩
      case measure => omega
    · go_wp2
      go_roundg 0
      case rel => exact ⟨3, by omega, by omega, rfl, by simp, Lib.hid (by (repeat' (first | (with_reducible exact Below.refl _ _) | (with_reducible assumption) | (with_reducible refine below_alloc ?_ _) | (with_reducible refine Below.drew ?_) | (with_reducible refine Below.setCell ?_ ?_ _) | (with_reducible refine below_after ?_ (by assumption)) | go_size)))⟩
      case measure => omega
    · go_wp2_with (first | (go_at_call 58; (with_reducible refine (K.out _ (by (repeat' (first | (with_reducible exact Below.refl _ _) | (with_reducible assumption) | (with_reducible refine below_alloc ?_ _) | (with_reducible refine Below.drew ?_) | (with_reducible refine Below.setCell ?_ ?_ _) | (with_reducible refine below_after ?_ (by assumption)) | go_size)))).mono ?_); rintro e w1 ⟨rfl, hb1⟩))
      rw [hs.out]
      go_returns
      exact ⟨by simp, by (repeat' (first | (with_reducible exact Below.refl _ _) | (with_reducible assumption) | (with_reducible refine below_alloc ?_ _) | (with_reducible refine Below.drew ?_) | (with_reducible refine Below.setCell ?_ ?_ _) | (with_reducible refine below_after ?_ (by assumption)) | go_size))⟩
set_option maxHeartbeats 4000000 in
theorem momf_1 (M I g h np nf c d : Nat) (P F : Nat → Int) (n j : Nat) (hj : j < n) (hF : ∀ j, j < n * 3 → 0 ≤ F j ∧ F j < np) (hn : np ≤ 100000) (hP : ∀ j, j < np * 3 → -32768 ≤ P j ∧ P j ≤ 32768) (w : World) (hr : RowI w g (np * 3) P) (lg : g < w.heap.size)
    (hM : ∀ o, w.cell? ⟨M, o, none⟩ = (#[.slice (some ⟨g, 0, none⟩) np c, .slice (some ⟨h, 0, none⟩) nf d] : Array Value)[o]?) (lM : M < w.heap.size) (hI : ∀ o, w.cell? ⟨I, o, none⟩ = (#[.int .i64 1] : Array Value)[o]?) (lI : I < w.heap.size) :
    Calls Tryd.prog 57 #[.agg #[.int .i64 (F (j * 3)), .int .i64 (F (j * 3 + 1)), .int .i64 (F (j * 3 + 2))], .pointer (some ⟨M, 0, none⟩), .pointer (some ⟨I, 0, none⟩)] w fun e w' => e = .returned (.tuple #[.int .i64 (detF P F j), .int .i64 (sumF P F 1 j)]) ∧ Below w.heap.size w w' := by
  have K := Lib.hid (fun W (hb : Below w.heap.size w W) => detj_any g np c P F n j hj hF hn hP W (fun q hq => (hb.cell (p := ⟨g, q, none⟩) lg).trans (hr q hq)) (keep_lt hb lg) (some ⟨h, 0, none⟩) nf d)
  have b0 := hF (j * 3) (by omega)
  have b1 := hF (j * 3 + 1) (by omega)
  have b2 := hF (j * 3 + 2) (by omega)
  have hs := Lib.hid (sumF_eq P F 1 j)
  obtain ⟨i0, e0⟩ : ∃ x : Nat, F (j * 3) = x := ⟨(F (j * 3)).toNat, by omega⟩
  obtain ⟨i1, e1⟩ : ∃ x : Nat, F (j * 3 + 1) = x := ⟨(F (j * 3 + 1)).toNat, by omega⟩
  obtain ⟨i2, e2⟩ : ∃ x : Nat, F (j * 3 + 2) = x := ⟨(F (j * 3 + 2)).toNat, by omega⟩
  rw [e0, e1, e2] at K ⊢
  rw [e0] at b0
  rw [e1] at b1
  rw [e2] at b2
  rw [e0, e1, e2] at hs
  simp only [Int.toNat_natCast] at hs
  have R := Lib.hid (show ∀ i : Nat, (i : Int) < np → ∀ W, Below w.heap.size w W → (W.cell? ⟨g, i * 3, none⟩ = some (.int .i64 (P (i * 3))) ∧ W.cell? ⟨g, i * 3 + 1, none⟩ = some (.int .i64 (P (i * 3 + 1))) ∧ W.cell? ⟨g, i * 3 + 2, none⟩ = some (.int .i64 (P (i * 3 + 2)))) ∧ (-32768 ≤ P (i * 3) ∧ P (i * 3) ≤ 32768) ∧ (-32768 ≤ P (i * 3 + 1) ∧ P (i * 3 + 1) ≤ 32768) ∧ (-32768 ≤ P (i * 3 + 2) ∧ P (i * 3 + 2) ≤ 32768) from fun i hi W hb =>
    ⟨⟨(hb.cell (p := ⟨g, i * 3, none⟩) lg).trans (hr _ (by omega)), (hb.cell (p := ⟨g, i * 3 + 1, none⟩) lg).trans (hr _ (by omega)), (hb.cell (p := ⟨g, i * 3 + 2, none⟩) lg).trans (hr _ (by omega))⟩, hP _ (by omega), hP _ (by omega), hP _ (by omega)⟩)
  have HC := Lib.hid (show ∀ W, Below w.heap.size w W → (∀ o, W.cell? ⟨M, o, none⟩ = (#[.slice (some ⟨g, 0, none⟩) np c, .slice (some ⟨h, 0, none⟩) nf d] : Array Value)[o]?) ∧ M < W.heap.size ∧ (∀ o, W.cell? ⟨I, o, none⟩ = (#[.int .i64 1] : Array Value)[o]?) ∧ I < W.heap.size ∧ g < W.heap.size from fun W hb => ⟨keep_cell hb lM hM, keep_lt hb lM, keep_cell hb lI hI, keep_lt hb lI, keep_lt hb lg⟩)
  clear hF hP hr e0 e1 e2 hM hI
  go_enter Tryd.func57, Tryd.ntmps57
  go_upto_region 2 with (fail)
  refine wp_world (fun x => (∀ o, x.cell? ⟨w.heap.size, o, none⟩ = (#[.int .i64 (i0 : Int), .int .i64 (i1 : Int), .int .i64 (i2 : Int)] : Array Value)[o]?) ∧ (∀ o, x.frozen? ⟨w.heap.size, o, none⟩ = false) ∧ w.heap.size < x.heap.size ∧ Below w.heap.size w x) ⟨fun o => by simp [go_sem], fun o => by simp [go_sem], by (first | omega | (simp [go_sem]; done) | (simp [go_sem]; omega)), by (repeat' (first | (with_reducible exact Below.refl _ _) | (with_reducible assumption) | (with_reducible refine below_alloc ?_ _) | (with_reducible refine Below.drew ?_) | (with_reducible refine Below.setCell ?_ ?_ _) | (with_reducible refine below_after ?_ (by assumption)) | go_size))⟩ ?_
  rintro G ⟨hGc0, hGf0, hGz0, hGb⟩
  have HG := Lib.hid hGb
  go_wp2
  go_loopg [6, 11] 3 (fun gg v6 v wr => ∃ i : Nat, i ≤ 3 ∧ 3 - i ≤ gg ∧ v = .int .i64 (i : Int) ∧ v6 = .int .i64 (if i = 0 then 0 else if i = 1 then P (i0 * 3 + 1) else if i = 2 then P (i0 * 3 + 1) + P (i1 * 3 + 1) else P (i0 * 3 + 1) + P (i1 * 3 + 1) + P (i2 * 3 + 1)) ∧ Hid (Below G.heap.size G wr))
  case atStart => exact ⟨0, by omega, by omega, rfl, rfl, Lib.hid (Below.refl _ _)⟩
  case round =>
    obtain ⟨i, hi, hgi, rfl, rfl, HB⟩ := hrel
    have hbw := below_after HG.out HB.out
    obtain ⟨mc, mz, ic, iz, gz⟩ := HC.out _ hbw
    have r0 := R.out i0 b0.2 _ hbw
    have r1 := R.out i1 b1.2 _ hbw
    have r2 := R.out i2 b2.2 _ hbw
    obtain ⟨⟨f00, f01, f02⟩, g00, g01, g02⟩ := r0
    obtain ⟨⟨f10, f11, f12⟩, g10, g11, g12⟩ := r1
    obtain ⟨⟨f20, f21, f22⟩, g20, g21, g22⟩ := r2
    have gc := keep_cell HB.out hGz0 hGc0
    have gcz := keep_lt HB.out hGz0
    (try simp only [Nat.add_zero] at hs)
    clear hGc0 hGf0 hGz0 hGb lM lI lg
    have hbG := HB.out
    have x0 := index3_0
    have x1 := index3_1
    have x2 := index3_2
    have b00 := b0.2
    have b10 := b1.2
    have b20 := b2.2
    rcases (by omega : i = 0 ∨ i = 1 ∨ i = 2 ∨ i = 3) with rfl | rfl | rfl | rfl
    · go_wp2
      go_roundg 2
      case rel => exact ⟨1, by omega, by omega, rfl, by simp, Lib.hid (by (repeat' (first | (with_reducible exact Below.refl _ _) | (with_reducible assumption) | (with_reducible refine below_alloc ?_ _) | (with_reducible refine Below.drew ?_) | (with_reducible refine Below.setCell ?_ ?_ _) | (with_reducible refine below_after ?_ (by assumption)) | go_size)))⟩
      case measure => omega
    · go_wp2
      go_roundg 1
      case rel => exact ⟨2, by omega, by omega, rfl, by simp, Lib.hid (by (repeat' (first | (with_reducible exact Below.refl _ _) | (with_reducible assumption) | (with_reducible refine below_alloc ?_ _) | (with_reducible refine Below.drew ?_) | (with_reducible refine Below.setCell ?_ ?_ _) | (with_reducible refine below_after ?_ (by assumption)) | go_size)))⟩
      case measure => omega
    · go_wp2
      go_roundg 0
      case rel => exact ⟨3, by omega, by omega, rfl, by simp, Lib.hid (by (repeat' (first | (with_reducible exact Below.refl _ _) | (with_reducible assumption) | (with_reducible refine below_alloc ?_ _) | (with_reducible refine Below.drew ?_) | (with_reducible refine Below.setCell ?_ ?_ _) | (with_reducible refine below_after ?_ (by assumption)) | go_size)))⟩
      case measure => omega
    · go_wp2_with (first | (go_at_call 58; (with_reducible refine (K.out _ (by (repeat' (first | (with_reducible exact Below.refl _ _) | (with_reducible assumption) | (with_reducible refine below_alloc ?_ _) | (with_reducible refine Below.drew ?_) | (with_reducible refine Below.setCell ?_ ?_ _) | (with_reducible refine below_after ?_ (by assumption)) | go_size)))).mono ?_); rintro e w1 ⟨rfl, hb1⟩))
      rw [hs.out]
      go_returns
      exact ⟨by simp, by (repeat' (first | (with_reducible exact Below.refl _ _) | (with_reducible assumption) | (with_reducible refine below_alloc ?_ _) | (with_reducible refine Below.drew ?_) | (with_reducible refine Below.setCell ?_ ?_ _) | (with_reducible refine below_after ?_ (by assumption)) | go_size))⟩
set_option maxHeartbeats 4000000 in
theorem momf_2 (M I g h np nf c d : Nat) (P F : Nat → Int) (n j : Nat) (hj : j < n) (hF : ∀ j, j < n * 3 → 0 ≤ F j ∧ F j < np) (hn : np ≤ 100000) (hP : ∀ j, j < np * 3 → -32768 ≤ P j ∧ P j ≤ 32768) (w : World) (hr : RowI w g (np * 3) P) (lg : g < w.heap.size)
    (hM : ∀ o, w.cell? ⟨M, o, none⟩ = (#[.slice (some ⟨g, 0, none⟩) np c, .slice (some ⟨h, 0, none⟩) nf d] : Array Value)[o]?) (lM : M < w.heap.size) (hI : ∀ o, w.cell? ⟨I, o, none⟩ = (#[.int .i64 2] : Array Value)[o]?) (lI : I < w.heap.size) :
    Calls Tryd.prog 57 #[.agg #[.int .i64 (F (j * 3)), .int .i64 (F (j * 3 + 1)), .int .i64 (F (j * 3 + 2))], .pointer (some ⟨M, 0, none⟩), .pointer (some ⟨I, 0, none⟩)] w fun e w' => e = .returned (.tuple #[.int .i64 (detF P F j), .int .i64 (sumF P F 2 j)]) ∧ Below w.heap.size w w' := by
  have K := Lib.hid (fun W (hb : Below w.heap.size w W) => detj_any g np c P F n j hj hF hn hP W (fun q hq => (hb.cell (p := ⟨g, q, none⟩) lg).trans (hr q hq)) (keep_lt hb lg) (some ⟨h, 0, none⟩) nf d)
  have b0 := hF (j * 3) (by omega)
  have b1 := hF (j * 3 + 1) (by omega)
  have b2 := hF (j * 3 + 2) (by omega)
  have hs := Lib.hid (sumF_eq P F 2 j)
  obtain ⟨i0, e0⟩ : ∃ x : Nat, F (j * 3) = x := ⟨(F (j * 3)).toNat, by omega⟩
  obtain ⟨i1, e1⟩ : ∃ x : Nat, F (j * 3 + 1) = x := ⟨(F (j * 3 + 1)).toNat, by omega⟩
  obtain ⟨i2, e2⟩ : ∃ x : Nat, F (j * 3 + 2) = x := ⟨(F (j * 3 + 2)).toNat, by omega⟩
  rw [e0, e1, e2] at K ⊢
  rw [e0] at b0
  rw [e1] at b1
  rw [e2] at b2
  rw [e0, e1, e2] at hs
  simp only [Int.toNat_natCast] at hs
  have R := Lib.hid (show ∀ i : Nat, (i : Int) < np → ∀ W, Below w.heap.size w W → (W.cell? ⟨g, i * 3, none⟩ = some (.int .i64 (P (i * 3))) ∧ W.cell? ⟨g, i * 3 + 1, none⟩ = some (.int .i64 (P (i * 3 + 1))) ∧ W.cell? ⟨g, i * 3 + 2, none⟩ = some (.int .i64 (P (i * 3 + 2)))) ∧ (-32768 ≤ P (i * 3) ∧ P (i * 3) ≤ 32768) ∧ (-32768 ≤ P (i * 3 + 1) ∧ P (i * 3 + 1) ≤ 32768) ∧ (-32768 ≤ P (i * 3 + 2) ∧ P (i * 3 + 2) ≤ 32768) from fun i hi W hb =>
    ⟨⟨(hb.cell (p := ⟨g, i * 3, none⟩) lg).trans (hr _ (by omega)), (hb.cell (p := ⟨g, i * 3 + 1, none⟩) lg).trans (hr _ (by omega)), (hb.cell (p := ⟨g, i * 3 + 2, none⟩) lg).trans (hr _ (by omega))⟩, hP _ (by omega), hP _ (by omega), hP _ (by omega)⟩)
  have HC := Lib.hid (show ∀ W, Below w.heap.size w W → (∀ o, W.cell? ⟨M, o, none⟩ = (#[.slice (some ⟨g, 0, none⟩) np c, .slice (some ⟨h, 0, none⟩) nf d] : Array Value)[o]?) ∧ M < W.heap.size ∧ (∀ o, W.cell? ⟨I, o, none⟩ = (#[.int .i64 2] : Array Value)[o]?) ∧ I < W.heap.size ∧ g < W.heap.size from fun W hb => ⟨keep_cell hb lM hM, keep_lt hb lM, keep_cell hb lI hI, keep_lt hb lI, keep_lt hb lg⟩)
  clear hF hP hr e0 e1 e2 hM hI
  go_enter Tryd.func57, Tryd.ntmps57
  go_upto_region 2 with (fail)
  refine wp_world (fun x => (∀ o, x.cell? ⟨w.heap.size, o, none⟩ = (#[.int .i64 (i0 : Int), .int .i64 (i1 : Int), .int .i64 (i2 : Int)] : Array Value)[o]?) ∧ (∀ o, x.frozen? ⟨w.heap.size, o, none⟩ = false) ∧ w.heap.size < x.heap.size ∧ Below w.heap.size w x) ⟨fun o => by simp [go_sem], fun o => by simp [go_sem], by (first | omega | (simp [go_sem]; done) | (simp [go_sem]; omega)), by (repeat' (first | (with_reducible exact Below.refl _ _) | (with_reducible assumption) | (with_reducible refine below_alloc ?_ _) | (with_reducible refine Below.drew ?_) | (with_reducible refine Below.setCell ?_ ?_ _) | (with_reducible refine below_after ?_ (by assumption)) | go_size))⟩ ?_
  rintro G ⟨hGc0, hGf0, hGz0, hGb⟩
  have HG := Lib.hid hGb
  go_wp2
  go_loopg [6, 11] 3 (fun gg v6 v wr => ∃ i : Nat, i ≤ 3 ∧ 3 - i ≤ gg ∧ v = .int .i64 (i : Int) ∧ v6 = .int .i64 (if i = 0 then 0 else if i = 1 then P (i0 * 3 + 2) else if i = 2 then P (i0 * 3 + 2) + P (i1 * 3 + 2) else P (i0 * 3 + 2) + P (i1 * 3 + 2) + P (i2 * 3 + 2)) ∧ Hid (Below G.heap.size G wr))
  case atStart => exact ⟨0, by omega, by omega, rfl, rfl, Lib.hid (Below.refl _ _)⟩
  case round =>
    obtain ⟨i, hi, hgi, rfl, rfl, HB⟩ := hrel
    have hbw := below_after HG.out HB.out
    obtain ⟨mc, mz, ic, iz, gz⟩ := HC.out _ hbw
    have r0 := R.out i0 b0.2 _ hbw
    have r1 := R.out i1 b1.2 _ hbw
    have r2 := R.out i2 b2.2 _ hbw
    obtain ⟨⟨f00, f01, f02⟩, g00, g01, g02⟩ := r0
    obtain ⟨⟨f10, f11, f12⟩, g10, g11, g12⟩ := r1
    obtain ⟨⟨f20, f21, f22⟩, g20, g21, g22⟩ := r2
    have gc := keep_cell HB.out hGz0 hGc0
    have gcz := keep_lt HB.out hGz0
    (try simp only [Nat.add_zero] at hs)
    clear hGc0 hGf0 hGz0 hGb lM lI lg
    have hbG := HB.out
    have x0 := index3_0
    have x1 := index3_1
    have x2 := index3_2
    have b00 := b0.2
    have b10 := b1.2
    have b20 := b2.2
    rcases (by omega : i = 0 ∨ i = 1 ∨ i = 2 ∨ i = 3) with rfl | rfl | rfl | rfl
    · go_wp2
      go_roundg 2
      case rel => exact ⟨1, by omega, by omega, rfl, by simp, Lib.hid (by (repeat' (first | (with_reducible exact Below.refl _ _) | (with_reducible assumption) | (with_reducible refine below_alloc ?_ _) | (with_reducible refine Below.drew ?_) | (with_reducible refine Below.setCell ?_ ?_ _) | (with_reducible refine below_after ?_ (by assumption)) | go_size)))⟩
      case measure => omega
    · go_wp2
      go_roundg 1
      case rel => exact ⟨2, by omega, by omega, rfl, by simp, Lib.hid (by (repeat' (first | (with_reducible exact Below.refl _ _) | (with_reducible assumption) | (with_reducible refine below_alloc ?_ _) | (with_reducible refine Below.drew ?_) | (with_reducible refine Below.setCell ?_ ?_ _) | (with_reducible refine below_after ?_ (by assumption)) | go_size)))⟩
      case measure => omega
    · go_wp2
      go_roundg 0
      case rel => exact ⟨3, by omega, by omega, rfl, by simp, Lib.hid (by (repeat' (first | (with_reducible exact Below.refl _ _) | (with_reducible assumption) | (with_reducible refine below_alloc ?_ _) | (with_reducible refine Below.drew ?_) | (with_reducible refine Below.setCell ?_ ?_ _) | (with_reducible refine below_after ?_ (by assumption)) | go_size)))⟩
      case measure => omega
    · go_wp2_with (first | (go_at_call 58; (with_reducible refine (K.out _ (by (repeat' (first | (with_reducible exact Below.refl _ _) | (with_reducible assumption) | (with_reducible refine below_alloc ?_ _) | (with_reducible refine Below.drew ?_) | (with_reducible refine Below.setCell ?_ ?_ _) | (with_reducible refine below_after ?_ (by assumption)) | go_size)))).mono ?_); rintro e w1 ⟨rfl, hb1⟩))
      rw [hs.out]
      go_returns
      exact ⟨by simp, by (repeat' (first | (with_reducible exact Below.refl _ _) | (with_reducible assumption) | (with_reducible refine below_alloc ?_ _) | (with_reducible refine Below.drew ?_) | (with_reducible refine Below.setCell ?_ ?_ _) | (with_reducible refine below_after ?_ (by assumption)) | go_size))⟩
end Go.Proofs.YtfmmnnodihpgmaaDoor
namespace Go.Proofs.YtfmmnnodihpgmaaDoor
set_option linter.all false
open Go Go.RowKit Wd
set_option maxRecDepth 100000
theorem chk_some {X Z : List Int} {H : List (List Int)} (h : chk X Z H = 0) : ∃ i k, i < X.length ∧ k < Z.length ∧ 0 < ix (row H i) k := by
  have hv := chk_fine h
  have hn : rowsNil H H.length ≠ true := by
    intro hn
    unfold chk at h
    split at h
    · omega
    split at h
    · omega
    split at h
    · omega
    split at h
    · omega
    split at h
    · omega
    split at h
    · omega
    omega
  have hn2 : rowsNil H H.length = false := by simpa using hn
  unfold rowsNil at hn2
  rw [List.take_length, List.all_eq_false] at hn2
  obtain ⟨l, hl, h0⟩ := hn2
  unfold nil0 at h0
  have h1 : l.all (fun x => decide (x = 0)) = false := by simpa using h0
  rw [List.all_eq_false] at h1
  obtain ⟨x, hx, hx0⟩ := h1
  obtain ⟨i, hi, rfl⟩ := List.mem_iff_getElem.1 hl
  obtain ⟨k, hk, rfl⟩ := List.mem_iff_getElem.1 hx
  have hk2 : k < Z.length := by rw [← hv.hr i hi, row_get hi]; exact hk
  refine ⟨i, k, by rw [← hv.hl]; exact hi, hk2, ?_⟩
  have hb := hv.hv i hi k hk2
  have e : ix (row H i) k = H[i][k] := by rw [row_get hi, ix_get hk]
  rw [e] at hb ⊢
  have : H[i][k] ≠ 0 := by simpa using hx0
  omega
/-- The coordinates of the points, one after the other. -/
@[irreducible] def pP (X Z : List Int) (H : List (List Int)) (j : Nat) : Int := intOf ((ptsP X Z H 2).getD j (.int .i64 0))
theorem pP_0 (X Z : List Int) (H : List (List Int)) (N M : Nat) (hX : X.length = N + 1) (hZ : Z.length = M + 1) (p : Sf.Pt) (hp : Sf.Okp N M p) : pP X Z H (Sf.idx N M p * 3) = ix X p.2.1 := by
  have := pts_get X Z H N M hX hZ p.1 p.2.1 p.2.2 0 hp.1 hp.2.1 hp.2.2 (by omega)
  unfold pP
  rw [List.getD_eq_getElem?_getD, show Sf.idx N M p * 3 = Sf.idx N M (p.1, p.2.1, p.2.2) * 3 + 0 from rfl, this]
  simp [vec3, intOf]
theorem pP_1 (X Z : List Int) (H : List (List Int)) (N M : Nat) (hX : X.length = N + 1) (hZ : Z.length = M + 1) (p : Sf.Pt) (hp : Sf.Okp N M p) : pP X Z H (Sf.idx N M p * 3 + 1) = Sf.py (fun i k => ix (row H i) k) p := by
  have := pts_get X Z H N M hX hZ p.1 p.2.1 p.2.2 1 hp.1 hp.2.1 hp.2.2 (by omega)
  unfold pP Sf.py
  rw [List.getD_eq_getElem?_getD, show Sf.idx N M p * 3 + 1 = Sf.idx N M (p.1, p.2.1, p.2.2) * 3 + 1 from rfl, this]
  unfold sg
  split <;> simp [vec3, intOf]
theorem pP_2 (X Z : List Int) (H : List (List Int)) (N M : Nat) (hX : X.length = N + 1) (hZ : Z.length = M + 1) (p : Sf.Pt) (hp : Sf.Okp N M p) : pP X Z H (Sf.idx N M p * 3 + 2) = ix Z p.2.2 := by
  have := pts_get X Z H N M hX hZ p.1 p.2.1 p.2.2 2 hp.1 hp.2.1 hp.2.2 (by omega)
  unfold pP
  rw [List.getD_eq_getElem?_getD, show Sf.idx N M p * 3 + 2 = Sf.idx N M (p.1, p.2.1, p.2.2) * 3 + 2 from rfl, this]
  simp [vec3, intOf]
theorem ptsP_len (X Z : List Int) (H : List (List Int)) : (ptsP X Z H 2).length = 2 * (X.length * Z.length) * 3 := by
  unfold ptsP
  rw [Sf.len_flat _ (Z.length * 3 * X.length) (fun j => sideP_len' X Z H (sg j) X.length), Nat.mul_comm Z.length 3, Nat.mul_assoc 3, Nat.mul_comm Z.length X.length]
  omega
/-- Each number of the points is in range. -/
theorem pP_abs {X Z : List Int} {H : List (List Int)} (hv : Fine X Z H) (j : Nat) (_hj : j < 2 * (X.length * Z.length) * 3) : -32768 ≤ pP X Z H j ∧ pP X Z H j ≤ 32768 := by
  have key : ∀ u ∈ ptsP X Z H 2, -32768 ≤ intOf u ∧ intOf u ≤ 32768 := by
    intro u hu
    unfold ptsP at hu
    obtain ⟨s, -, hu⟩ := List.mem_flatMap.1 hu
    unfold sideP at hu
    obtain ⟨i, hi, hu⟩ := List.mem_flatMap.1 hu
    unfold rowP at hu
    obtain ⟨k, hk, hu⟩ := List.mem_flatMap.1 hu
    rw [List.mem_range] at hi hk
    have h1 := hv.xr i hi
    have h2 := hv.zr k hk
    have h3 := hv.hv i (by rw [hv.hl]; exact hi) k hk
    have h4 := sg_bounds s
    unfold vec3 at hu
    simp only [List.mem_cons, List.not_mem_nil, or_false] at hu
    rcases hu with rfl | rfl | rfl <;> simp only [intOf]
    · omega
    · have := abs_mul_le (a := sg s) (b := ix (row H i) k) (m := 1) (k := 4096) (by omega) (by omega) (by omega) (by omega)
      omega
    · omega
  unfold pP
  rw [List.getD_eq_getElem?_getD]
  by_cases h : j < (ptsP X Z H 2).length
  · rw [List.getElem?_eq_getElem h]
    exact key _ (List.getElem_mem h)
  · rw [List.getElem?_eq_none (by omega)]
    simp [intOf]
theorem ps_su (A B : Nat → Int) (g : Sf.Fc → Int) (l : List Sf.Fc) (h : ∀ j (hj : j < l.length), A j * B j = g l[j]) : ps A B l.length = Sf.su g l := by
  have key : ∀ k, k ≤ l.length → ps A B k = Sf.su g (l.take k) := by
    intro k
    induction k with
    | zero => intro _; rw [ps_zero]; rfl
    | succ k ih =>
      intro hk
      rw [ps_succ, Sf.su_take g l k (by omega), ih (by omega), h k (by omega)]
  rw [key _ (Nat.le_refl _), List.take_length]
/-- What is known of the surface of a form that passes. -/
structure Surf (X Z : List Int) (H : List (List Int)) (np nf : Nat) (P F : Nat → Int) : Prop where
  hp : np ≤ 1024
  hf : nf ≤ 2048
  inn : ∀ j, j < nf * 3 → 0 ≤ F j ∧ F j < np
  abs : ∀ j, j < np * 3 → -32768 ≤ P j ∧ P j ≤ 32768
  shut : Shutd F nf
  vol : 0 < ps (detF P F) (fun _ => 1) nf
  mid : ps (detF P F) (sumF P F 1) nf = 0
  box : ∀ b, (∀ i k, i < X.length → k < Z.length → ix (row H i) k = b) → ps (detF P F) (fun _ => 1) nf = 12 * b * ((ix X (X.length - 1) - ix X 0) * ix Z (Z.length - 1))
theorem surf_of {X Z : List Int} {H : List (List Int)} (h : chk X Z H = 0) : Surf X Z H (2 * (X.length * Z.length)) (4 * (Z.length - 1) * (X.length - 1) + 4 * (X.length - 1) + 4 * (Z.length - 1)) (pP X Z H) (Sf.cF (X.length - 1) (Z.length - 1)) := by
  have hv := chk_fine h
  obtain ⟨N, hN⟩ : ∃ N, X.length = N + 1 := ⟨X.length - 1, by have := hv.x2; omega⟩
  obtain ⟨M, hM⟩ : ∃ M, Z.length = M + 1 := ⟨Z.length - 1, by have := hv.z2; omega⟩
  have hN1 : 0 < N := by have := hv.x2; omega
  have hM1 : 0 < M := by have := hv.z2; omega
  have hN2 : N ≤ 23 := by have := hv.x24; omega
  have hM2 : M ≤ 15 := by have := hv.z16; omega
  have habs := fun j hj => pP_abs hv j hj
  have eX : X.length - 1 = N := by omega
  have eZ : Z.length - 1 = M := by omega
  rw [eX, eZ, ← Sf.faces_len N M]
  rw [hN, hM] at habs
  have hmul : (N + 1) * (M + 1) ≤ 24 * 16 := Nat.mul_le_mul (by omega) (by omega)
  have hmul2 : M * N ≤ 15 * 23 := Nat.mul_le_mul (by omega) (by omega)
  have hinn : ∀ j, j < (Sf.faces N M).length * 3 → 0 ≤ Sf.cF N M j ∧ Sf.cF N M j < ((2 * ((N + 1) * (M + 1)) : Nat) : Int) := by
    intro j hj
    obtain ⟨x, h1, h2, -⟩ := Sf.eg_edge N M j (by omega)
    have := Sf.idx_lt (Sf.edge_ok N M x (edge_mem h1)).1
    rw [h2]
    omega
  have hdet : ∀ j (hj : j < (Sf.faces N M).length), detF (pP X Z H) (Sf.cF N M) j = Sf.fdet (ix X) (ix Z) (fun i k => ix (row H i) k) (Sf.faces N M)[j] := by
    intro j hj
    have ok := Sf.face_ok (List.getElem_mem hj)
    unfold detF
    rw [Nat.mul_comm j 3, Sf.cF_0 N M j hj, Sf.cF_1 N M j hj, Sf.cF_2 N M j hj]
    simp only [Int.toNat_natCast]
    rw [pP_0 X Z H N M hN hM _ ok.1, pP_1 X Z H N M hN hM _ ok.1, pP_2 X Z H N M hN hM _ ok.1, pP_0 X Z H N M hN hM _ ok.2.1, pP_1 X Z H N M hN hM _ ok.2.1, pP_2 X Z H N M hN hM _ ok.2.1, pP_0 X Z H N M hN hM _ ok.2.2, pP_1 X Z H N M hN hM _ ok.2.2, pP_2 X Z H N M hN hM _ ok.2.2]
    unfold Sf.fdet det3 Sf.det3
    rfl
  have hsum : ∀ j (hj : j < (Sf.faces N M).length), sumF (pP X Z H) (Sf.cF N M) 1 j = Sf.fy (fun i k => ix (row H i) k) (Sf.faces N M)[j] := by
    intro j hj
    have ok := Sf.face_ok (List.getElem_mem hj)
    rw [sumF_eq, Nat.mul_comm j 3, Sf.cF_0 N M j hj, Sf.cF_1 N M j hj, Sf.cF_2 N M j hj]
    simp only [Int.toNat_natCast]
    rw [pP_1 X Z H N M hN hM _ ok.1, pP_1 X Z H N M hN hM _ ok.2.1, pP_1 X Z H N M hN hM _ ok.2.2]
    rfl
  have hvol := ps_su (detF (pP X Z H) (Sf.cF N M)) (fun _ => 1) (Sf.fdet (ix X) (ix Z) (fun i k => ix (row H i) k)) (Sf.faces N M) (fun j hj => by rw [hdet j hj]; omega)
  refine ⟨by rw [hN, hM]; omega, by rw [Sf.faces_len, Nat.mul_assoc]; omega, by rw [hN, hM]; exact hinn, by rw [hN, hM]; exact habs, shut_hull N M hN1 hM1 hN2 hM2, ?_, ?_, ?_⟩
  · rw [hvol]
    obtain ⟨i, k, hi, hk, hp⟩ := chk_some h
    exact Sf.vol_pos _ _ _ N M (fun i hi => hv.xa i (by omega)) (fun k hk => hv.za k (by omega)) (fun i k hi hk => (hv.hv i (by rw [hv.hl]; omega) k (by omega)).1) hN1 hM1 i k (by omega) (by omega) hp
  · rw [ps_su _ _ (fun f => Sf.fdet (ix X) (ix Z) (fun i k => ix (row H i) k) f * Sf.fy (fun i k => ix (row H i) k) f) (Sf.faces N M) (fun j hj => by rw [hdet j hj, hsum j hj])]
    exact Sf.mid _ _ _ N M
  · intro b hb
    rw [hvol, Sf.vol_box _ _ b N M _ (fun i k hi hk => hb i k (by omega) (by omega)), hv.z0, Int.sub_zero, eX, eZ]
end Go.Proofs.YtfmmnnodihpgmaaDoor
namespace Go.Proofs.YtfmmnnodihpgmaaDoor
set_option linter.all false
open Go Go.RowKit Wd
set_option maxRecDepth 100000
theorem sumF_abs {P F : Nat → Int} {np n : Nat} (q : Nat) (hq : q < 3) (hF : ∀ j, j < n * 3 → 0 ≤ F j ∧ F j < np) (hP : ∀ j, j < np * 3 → -32768 ≤ P j ∧ P j ≤ 32768) (j : Nat) (hj : j < n) : -1048576 ≤ sumF P F q j ∧ sumF P F q j ≤ 1048576 := by
  have f0 := hF (j * 3) (by omega)
  have f1 := hF (j * 3 + 1) (by omega)
  have f2 := hF (j * 3 + 2) (by omega)
  have p0 := hP ((F (j * 3)).toNat * 3 + q) (by omega)
  have p1 := hP ((F (j * 3 + 1)).toNat * 3 + q) (by omega)
  have p2 := hP ((F (j * 3 + 2)).toNat * 3 + q) (by omega)
  rw [sumF_eq]
  omega
theorem at15_0 {wr : World} {B : Nat} {v0 v1 v2 v3 v4 x0 x1 x2 x3 x4 x5 x6 x7 x8 x9 x10 x11 x12 x13 x14 : Value} (h : ∀ o, wr.cell? ⟨B, o, none⟩ = (#[x0, x1, x2, x3, x4, x5, x6, x7, x8, x9, x10, x11, x12, x13, x14] : Array Value)[o]?) : ∀ o, (((((wr.setCell ⟨B, 0, none⟩ v0).setCell ⟨B, 1, none⟩ v1).setCell ⟨B, 2, none⟩ v2).setCell ⟨B, 3, none⟩ v3).setCell ⟨B, 4, none⟩ v4).cell? ⟨B, o, none⟩ = (#[v0, v1, v2, v3, v4, x5, x6, x7, x8, x9, x10, x11, x12, x13, x14] : Array Value)[o]? := by
  have h0 := set_at (i := 0) (v := v0) h
  rw [show (#[x0, x1, x2, x3, x4, x5, x6, x7, x8, x9, x10, x11, x12, x13, x14] : Array Value).setIfInBounds 0 v0 = #[v0, x1, x2, x3, x4, x5, x6, x7, x8, x9, x10, x11, x12, x13, x14] from rfl] at h0
  have h1 := set_at (i := 1) (v := v1) h0
  rw [show (#[v0, x1, x2, x3, x4, x5, x6, x7, x8, x9, x10, x11, x12, x13, x14] : Array Value).setIfInBounds 1 v1 = #[v0, v1, x2, x3, x4, x5, x6, x7, x8, x9, x10, x11, x12, x13, x14] from rfl] at h1
  have h2 := set_at (i := 2) (v := v2) h1
  rw [show (#[v0, v1, x2, x3, x4, x5, x6, x7, x8, x9, x10, x11, x12, x13, x14] : Array Value).setIfInBounds 2 v2 = #[v0, v1, v2, x3, x4, x5, x6, x7, x8, x9, x10, x11, x12, x13, x14] from rfl] at h2
  have h3 := set_at (i := 3) (v := v3) h2
  rw [show (#[v0, v1, v2, x3, x4, x5, x6, x7, x8, x9, x10, x11, x12, x13, x14] : Array Value).setIfInBounds 3 v3 = #[v0, v1, v2, v3, x4, x5, x6, x7, x8, x9, x10, x11, x12, x13, x14] from rfl] at h3
  have h4 := set_at (i := 4) (v := v4) h3
  rw [show (#[v0, v1, v2, v3, x4, x5, x6, x7, x8, x9, x10, x11, x12, x13, x14] : Array Value).setIfInBounds 4 v4 = #[v0, v1, v2, v3, v4, x5, x6, x7, x8, x9, x10, x11, x12, x13, x14] from rfl] at h4
  exact h4
theorem at15_1 {wr : World} {B : Nat} {v0 v1 v2 v3 v4 x0 x1 x2 x3 x4 x5 x6 x7 x8 x9 x10 x11 x12 x13 x14 : Value} (h : ∀ o, wr.cell? ⟨B, o, none⟩ = (#[x0, x1, x2, x3, x4, x5, x6, x7, x8, x9, x10, x11, x12, x13, x14] : Array Value)[o]?) : ∀ o, (((((wr.setCell ⟨B, 5, none⟩ v0).setCell ⟨B, 6, none⟩ v1).setCell ⟨B, 7, none⟩ v2).setCell ⟨B, 8, none⟩ v3).setCell ⟨B, 9, none⟩ v4).cell? ⟨B, o, none⟩ = (#[x0, x1, x2, x3, x4, v0, v1, v2, v3, v4, x10, x11, x12, x13, x14] : Array Value)[o]? := by
  have h0 := set_at (i := 5) (v := v0) h
  rw [show (#[x0, x1, x2, x3, x4, x5, x6, x7, x8, x9, x10, x11, x12, x13, x14] : Array Value).setIfInBounds 5 v0 = #[x0, x1, x2, x3, x4, v0, x6, x7, x8, x9, x10, x11, x12, x13, x14] from rfl] at h0
  have h1 := set_at (i := 6) (v := v1) h0
  rw [show (#[x0, x1, x2, x3, x4, v0, x6, x7, x8, x9, x10, x11, x12, x13, x14] : Array Value).setIfInBounds 6 v1 = #[x0, x1, x2, x3, x4, v0, v1, x7, x8, x9, x10, x11, x12, x13, x14] from rfl] at h1
  have h2 := set_at (i := 7) (v := v2) h1
  rw [show (#[x0, x1, x2, x3, x4, v0, v1, x7, x8, x9, x10, x11, x12, x13, x14] : Array Value).setIfInBounds 7 v2 = #[x0, x1, x2, x3, x4, v0, v1, v2, x8, x9, x10, x11, x12, x13, x14] from rfl] at h2
  have h3 := set_at (i := 8) (v := v3) h2
  rw [show (#[x0, x1, x2, x3, x4, v0, v1, v2, x8, x9, x10, x11, x12, x13, x14] : Array Value).setIfInBounds 8 v3 = #[x0, x1, x2, x3, x4, v0, v1, v2, v3, x9, x10, x11, x12, x13, x14] from rfl] at h3
  have h4 := set_at (i := 9) (v := v4) h3
  rw [show (#[x0, x1, x2, x3, x4, v0, v1, v2, v3, x9, x10, x11, x12, x13, x14] : Array Value).setIfInBounds 9 v4 = #[x0, x1, x2, x3, x4, v0, v1, v2, v3, v4, x10, x11, x12, x13, x14] from rfl] at h4
  exact h4
theorem at15_2 {wr : World} {B : Nat} {v0 v1 v2 v3 v4 x0 x1 x2 x3 x4 x5 x6 x7 x8 x9 x10 x11 x12 x13 x14 : Value} (h : ∀ o, wr.cell? ⟨B, o, none⟩ = (#[x0, x1, x2, x3, x4, x5, x6, x7, x8, x9, x10, x11, x12, x13, x14] : Array Value)[o]?) : ∀ o, (((((wr.setCell ⟨B, 10, none⟩ v0).setCell ⟨B, 11, none⟩ v1).setCell ⟨B, 12, none⟩ v2).setCell ⟨B, 13, none⟩ v3).setCell ⟨B, 14, none⟩ v4).cell? ⟨B, o, none⟩ = (#[x0, x1, x2, x3, x4, x5, x6, x7, x8, x9, v0, v1, v2, v3, v4] : Array Value)[o]? := by
  have h0 := set_at (i := 10) (v := v0) h
  rw [show (#[x0, x1, x2, x3, x4, x5, x6, x7, x8, x9, x10, x11, x12, x13, x14] : Array Value).setIfInBounds 10 v0 = #[x0, x1, x2, x3, x4, x5, x6, x7, x8, x9, v0, x11, x12, x13, x14] from rfl] at h0
  have h1 := set_at (i := 11) (v := v1) h0
  rw [show (#[x0, x1, x2, x3, x4, x5, x6, x7, x8, x9, v0, x11, x12, x13, x14] : Array Value).setIfInBounds 11 v1 = #[x0, x1, x2, x3, x4, x5, x6, x7, x8, x9, v0, v1, x12, x13, x14] from rfl] at h1
  have h2 := set_at (i := 12) (v := v2) h1
  rw [show (#[x0, x1, x2, x3, x4, x5, x6, x7, x8, x9, v0, v1, x12, x13, x14] : Array Value).setIfInBounds 12 v2 = #[x0, x1, x2, x3, x4, x5, x6, x7, x8, x9, v0, v1, v2, x13, x14] from rfl] at h2
  have h3 := set_at (i := 13) (v := v3) h2
  rw [show (#[x0, x1, x2, x3, x4, x5, x6, x7, x8, x9, v0, v1, v2, x13, x14] : Array Value).setIfInBounds 13 v3 = #[x0, x1, x2, x3, x4, x5, x6, x7, x8, x9, v0, v1, v2, v3, x14] from rfl] at h3
  have h4 := set_at (i := 14) (v := v4) h3
  rw [show (#[x0, x1, x2, x3, x4, x5, x6, x7, x8, x9, v0, v1, v2, v3, x14] : Array Value).setIfInBounds 14 v4 = #[x0, x1, x2, x3, x4, x5, x6, x7, x8, x9, v0, v1, v2, v3, v4] from rfl] at h4
  exact h4
theorem sumq_0 (M I : Nat) (g h np nf c d : Nat) (P F : Nat → Int) (hF : ∀ j, j < nf * 3 → 0 ≤ F j ∧ F j < np) (hn : np ≤ 1024) (hnf : nf ≤ 2048) (hP : ∀ j, j < np * 3 → -32768 ≤ P j ∧ P j ≤ 32768) (w : World) (hr : RowI w g (np * 3) P) (lg : g < w.heap.size) (hq : RowI w h (nf * 3) F) (lh : h < w.heap.size)
    (hM : ∀ o, w.cell? ⟨M, o, none⟩ = (#[.slice (some ⟨g, 0, none⟩) np c, .slice (some ⟨h, 0, none⟩) nf d] : Array Value)[o]?) (lM : M < w.heap.size) (hI : ∀ o, w.cell? ⟨I, o, none⟩ = (#[.int .i64 0] : Array Value)[o]?) (lI : I < w.heap.size) :
    Calls Tryd.prog 56 #[.agg #[.slice (some ⟨g, 0, none⟩) np c, .slice (some ⟨h, 0, none⟩) nf d], .func (.func 57) #[] #[.pointer (some ⟨M, 0, none⟩), .pointer (some ⟨I, 0, none⟩)]] w fun e w' => e = .returned (.agg #[.bool (zs (ps (detF P F) (sumF P F 0) nf)), .int .u64 (wd (Int.natAbs (ps (detF P F) (sumF P F 0) nf)) 0), .int .u64 (wd (Int.natAbs (ps (detF P F) (sumF P F 0) nf)) 1), .int .u64 (wd (Int.natAbs (ps (detF P F) (sumF P F 0) nf)) 2), .int .u64 (wd (Int.natAbs (ps (detF P F) (sumF P F 0) nf)) 3)]) ∧ Below w.heap.size w w' :=
  sum_any 57 #[.pointer (some ⟨M, 0, none⟩), .pointer (some ⟨I, 0, none⟩)] (enters_of Tryd.func57 (by kernel_rfl) rfl) g h np nf c d F (detF P F) (sumF P F 0) (by omega) (detF_abs hF hP) (sumF_abs 0 (by omega) hF hP) w hq lh
    (fun j hj V hV => momf_0 M I g h np nf c d P F nf j hj hF (by omega) hP V (fun s hs => (hV.cell (p := ⟨g, s, none⟩) lg).trans (hr s hs)) (keep_lt hV lg) (keep_cell hV lM hM) (keep_lt hV lM) (keep_cell hV lI hI) (keep_lt hV lI))
theorem sumq_1 (M I : Nat) (g h np nf c d : Nat) (P F : Nat → Int) (hF : ∀ j, j < nf * 3 → 0 ≤ F j ∧ F j < np) (hn : np ≤ 1024) (hnf : nf ≤ 2048) (hP : ∀ j, j < np * 3 → -32768 ≤ P j ∧ P j ≤ 32768) (w : World) (hr : RowI w g (np * 3) P) (lg : g < w.heap.size) (hq : RowI w h (nf * 3) F) (lh : h < w.heap.size)
    (hM : ∀ o, w.cell? ⟨M, o, none⟩ = (#[.slice (some ⟨g, 0, none⟩) np c, .slice (some ⟨h, 0, none⟩) nf d] : Array Value)[o]?) (lM : M < w.heap.size) (hI : ∀ o, w.cell? ⟨I, o, none⟩ = (#[.int .i64 1] : Array Value)[o]?) (lI : I < w.heap.size) :
    Calls Tryd.prog 56 #[.agg #[.slice (some ⟨g, 0, none⟩) np c, .slice (some ⟨h, 0, none⟩) nf d], .func (.func 57) #[] #[.pointer (some ⟨M, 0, none⟩), .pointer (some ⟨I, 0, none⟩)]] w fun e w' => e = .returned (.agg #[.bool (zs (ps (detF P F) (sumF P F 1) nf)), .int .u64 (wd (Int.natAbs (ps (detF P F) (sumF P F 1) nf)) 0), .int .u64 (wd (Int.natAbs (ps (detF P F) (sumF P F 1) nf)) 1), .int .u64 (wd (Int.natAbs (ps (detF P F) (sumF P F 1) nf)) 2), .int .u64 (wd (Int.natAbs (ps (detF P F) (sumF P F 1) nf)) 3)]) ∧ Below w.heap.size w w' :=
  sum_any 57 #[.pointer (some ⟨M, 0, none⟩), .pointer (some ⟨I, 0, none⟩)] (enters_of Tryd.func57 (by kernel_rfl) rfl) g h np nf c d F (detF P F) (sumF P F 1) (by omega) (detF_abs hF hP) (sumF_abs 1 (by omega) hF hP) w hq lh
    (fun j hj V hV => momf_1 M I g h np nf c d P F nf j hj hF (by omega) hP V (fun s hs => (hV.cell (p := ⟨g, s, none⟩) lg).trans (hr s hs)) (keep_lt hV lg) (keep_cell hV lM hM) (keep_lt hV lM) (keep_cell hV lI hI) (keep_lt hV lI))
theorem sumq_2 (M I : Nat) (g h np nf c d : Nat) (P F : Nat → Int) (hF : ∀ j, j < nf * 3 → 0 ≤ F j ∧ F j < np) (hn : np ≤ 1024) (hnf : nf ≤ 2048) (hP : ∀ j, j < np * 3 → -32768 ≤ P j ∧ P j ≤ 32768) (w : World) (hr : RowI w g (np * 3) P) (lg : g < w.heap.size) (hq : RowI w h (nf * 3) F) (lh : h < w.heap.size)
    (hM : ∀ o, w.cell? ⟨M, o, none⟩ = (#[.slice (some ⟨g, 0, none⟩) np c, .slice (some ⟨h, 0, none⟩) nf d] : Array Value)[o]?) (lM : M < w.heap.size) (hI : ∀ o, w.cell? ⟨I, o, none⟩ = (#[.int .i64 2] : Array Value)[o]?) (lI : I < w.heap.size) :
    Calls Tryd.prog 56 #[.agg #[.slice (some ⟨g, 0, none⟩) np c, .slice (some ⟨h, 0, none⟩) nf d], .func (.func 57) #[] #[.pointer (some ⟨M, 0, none⟩), .pointer (some ⟨I, 0, none⟩)]] w fun e w' => e = .returned (.agg #[.bool (zs (ps (detF P F) (sumF P F 2) nf)), .int .u64 (wd (Int.natAbs (ps (detF P F) (sumF P F 2) nf)) 0), .int .u64 (wd (Int.natAbs (ps (detF P F) (sumF P F 2) nf)) 1), .int .u64 (wd (Int.natAbs (ps (detF P F) (sumF P F 2) nf)) 2), .int .u64 (wd (Int.natAbs (ps (detF P F) (sumF P F 2) nf)) 3)]) ∧ Below w.heap.size w w' :=
  sum_any 57 #[.pointer (some ⟨M, 0, none⟩), .pointer (some ⟨I, 0, none⟩)] (enters_of Tryd.func57 (by kernel_rfl) rfl) g h np nf c d F (detF P F) (sumF P F 2) (by omega) (detF_abs hF hP) (sumF_abs 2 (by omega) hF hP) w hq lh
    (fun j hj V hV => momf_2 M I g h np nf c d P F nf j hj hF (by omega) hP V (fun s hs => (hV.cell (p := ⟨g, s, none⟩) lg).trans (hr s hs)) (keep_lt hV lg) (keep_cell hV lM hM) (keep_lt hV lM) (keep_cell hV lI hI) (keep_lt hV lI))
set_option maxHeartbeats 4000000 in
theorem mom_in (g h np nf c d : Nat) (P F : Nat → Int) (hF : ∀ j, j < nf * 3 → 0 ≤ F j ∧ F j < np) (hn : np ≤ 1024) (hnf : nf ≤ 2048) (hP : ∀ j, j < np * 3 → -32768 ≤ P j ∧ P j ≤ 32768) (hS : Shutd F nf) (hv : 0 < ps (detF P F) (fun _ => 1) nf)
    (w : World) (hr : RowI w g (np * 3) P) (lg : g < w.heap.size) (hq : RowI w h (nf * 3) F) (lh : h < w.heap.size) :
    Calls Tryd.prog 25 #[.agg #[.slice (some ⟨g, 0, none⟩) np c, .slice (some ⟨h, 0, none⟩) nf d]] w fun e w' => e = .returned (.tuple #[.agg #[.bool (zs (ps (detF P F) (sumF P F 0) nf)), .int .u64 (wd (Int.natAbs (ps (detF P F) (sumF P F 0) nf)) 0), .int .u64 (wd (Int.natAbs (ps (detF P F) (sumF P F 0) nf)) 1), .int .u64 (wd (Int.natAbs (ps (detF P F) (sumF P F 0) nf)) 2), .int .u64 (wd (Int.natAbs (ps (detF P F) (sumF P F 0) nf)) 3), .bool (zs (ps (detF P F) (sumF P F 1) nf)), .int .u64 (wd (Int.natAbs (ps (detF P F) (sumF P F 1) nf)) 0), .int .u64 (wd (Int.natAbs (ps (detF P F) (sumF P F 1) nf)) 1), .int .u64 (wd (Int.natAbs (ps (detF P F) (sumF P F 1) nf)) 2), .int .u64 (wd (Int.natAbs (ps (detF P F) (sumF P F 1) nf)) 3), .bool (zs (ps (detF P F) (sumF P F 2) nf)), .int .u64 (wd (Int.natAbs (ps (detF P F) (sumF P F 2) nf)) 0), .int .u64 (wd (Int.natAbs (ps (detF P F) (sumF P F 2) nf)) 1), .int .u64 (wd (Int.natAbs (ps (detF P F) (sumF P F 2) nf)) 2), .int .u64 (wd (Int.natAbs (ps (detF P F) (sumF P F 2) nf)) 3)], .int .i64 0]) ∧ Below w.heap.size w w' := by
  have K1 := Lib.hid (fun (W : World) (hb : Below w.heap.size w W) => mcheck_in g h np nf c d P F hF hn hnf hP hS hv W (fun q hq' => (hb.cell (p := ⟨g, q, none⟩) lg).trans (hr q hq')) (keep_lt hb lg) (fun q hq' => (hb.cell (p := ⟨h, q, none⟩) lh).trans (hq q hq')) (keep_lt hb lh))
  have KQ0 := Lib.hid (show ∀ (I : Nat) (E : World), Below w.heap.size w E → (∀ o, E.cell? ⟨w.heap.size, o, none⟩ = (#[.slice (some ⟨g, 0, none⟩) np c, .slice (some ⟨h, 0, none⟩) nf d] : Array Value)[o]?) → w.heap.size < E.heap.size → (∀ o, E.cell? ⟨I, o, none⟩ = (#[.int .i64 0] : Array Value)[o]?) → I < E.heap.size → I ≠ w.heap.size + 1 → ∀ x, Kp E.heap.size [w.heap.size + 1] E x →
    Calls Tryd.prog 56 #[.agg #[.slice (some ⟨g, 0, none⟩) np c, .slice (some ⟨h, 0, none⟩) nf d], .func (.func 57) #[] #[.pointer (some ⟨w.heap.size, 0, none⟩), .pointer (some ⟨I, 0, none⟩)]] x fun e w' => e = .returned (.agg #[.bool (zs (ps (detF P F) (sumF P F 0) nf)), .int .u64 (wd (Int.natAbs (ps (detF P F) (sumF P F 0) nf)) 0), .int .u64 (wd (Int.natAbs (ps (detF P F) (sumF P F 0) nf)) 1), .int .u64 (wd (Int.natAbs (ps (detF P F) (sumF P F 0) nf)) 2), .int .u64 (wd (Int.natAbs (ps (detF P F) (sumF P F 0) nf)) 3)]) ∧ Below x.heap.size x w' from fun I E hb mc mz ic iz iR x k =>
    sumq_0 w.heap.size I g h np nf c d P F hF hn hnf hP x (fun s hs => (k.cell g s (keep_lt hb lg) (by simp; omega)).trans ((hb.cell (p := ⟨g, s, none⟩) lg).trans (hr s hs))) (Nat.lt_of_lt_of_le (keep_lt hb lg) k.size) (fun s hs => (k.cell h s (keep_lt hb lh) (by simp; omega)).trans ((hb.cell (p := ⟨h, s, none⟩) lh).trans (hq s hs))) (Nat.lt_of_lt_of_le (keep_lt hb lh) k.size)
      (fun o => (k.cell _ o mz (by simp)).trans (mc o)) (Nat.lt_of_lt_of_le mz k.size) (fun o => (k.cell _ o iz (by simp; omega)).trans (ic o)) (Nat.lt_of_lt_of_le iz k.size))
  have KQ1 := Lib.hid (show ∀ (I : Nat) (E : World), Below w.heap.size w E → (∀ o, E.cell? ⟨w.heap.size, o, none⟩ = (#[.slice (some ⟨g, 0, none⟩) np c, .slice (some ⟨h, 0, none⟩) nf d] : Array Value)[o]?) → w.heap.size < E.heap.size → (∀ o, E.cell? ⟨I, o, none⟩ = (#[.int .i64 1] : Array Value)[o]?) → I < E.heap.size → I ≠ w.heap.size + 1 → ∀ x, Kp E.heap.size [w.heap.size + 1] E x →
    Calls Tryd.prog 56 #[.agg #[.slice (some ⟨g, 0, none⟩) np c, .slice (some ⟨h, 0, none⟩) nf d], .func (.func 57) #[] #[.pointer (some ⟨w.heap.size, 0, none⟩), .pointer (some ⟨I, 0, none⟩)]] x fun e w' => e = .returned (.agg #[.bool (zs (ps (detF P F) (sumF P F 1) nf)), .int .u64 (wd (Int.natAbs (ps (detF P F) (sumF P F 1) nf)) 0), .int .u64 (wd (Int.natAbs (ps (detF P F) (sumF P F 1) nf)) 1), .int .u64 (wd (Int.natAbs (ps (detF P F) (sumF P F 1) nf)) 2), .int .u64 (wd (Int.natAbs (ps (detF P F) (sumF P F 1) nf)) 3)]) ∧ Below x.heap.size x w' from fun I E hb mc mz ic iz iR x k =>
    sumq_1 w.heap.size I g h np nf c d P F hF hn hnf hP x (fun s hs => (k.cell g s (keep_lt hb lg) (by simp; omega)).trans ((hb.cell (p := ⟨g, s, none⟩) lg).trans (hr s hs))) (Nat.lt_of_lt_of_le (keep_lt hb lg) k.size) (fun s hs => (k.cell h s (keep_lt hb lh) (by simp; omega)).trans ((hb.cell (p := ⟨h, s, none⟩) lh).trans (hq s hs))) (Nat.lt_of_lt_of_le (keep_lt hb lh) k.size)
      (fun o => (k.cell _ o mz (by simp)).trans (mc o)) (Nat.lt_of_lt_of_le mz k.size) (fun o => (k.cell _ o iz (by simp; omega)).trans (ic o)) (Nat.lt_of_lt_of_le iz k.size))
  have KQ2 := Lib.hid (show ∀ (I : Nat) (E : World), Below w.heap.size w E → (∀ o, E.cell? ⟨w.heap.size, o, none⟩ = (#[.slice (some ⟨g, 0, none⟩) np c, .slice (some ⟨h, 0, none⟩) nf d] : Array Value)[o]?) → w.heap.size < E.heap.size → (∀ o, E.cell? ⟨I, o, none⟩ = (#[.int .i64 2] : Array Value)[o]?) → I < E.heap.size → I ≠ w.heap.size + 1 → ∀ x, Kp E.heap.size [w.heap.size + 1] E x →
    Calls Tryd.prog 56 #[.agg #[.slice (some ⟨g, 0, none⟩) np c, .slice (some ⟨h, 0, none⟩) nf d], .func (.func 57) #[] #[.pointer (some ⟨w.heap.size, 0, none⟩), .pointer (some ⟨I, 0, none⟩)]] x fun e w' => e = .returned (.agg #[.bool (zs (ps (detF P F) (sumF P F 2) nf)), .int .u64 (wd (Int.natAbs (ps (detF P F) (sumF P F 2) nf)) 0), .int .u64 (wd (Int.natAbs (ps (detF P F) (sumF P F 2) nf)) 1), .int .u64 (wd (Int.natAbs (ps (detF P F) (sumF P F 2) nf)) 2), .int .u64 (wd (Int.natAbs (ps (detF P F) (sumF P F 2) nf)) 3)]) ∧ Below x.heap.size x w' from fun I E hb mc mz ic iz iR x k =>
    sumq_2 w.heap.size I g h np nf c d P F hF hn hnf hP x (fun s hs => (k.cell g s (keep_lt hb lg) (by simp; omega)).trans ((hb.cell (p := ⟨g, s, none⟩) lg).trans (hr s hs))) (Nat.lt_of_lt_of_le (keep_lt hb lg) k.size) (fun s hs => (k.cell h s (keep_lt hb lh) (by simp; omega)).trans ((hb.cell (p := ⟨h, s, none⟩) lh).trans (hq s hs))) (Nat.lt_of_lt_of_le (keep_lt hb lh) k.size)
      (fun o => (k.cell _ o mz (by simp)).trans (mc o)) (Nat.lt_of_lt_of_le mz k.size) (fun o => (k.cell _ o iz (by simp; omega)).trans (ic o)) (Nat.lt_of_lt_of_le iz k.size))
  clear hF hP hS hv hr hq
  generalize ps (detF P F) (sumF P F 0) nf = t0 at *
  generalize ps (detF P F) (sumF P F 1) nf = t1 at *
  generalize ps (detF P F) (sumF P F 2) nf = t2 at *
  go_enter Tryd.func25, Tryd.ntmps25
  go_upto_region 1 with (fail)
  refine wp_world (fun x => (∀ o, x.cell? ⟨w.heap.size, o, none⟩ = (#[.slice (some ⟨g, 0, none⟩) np c, .slice (some ⟨h, 0, none⟩) nf d] : Array Value)[o]?) ∧ (∀ o, x.cell? ⟨w.heap.size + 1, o, none⟩ = (#[.bool false, .int .u64 0, .int .u64 0, .int .u64 0, .int .u64 0, .bool false, .int .u64 0, .int .u64 0, .int .u64 0, .int .u64 0, .bool false, .int .u64 0, .int .u64 0, .int .u64 0, .int .u64 0] : Array Value)[o]?) ∧ (∀ o, x.frozen? ⟨w.heap.size, o, none⟩ = false) ∧ (∀ o, x.frozen? ⟨w.heap.size + 1, o, none⟩ = false) ∧ w.heap.size < x.heap.size ∧ w.heap.size + 1 < x.heap.size ∧ Below w.heap.size w x) ⟨fun o => by simp [go_sem], fun o => by simp [go_sem], fun o => by simp [go_sem], fun o => by simp [go_sem], by (first | omega | (simp [go_sem]; done) | (simp [go_sem]; omega)), by (first | omega | (simp [go_sem]; done) | (simp [go_sem]; omega)), by (repeat' (first | (with_reducible exact Below.refl _ _) | (with_reducible assumption) | (with_reducible refine below_alloc ?_ _) | (with_reducible refine Below.drew ?_) | (with_reducible refine Below.setCell ?_ ?_ _) | (with_reducible refine below_after ?_ (by assumption)) | go_size))⟩ ?_
  rintro G ⟨hGc0, hGc1, hGf0, hGf1, hGz0, hGz1, hGb⟩
  go_wp2_with fail
  ((with_reducible refine (K1.out _ (by (repeat' (first | (with_reducible exact Below.refl _ _) | (with_reducible assumption) | (with_reducible refine below_alloc ?_ _) | (with_reducible refine Below.drew ?_) | (with_reducible refine Below.setCell ?_ ?_ _) | (with_reducible refine below_after ?_ (by assumption)) | go_size)))).mono ?_); rintro e w1 ⟨rfl, hb1⟩)
  have hk1 : Kp G.heap.size [] G w1 := (by (repeat (first | (with_reducible assumption) | (with_reducible exact Kp.refl (Nat.le_refl _)) | (with_reducible refine Kp.drew ?_) | (with_reducible refine Kp.alloc ?_ _) | ((with_reducible refine Kp.put ?_ ?_ _); focus (first | (left; go_size; done) | (right; simp; done))) | ((with_reducible apply Kp.later); (with_reducible assumption)))))
  have h1c0 := fun o => (hk1.cell _ o hGz0 (by simp)).trans (hGc0 o)
  have h1f0 := fun o => (hk1.froz _ o hGz0).trans (hGf0 o)
  have h1z0 := Nat.lt_of_lt_of_le hGz0 hk1.size
  have h1c1 := fun o => (hk1.cell _ o hGz1 (by simp)).trans (hGc1 o)
  have h1f1 := fun o => (hk1.froz _ o hGz1).trans (hGf1 o)
  have h1z1 := Nat.lt_of_lt_of_le hGz1 hk1.size
  go_wp2
  have hb01 := below_after hGb hb1
  go_loopg [12] 3 (fun gg v wr => ∃ i : Nat, i ≤ 3 ∧ 3 - i ≤ gg ∧ v = .int .i64 (i : Int) ∧ Hid (Below w.heap.size w wr ∧ (∀ o, wr.cell? ⟨w.heap.size, o, none⟩ = (#[.slice (some ⟨g, 0, none⟩) np c, .slice (some ⟨h, 0, none⟩) nf d] : Array Value)[o]?) ∧ (∀ o, wr.frozen? ⟨w.heap.size + 1, o, none⟩ = false) ∧ w.heap.size < wr.heap.size ∧ w.heap.size + 1 < wr.heap.size) ∧
    Hid ((i = 0 → ∀ o, wr.cell? ⟨w.heap.size + 1, o, none⟩ = (#[.bool false, .int .u64 0, .int .u64 0, .int .u64 0, .int .u64 0, .bool false, .int .u64 0, .int .u64 0, .int .u64 0, .int .u64 0, .bool false, .int .u64 0, .int .u64 0, .int .u64 0, .int .u64 0] : Array Value)[o]?) ∧ (i = 1 → ∀ o, wr.cell? ⟨w.heap.size + 1, o, none⟩ = (#[.bool (zs (t0)), .int .u64 (wd (Int.natAbs (t0)) 0), .int .u64 (wd (Int.natAbs (t0)) 1), .int .u64 (wd (Int.natAbs (t0)) 2), .int .u64 (wd (Int.natAbs (t0)) 3), .bool false, .int .u64 0, .int .u64 0, .int .u64 0, .int .u64 0, .bool false, .int .u64 0, .int .u64 0, .int .u64 0, .int .u64 0] : Array Value)[o]?) ∧ (i = 2 → ∀ o, wr.cell? ⟨w.heap.size + 1, o, none⟩ = (#[.bool (zs (t0)), .int .u64 (wd (Int.natAbs (t0)) 0), .int .u64 (wd (Int.natAbs (t0)) 1), .int .u64 (wd (Int.natAbs (t0)) 2), .int .u64 (wd (Int.natAbs (t0)) 3), .bool (zs (t1)), .int .u64 (wd (Int.natAbs (t1)) 0), .int .u64 (wd (Int.natAbs (t1)) 1), .int .u64 (wd (Int.natAbs (t1)) 2), .int .u64 (wd (Int.natAbs (t1)) 3), .bool false, .int .u64 0, .int .u64 0, .int .u64 0, .int .u64 0] : Array Value)[o]?) ∧ (i = 3 → ∀ o, wr.cell? ⟨w.heap.size + 1, o, none⟩ = (#[.bool (zs (t0)), .int .u64 (wd (Int.natAbs (t0)) 0), .int .u64 (wd (Int.natAbs (t0)) 1), .int .u64 (wd (Int.natAbs (t0)) 2), .int .u64 (wd (Int.natAbs (t0)) 3), .bool (zs (t1)), .int .u64 (wd (Int.natAbs (t1)) 0), .int .u64 (wd (Int.natAbs (t1)) 1), .int .u64 (wd (Int.natAbs (t1)) 2), .int .u64 (wd (Int.natAbs (t1)) 3), .bool (zs (t2)), .int .u64 (wd (Int.natAbs (t2)) 0), .int .u64 (wd (Int.natAbs (t2)) 1), .int .u64 (wd (Int.natAbs (t2)) 2), .int .u64 (wd (Int.natAbs (t2)) 3)] : Array Value)[o]?)))
  case atStart => exact ⟨0, by omega, by omega, rfl, Lib.hid ⟨hb01, h1c0, h1f1, h1z0, h1z1⟩, Lib.hid ⟨fun _ => h1c1, fun h => by omega, fun h => by omega, fun h => by omega⟩⟩
  case round =>
    obtain ⟨i, hi, hgi, rfl, HA, HB⟩ := hrel
    obtain ⟨hb, mc, rf, mz, rz⟩ := HA.out
    clear hGc0 hGc1 hGf0 hGf1 hGz0 hGz1 hGb h1c0 h1c1 h1f0 h1f1 h1z0 h1z1 hb1 hb01 hk1
    rcases (by omega : i = 0 ∨ i = 1 ∨ i = 2 ∨ i = 3) with rfl | rfl | rfl | rfl
    · have rc := HB.out.1 rfl
      clear HA HB
      go_upto_region 7 with (fail)
      refine wp_world (fun x => (∀ o, x.cell? ⟨w.heap.size, o, none⟩ = (#[.slice (some ⟨g, 0, none⟩) np c, .slice (some ⟨h, 0, none⟩) nf d] : Array Value)[o]?) ∧ (∀ o, x.cell? ⟨wr.heap.size, o, none⟩ = (#[.int .i64 0] : Array Value)[o]?) ∧ (∀ o, x.cell? ⟨w.heap.size + 1, o, none⟩ = (#[.bool false, .int .u64 0, .int .u64 0, .int .u64 0, .int .u64 0, .bool false, .int .u64 0, .int .u64 0, .int .u64 0, .int .u64 0, .bool false, .int .u64 0, .int .u64 0, .int .u64 0, .int .u64 0] : Array Value)[o]?) ∧ (∀ o, x.frozen? ⟨w.heap.size + 1, o, none⟩ = false) ∧ w.heap.size < x.heap.size ∧ wr.heap.size < x.heap.size ∧ w.heap.size + 1 < x.heap.size ∧ Below w.heap.size w x) ⟨fun o => by first | (simp [go_sem, mc, rc, rf, mz, rz]; done) | (rcases o with _ | _ | _ | _ | _ | o <;> simp [go_sem, mc, rc, rf, mz, rz]), fun o => by first | (simp [go_sem, mc, rc, rf, mz, rz]; done) | (rcases o with _ | _ | _ | _ | _ | o <;> simp [go_sem, mc, rc, rf, mz, rz]), fun o => by first | (simp [go_sem, mc, rc, rf, mz, rz]; done) | (rcases o with _ | _ | _ | _ | _ | o <;> simp [go_sem, mc, rc, rf, mz, rz]), fun o => by simp [go_sem, mc, rc, rf, mz, rz], by (first | omega | (simp [go_sem, mc, rc, rf, mz, rz]; done) | (simp [go_sem, mc, rc, rf, mz, rz]; omega)), by (first | omega | (simp [go_sem, mc, rc, rf, mz, rz]; done) | (simp [go_sem, mc, rc, rf, mz, rz]; omega)), by (first | omega | (simp [go_sem, mc, rc, rf, mz, rz]; done) | (simp [go_sem, mc, rc, rf, mz, rz]; omega)), by (repeat' (first | (with_reducible exact Below.refl _ _) | (with_reducible assumption) | (with_reducible refine below_alloc ?_ _) | (with_reducible refine Below.drew ?_) | (with_reducible refine Below.setCell ?_ ?_ _) | (with_reducible refine below_after ?_ (by assumption)) | go_size))⟩ ?_
      rintro E ⟨hEc0, hEc1, hEc2, hEf0, hEz0, hEz1, hEz2, hEb⟩
      have hEK := Lib.hid (show ∀ x : World, Kp E.heap.size [w.heap.size + 1] E x → ((∀ o, x.cell? ⟨w.heap.size, o, none⟩ = (#[.slice (some ⟨g, 0, none⟩) np c, .slice (some ⟨h, 0, none⟩) nf d] : Array Value)[o]?) ∧ (∀ o, x.cell? ⟨wr.heap.size, o, none⟩ = (#[.int .i64 0] : Array Value)[o]?) ∧ (∀ o, x.frozen? ⟨w.heap.size + 1, o, none⟩ = false) ∧ w.heap.size < x.heap.size ∧ wr.heap.size < x.heap.size ∧ w.heap.size + 1 < x.heap.size ∧ E.heap.size ≤ x.heap.size) from fun x k => ⟨fun o => (k.cell _ o hEz0 (by first | (simp; done) | (simp; omega))).trans (hEc0 o), fun o => (k.cell _ o hEz1 (by first | (simp; done) | (simp; omega))).trans (hEc1 o), fun o => (k.froz _ o hEz2).trans (hEf0 o), Nat.lt_of_lt_of_le hEz0 k.size, Nat.lt_of_lt_of_le hEz1 k.size, Nat.lt_of_lt_of_le hEz2 k.size, k.size⟩)
      go_region_held3 (fun x => (∀ o, x.cell? ⟨w.heap.size, o, none⟩ = (#[.slice (some ⟨g, 0, none⟩) np c, .slice (some ⟨h, 0, none⟩) nf d] : Array Value)[o]?) ∧ (∀ o, x.cell? ⟨wr.heap.size, o, none⟩ = (#[.int .i64 0] : Array Value)[o]?) ∧ (∀ o, x.frozen? ⟨w.heap.size + 1, o, none⟩ = false) ∧ w.heap.size < x.heap.size ∧ wr.heap.size < x.heap.size ∧ w.heap.size + 1 < x.heap.size ∧ E.heap.size ≤ x.heap.size) ((refine hEK.out _ ?_; (repeat (first | (with_reducible assumption) | (with_reducible exact Kp.refl (Nat.le_refl _)) | (with_reducible refine Kp.drew ?_) | (with_reducible refine Kp.alloc ?_ _) | ((with_reducible refine Kp.put ?_ ?_ _); focus (first | (left; go_size; done) | (right; simp; done))) | ((with_reducible apply Kp.later); (with_reducible assumption)))))) ((first | (go_at_call 56; (with_reducible refine (KQ0.out _ E hEb hEc0 hEz0 hEc1 hEz1 (by omega) _ (by (repeat (first | (with_reducible assumption) | (with_reducible exact Kp.refl (Nat.le_refl _)) | (with_reducible refine Kp.drew ?_) | (with_reducible refine Kp.alloc ?_ _) | ((with_reducible refine Kp.put ?_ ?_ _); focus (first | (left; go_size; done) | (right; simp; done))) | ((with_reducible apply Kp.later); (with_reducible assumption)))))).mono ?_); rintro e E_1 ⟨rfl, hbE_1⟩; have hkE_1 : Kp E.heap.size [] E E_1 := (by (repeat (first | (with_reducible assumption) | (with_reducible exact Kp.refl (Nat.le_refl _)) | (with_reducible refine Kp.drew ?_) | (with_reducible refine Kp.alloc ?_ _) | ((with_reducible refine Kp.put ?_ ?_ _); focus (first | (left; go_size; done) | (right; simp; done))) | ((with_reducible apply Kp.later); (with_reducible assumption))))); have hE_1c2 := fun o => (hkE_1.cell _ o hEz2 (by simp)).trans (hEc2 o); have hE_1f0 := fun o => (hkE_1.froz _ o hEz2).trans (hEf0 o); have hE_1z2 := Nat.lt_of_lt_of_le hEz2 hkE_1.size)))
      all_goals
        have mc1 := fun o => (hkE_1.cell _ o hEz0 (by simp)).trans (hEc0 o)
        have bE := below_after hEb (Below.drew (Below.refl E.heap.size E))
        go_wp2
        go_roundg (2 - 0)
        case rel => exact ⟨0 + 1, by omega, by omega, by go_num, Lib.hid ⟨by (repeat' (first | (with_reducible exact Below.refl _ _) | (with_reducible assumption) | (with_reducible refine below_alloc ?_ _) | (with_reducible refine Below.drew ?_) | (with_reducible refine Below.setCell ?_ ?_ _) | (with_reducible refine below_after ?_ (by assumption)) | go_size)), fun o => by (repeat rw [World.cell?_setCell_other _ _ _ _ (by intro e; have := congrArg Addr.block e; simp at this)]); exact mc1 o, fun o => by simp only [World.frozen?_setCell]; exact hE_1f0 o, by simpa using Nat.lt_of_lt_of_le hEz0 hkE_1.size, by simpa using hE_1z2⟩, Lib.hid ⟨fun h => by omega, fun _ => at15_0 hE_1c2, fun h => by omega, fun h => by omega⟩⟩
        case measure => omega
    · have rc := HB.out.2.1 rfl
      clear HA HB
      go_upto_region 7 with (fail)
      refine wp_world (fun x => (∀ o, x.cell? ⟨w.heap.size, o, none⟩ = (#[.slice (some ⟨g, 0, none⟩) np c, .slice (some ⟨h, 0, none⟩) nf d] : Array Value)[o]?) ∧ (∀ o, x.cell? ⟨wr.heap.size, o, none⟩ = (#[.int .i64 1] : Array Value)[o]?) ∧ (∀ o, x.cell? ⟨w.heap.size + 1, o, none⟩ = (#[.bool (zs (t0)), .int .u64 (wd (Int.natAbs (t0)) 0), .int .u64 (wd (Int.natAbs (t0)) 1), .int .u64 (wd (Int.natAbs (t0)) 2), .int .u64 (wd (Int.natAbs (t0)) 3), .bool false, .int .u64 0, .int .u64 0, .int .u64 0, .int .u64 0, .bool false, .int .u64 0, .int .u64 0, .int .u64 0, .int .u64 0] : Array Value)[o]?) ∧ (∀ o, x.frozen? ⟨w.heap.size + 1, o, none⟩ = false) ∧ w.heap.size < x.heap.size ∧ wr.heap.size < x.heap.size ∧ w.heap.size + 1 < x.heap.size ∧ Below w.heap.size w x) ⟨fun o => by first | (simp [go_sem, mc, rc, rf, mz, rz]; done) | (rcases o with _ | _ | _ | _ | _ | o <;> simp [go_sem, mc, rc, rf, mz, rz]), fun o => by first | (simp [go_sem, mc, rc, rf, mz, rz]; done) | (rcases o with _ | _ | _ | _ | _ | o <;> simp [go_sem, mc, rc, rf, mz, rz]), fun o => by first | (simp [go_sem, mc, rc, rf, mz, rz]; done) | (rcases o with _ | _ | _ | _ | _ | o <;> simp [go_sem, mc, rc, rf, mz, rz]), fun o => by simp [go_sem, mc, rc, rf, mz, rz], by (first | omega | (simp [go_sem, mc, rc, rf, mz, rz]; done) | (simp [go_sem, mc, rc, rf, mz, rz]; omega)), by (first | omega | (simp [go_sem, mc, rc, rf, mz, rz]; done) | (simp [go_sem, mc, rc, rf, mz, rz]; omega)), by (first | omega | (simp [go_sem, mc, rc, rf, mz, rz]; done) | (simp [go_sem, mc, rc, rf, mz, rz]; omega)), by (repeat' (first | (with_reducible exact Below.refl _ _) | (with_reducible assumption) | (with_reducible refine below_alloc ?_ _) | (with_reducible refine Below.drew ?_) | (with_reducible refine Below.setCell ?_ ?_ _) | (with_reducible refine below_after ?_ (by assumption)) | go_size))⟩ ?_
      rintro E ⟨hEc0, hEc1, hEc2, hEf0, hEz0, hEz1, hEz2, hEb⟩
      have hEK := Lib.hid (show ∀ x : World, Kp E.heap.size [w.heap.size + 1] E x → ((∀ o, x.cell? ⟨w.heap.size, o, none⟩ = (#[.slice (some ⟨g, 0, none⟩) np c, .slice (some ⟨h, 0, none⟩) nf d] : Array Value)[o]?) ∧ (∀ o, x.cell? ⟨wr.heap.size, o, none⟩ = (#[.int .i64 1] : Array Value)[o]?) ∧ (∀ o, x.frozen? ⟨w.heap.size + 1, o, none⟩ = false) ∧ w.heap.size < x.heap.size ∧ wr.heap.size < x.heap.size ∧ w.heap.size + 1 < x.heap.size ∧ E.heap.size ≤ x.heap.size) from fun x k => ⟨fun o => (k.cell _ o hEz0 (by first | (simp; done) | (simp; omega))).trans (hEc0 o), fun o => (k.cell _ o hEz1 (by first | (simp; done) | (simp; omega))).trans (hEc1 o), fun o => (k.froz _ o hEz2).trans (hEf0 o), Nat.lt_of_lt_of_le hEz0 k.size, Nat.lt_of_lt_of_le hEz1 k.size, Nat.lt_of_lt_of_le hEz2 k.size, k.size⟩)
      go_region_held3 (fun x => (∀ o, x.cell? ⟨w.heap.size, o, none⟩ = (#[.slice (some ⟨g, 0, none⟩) np c, .slice (some ⟨h, 0, none⟩) nf d] : Array Value)[o]?) ∧ (∀ o, x.cell? ⟨wr.heap.size, o, none⟩ = (#[.int .i64 1] : Array Value)[o]?) ∧ (∀ o, x.frozen? ⟨w.heap.size + 1, o, none⟩ = false) ∧ w.heap.size < x.heap.size ∧ wr.heap.size < x.heap.size ∧ w.heap.size + 1 < x.heap.size ∧ E.heap.size ≤ x.heap.size) ((refine hEK.out _ ?_; (repeat (first | (with_reducible assumption) | (with_reducible exact Kp.refl (Nat.le_refl _)) | (with_reducible refine Kp.drew ?_) | (with_reducible refine Kp.alloc ?_ _) | ((with_reducible refine Kp.put ?_ ?_ _); focus (first | (left; go_size; done) | (right; simp; done))) | ((with_reducible apply Kp.later); (with_reducible assumption)))))) ((first | (go_at_call 56; (with_reducible refine (KQ1.out _ E hEb hEc0 hEz0 hEc1 hEz1 (by omega) _ (by (repeat (first | (with_reducible assumption) | (with_reducible exact Kp.refl (Nat.le_refl _)) | (with_reducible refine Kp.drew ?_) | (with_reducible refine Kp.alloc ?_ _) | ((with_reducible refine Kp.put ?_ ?_ _); focus (first | (left; go_size; done) | (right; simp; done))) | ((with_reducible apply Kp.later); (with_reducible assumption)))))).mono ?_); rintro e E_1 ⟨rfl, hbE_1⟩; have hkE_1 : Kp E.heap.size [] E E_1 := (by (repeat (first | (with_reducible assumption) | (with_reducible exact Kp.refl (Nat.le_refl _)) | (with_reducible refine Kp.drew ?_) | (with_reducible refine Kp.alloc ?_ _) | ((with_reducible refine Kp.put ?_ ?_ _); focus (first | (left; go_size; done) | (right; simp; done))) | ((with_reducible apply Kp.later); (with_reducible assumption))))); have hE_1c2 := fun o => (hkE_1.cell _ o hEz2 (by simp)).trans (hEc2 o); have hE_1f0 := fun o => (hkE_1.froz _ o hEz2).trans (hEf0 o); have hE_1z2 := Nat.lt_of_lt_of_le hEz2 hkE_1.size)))
      all_goals
        have mc1 := fun o => (hkE_1.cell _ o hEz0 (by simp)).trans (hEc0 o)
        have bE := below_after hEb (Below.drew (Below.refl E.heap.size E))
        go_wp2
        go_roundg (2 - 1)
        case rel => exact ⟨1 + 1, by omega, by omega, by go_num, Lib.hid ⟨by (repeat' (first | (with_reducible exact Below.refl _ _) | (with_reducible assumption) | (with_reducible refine below_alloc ?_ _) | (with_reducible refine Below.drew ?_) | (with_reducible refine Below.setCell ?_ ?_ _) | (with_reducible refine below_after ?_ (by assumption)) | go_size)), fun o => by (repeat rw [World.cell?_setCell_other _ _ _ _ (by intro e; have := congrArg Addr.block e; simp at this)]); exact mc1 o, fun o => by simp only [World.frozen?_setCell]; exact hE_1f0 o, by simpa using Nat.lt_of_lt_of_le hEz0 hkE_1.size, by simpa using hE_1z2⟩, Lib.hid ⟨fun h => by omega, fun h => by omega, fun _ => at15_1 hE_1c2, fun h => by omega⟩⟩
        case measure => omega
    · have rc := HB.out.2.2.1 rfl
      clear HA HB
      go_upto_region 7 with (fail)
      refine wp_world (fun x => (∀ o, x.cell? ⟨w.heap.size, o, none⟩ = (#[.slice (some ⟨g, 0, none⟩) np c, .slice (some ⟨h, 0, none⟩) nf d] : Array Value)[o]?) ∧ (∀ o, x.cell? ⟨wr.heap.size, o, none⟩ = (#[.int .i64 2] : Array Value)[o]?) ∧ (∀ o, x.cell? ⟨w.heap.size + 1, o, none⟩ = (#[.bool (zs (t0)), .int .u64 (wd (Int.natAbs (t0)) 0), .int .u64 (wd (Int.natAbs (t0)) 1), .int .u64 (wd (Int.natAbs (t0)) 2), .int .u64 (wd (Int.natAbs (t0)) 3), .bool (zs (t1)), .int .u64 (wd (Int.natAbs (t1)) 0), .int .u64 (wd (Int.natAbs (t1)) 1), .int .u64 (wd (Int.natAbs (t1)) 2), .int .u64 (wd (Int.natAbs (t1)) 3), .bool false, .int .u64 0, .int .u64 0, .int .u64 0, .int .u64 0] : Array Value)[o]?) ∧ (∀ o, x.frozen? ⟨w.heap.size + 1, o, none⟩ = false) ∧ w.heap.size < x.heap.size ∧ wr.heap.size < x.heap.size ∧ w.heap.size + 1 < x.heap.size ∧ Below w.heap.size w x) ⟨fun o => by first | (simp [go_sem, mc, rc, rf, mz, rz]; done) | (rcases o with _ | _ | _ | _ | _ | o <;> simp [go_sem, mc, rc, rf, mz, rz]), fun o => by first | (simp [go_sem, mc, rc, rf, mz, rz]; done) | (rcases o with _ | _ | _ | _ | _ | o <;> simp [go_sem, mc, rc, rf, mz, rz]), fun o => by first | (simp [go_sem, mc, rc, rf, mz, rz]; done) | (rcases o with _ | _ | _ | _ | _ | o <;> simp [go_sem, mc, rc, rf, mz, rz]), fun o => by simp [go_sem, mc, rc, rf, mz, rz], by (first | omega | (simp [go_sem, mc, rc, rf, mz, rz]; done) | (simp [go_sem, mc, rc, rf, mz, rz]; omega)), by (first | omega | (simp [go_sem, mc, rc, rf, mz, rz]; done) | (simp [go_sem, mc, rc, rf, mz, rz]; omega)), by (first | omega | (simp [go_sem, mc, rc, rf, mz, rz]; done) | (simp [go_sem, mc, rc, rf, mz, rz]; omega)), by (repeat' (first | (with_reducible exact Below.refl _ _) | (with_reducible assumption) | (with_reducible refine below_alloc ?_ _) | (with_reducible refine Below.drew ?_) | (with_reducible refine Below.setCell ?_ ?_ _) | (with_reducible refine below_after ?_ (by assumption)) | go_size))⟩ ?_
      rintro E ⟨hEc0, hEc1, hEc2, hEf0, hEz0, hEz1, hEz2, hEb⟩
      have hEK := Lib.hid (show ∀ x : World, Kp E.heap.size [w.heap.size + 1] E x → ((∀ o, x.cell? ⟨w.heap.size, o, none⟩ = (#[.slice (some ⟨g, 0, none⟩) np c, .slice (some ⟨h, 0, none⟩) nf d] : Array Value)[o]?) ∧ (∀ o, x.cell? ⟨wr.heap.size, o, none⟩ = (#[.int .i64 2] : Array Value)[o]?) ∧ (∀ o, x.frozen? ⟨w.heap.size + 1, o, none⟩ = false) ∧ w.heap.size < x.heap.size ∧ wr.heap.size < x.heap.size ∧ w.heap.size + 1 < x.heap.size ∧ E.heap.size ≤ x.heap.size) from fun x k => ⟨fun o => (k.cell _ o hEz0 (by first | (simp; done) | (simp; omega))).trans (hEc0 o), fun o => (k.cell _ o hEz1 (by first | (simp; done) | (simp; omega))).trans (hEc1 o), fun o => (k.froz _ o hEz2).trans (hEf0 o), Nat.lt_of_lt_of_le hEz0 k.size, Nat.lt_of_lt_of_le hEz1 k.size, Nat.lt_of_lt_of_le hEz2 k.size, k.size⟩)
      go_region_held3 (fun x => (∀ o, x.cell? ⟨w.heap.size, o, none⟩ = (#[.slice (some ⟨g, 0, none⟩) np c, .slice (some ⟨h, 0, none⟩) nf d] : Array Value)[o]?) ∧ (∀ o, x.cell? ⟨wr.heap.size, o, none⟩ = (#[.int .i64 2] : Array Value)[o]?) ∧ (∀ o, x.frozen? ⟨w.heap.size + 1, o, none⟩ = false) ∧ w.heap.size < x.heap.size ∧ wr.heap.size < x.heap.size ∧ w.heap.size + 1 < x.heap.size ∧ E.heap.size ≤ x.heap.size) ((refine hEK.out _ ?_; (repeat (first | (with_reducible assumption) | (with_reducible exact Kp.refl (Nat.le_refl _)) | (with_reducible refine Kp.drew ?_) | (with_reducible refine Kp.alloc ?_ _) | ((with_reducible refine Kp.put ?_ ?_ _); focus (first | (left; go_size; done) | (right; simp; done))) | ((with_reducible apply Kp.later); (with_reducible assumption)))))) ((first | (go_at_call 56; (with_reducible refine (KQ2.out _ E hEb hEc0 hEz0 hEc1 hEz1 (by omega) _ (by (repeat (first | (with_reducible assumption) | (with_reducible exact Kp.refl (Nat.le_refl _)) | (with_reducible refine Kp.drew ?_) | (with_reducible refine Kp.alloc ?_ _) | ((with_reducible refine Kp.put ?_ ?_ _); focus (first | (left; go_size; done) | (right; simp; done))) | ((with_reducible apply Kp.later); (with_reducible assumption)))))).mono ?_); rintro e E_1 ⟨rfl, hbE_1⟩; have hkE_1 : Kp E.heap.size [] E E_1 := (by (repeat (first | (with_reducible assumption) | (with_reducible exact Kp.refl (Nat.le_refl _)) | (with_reducible refine Kp.drew ?_) | (with_reducible refine Kp.alloc ?_ _) | ((with_reducible refine Kp.put ?_ ?_ _); focus (first | (left; go_size; done) | (right; simp; done))) | ((with_reducible apply Kp.later); (with_reducible assumption))))); have hE_1c2 := fun o => (hkE_1.cell _ o hEz2 (by simp)).trans (hEc2 o); have hE_1f0 := fun o => (hkE_1.froz _ o hEz2).trans (hEf0 o); have hE_1z2 := Nat.lt_of_lt_of_le hEz2 hkE_1.size)))
      all_goals
        have mc1 := fun o => (hkE_1.cell _ o hEz0 (by simp)).trans (hEc0 o)
        have bE := below_after hEb (Below.drew (Below.refl E.heap.size E))
        go_wp2
        go_roundg (2 - 2)
        case rel => exact ⟨2 + 1, by omega, by omega, by go_num, Lib.hid ⟨by (repeat' (first | (with_reducible exact Below.refl _ _) | (with_reducible assumption) | (with_reducible refine below_alloc ?_ _) | (with_reducible refine Below.drew ?_) | (with_reducible refine Below.setCell ?_ ?_ _) | (with_reducible refine below_after ?_ (by assumption)) | go_size)), fun o => by (repeat rw [World.cell?_setCell_other _ _ _ _ (by intro e; have := congrArg Addr.block e; simp at this)]); exact mc1 o, fun o => by simp only [World.frozen?_setCell]; exact hE_1f0 o, by simpa using Nat.lt_of_lt_of_le hEz0 hkE_1.size, by simpa using hE_1z2⟩, Lib.hid ⟨fun h => by omega, fun h => by omega, fun h => by omega, fun _ => at15_2 hE_1c2⟩⟩
        case measure => omega
    · have rc := HB.out.2.2.2 rfl
      clear HA HB
      go_wp2_with ((with_reducible show bodyPost _ _ _ _ _ _); refine bodyPost_ret (by simp [results, Tryd.results25, go_sem, mc, rc, rf, mz, rz]; try rfl) rfl ?_; exact ⟨rfl, by (repeat' (first | (with_reducible exact Below.refl _ _) | (with_reducible assumption) | (with_reducible refine below_alloc ?_ _) | (with_reducible refine Below.drew ?_) | (with_reducible refine Below.setCell ?_ ?_ _) | (with_reducible refine below_after ?_ (by assumption)) | go_size))⟩)
end Go.Proofs.YtfmmnnodihpgmaaDoor
namespace Go.Proofs.YtfmmnnodihpgmaaDoor
set_option linter.all false
open Go Go.RowKit Wd
set_option maxRecDepth 100000
theorem sideP_len (X Z : List Int) (H : List (List Int)) (s : Int) : ∀ i, (sideP X Z H s i).length = 3 * (i * Z.length)
  | 0 => by rw [sideP_zero]; simp
  | i + 1 => by rw [sideP_succ, List.length_append, sideP_len X Z H s i, rowP_len, Nat.add_mul]; omega
theorem ptsP_pos (X Z : List Int) (H : List (List Int)) (hx : 0 < X.length) (hz : 0 < Z.length) : 0 < (ptsP X Z H 2).length := by
  rw [show (2 : Nat) = 1 + 1 from rfl, ptsP_succ, List.length_append]
  have := sideP_pos X Z H (sg 1) hx hz
  omega
theorem ptsP_int (X Z : List Int) (H : List (List Int)) : ∀ t, ∀ u ∈ ptsP X Z H t, ∃ z, u = .int .i64 z
  | 0 => by rw [ptsP_zero]; simp
  | t + 1 => by
    rw [ptsP_succ]
    intro u hu
    rcases List.mem_append.1 hu with h | h
    · exact ptsP_int X Z H t u h
    · exact sideP_int X Z H _ _ u h
theorem face4_int (n m : Nat) (i k : Int) : ∀ u ∈ face4 n m i k, ∃ z, u = .int .i64 z := by
  unfold face4 iv
  intro u hu
  rw [← List.map_append] at hu
  obtain ⟨z, -, rfl⟩ := List.mem_map.1 hu
  exact ⟨z, rfl⟩
theorem faces_int (n m a b c : Nat) : ∀ u ∈ sidesF n m a ++ flatsF n m b ++ endsF n m c, ∃ z, u = .int .i64 z := by
  intro u hu
  rcases List.mem_append.1 hu with h | h
  · rcases List.mem_append.1 h with h | h
    · unfold sidesF at h
      obtain ⟨i, -, h⟩ := List.mem_flatMap.1 h
      unfold innerF at h
      obtain ⟨k, -, h⟩ := List.mem_flatMap.1 h
      exact face4_int _ _ _ _ u h
    · unfold flatsF at h
      obtain ⟨i, -, h⟩ := List.mem_flatMap.1 h
      unfold flatsF1 at h
      simp at h
      rcases h with h | h | h | h | h | h | h | h | h | h | h | h <;> exact ⟨_, h⟩
  · unfold endsF at h
    obtain ⟨i, -, h⟩ := List.mem_flatMap.1 h
    unfold endsF1 at h
    simp at h
    rcases h with h | h | h | h | h | h | h | h | h | h | h | h <;> exact ⟨_, h⟩
theorem flats_pos (n m : Nat) (hn : 2 ≤ n) : 0 < (flatsF n m (n - 1)).length := by
  obtain ⟨k, hk⟩ : ∃ k, n - 1 = k + 1 := ⟨n - 2, by omega⟩
  rw [hk, flatsF_succ, List.length_append]
  unfold flatsF1
  simp
end Go.Proofs.YtfmmnnodihpgmaaDoor
namespace Go.Proofs.YtfmmnnodihpgmaaDoor
set_option linter.all false
open Go Go.RowKit Wd
set_option maxRecDepth 100000
theorem mesh_surf {X Z : List Int} {H : List (List Int)} (h : chk X Z H = 0) {w : World} {np nf b : Nat} {pv fv : Value} (op : w.ownsRow b 82 3 pv np (ptsP X Z H 2))
    (of : w.ownsRow b 84 3 fv nf (sidesF X.length Z.length (X.length - 1) ++ flatsF X.length Z.length (X.length - 1) ++ endsF X.length Z.length (Z.length - 1))) :
    ∃ g c k d P F, pv = .slice (some ⟨g, 0, none⟩) np c ∧ fv = .slice (some ⟨k, 0, none⟩) nf d ∧ g < w.heap.size ∧ k < w.heap.size ∧ RowI w g (np * 3) P ∧ RowI w k (nf * 3) F ∧ Surf X Z H np nf P F := by
  have hv := chk_fine h
  have x2 := hv.x2
  have z2 := hv.z2
  have S := surf_of h
  obtain ⟨g, c, e1, l1, n1, r1⟩ := own_row op (ptsP_pos X Z H (by omega) (by omega)) (ptsP_int X Z H 2)
  obtain ⟨k, d, e2, l2, n2, r2⟩ := own_row of (by rw [List.length_append, List.length_append]; have := flats_pos X.length Z.length x2; omega) (faces_int X.length Z.length (X.length - 1) (X.length - 1) (Z.length - 1))
  have hnp : np = 2 * (X.length * Z.length) := by rw [ptsP_len] at n1; omega
  obtain ⟨N, hN⟩ : ∃ N, X.length = N + 1 := ⟨X.length - 1, by omega⟩
  obtain ⟨M, hM⟩ : ∃ M, Z.length = M + 1 := ⟨Z.length - 1, by omega⟩
  have eX : X.length - 1 = N := by omega
  have eZ : Z.length - 1 = M := by omega
  have ef : sidesF X.length Z.length (X.length - 1) ++ flatsF X.length Z.length (X.length - 1) ++ endsF X.length Z.length (Z.length - 1) = (Sf.corners N M).map (vI N M) := by rw [eX, eZ, hN, hM]; exact faces_vals N M
  rw [ef] at n2 r2
  rw [List.length_map, Sf.corners_len] at n2
  have hnf : nf = (Sf.faces N M).length := by omega
  rw [eX, eZ, ← Sf.faces_len, ← hnf, ← hnp] at S
  refine ⟨g, c, k, d, pP X Z H, Sf.cF N M, e1, e2, l1, l2, fun j hj => ?_, fun j hj => ?_, S⟩
  · have := r1 j hj
    unfold pP
    exact this
  · have h1 := r2 j hj
    have h2 := faces_get N M j (by omega)
    rw [h1]
    simp only [h2]
end Go.Proofs.YtfmmnnodihpgmaaDoor
