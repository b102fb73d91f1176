/-
  mesh.sum: the sum, over all faces, of the products of a function's two numbers.
-/
import Derived.Test.YtkpochkfijplaaaQMeshE
import Derived.Test.YtkpochkfijplaaaQRatA
import Derived.Test.YtkpochkfijplaaaQSurfM

namespace Go.Proofs.Ytkpochkfijplaaa
set_option linter.all false
open Go Go.RowKit Wd
set_option maxRecDepth 100000
/-- The sum of the first products. -/
@[irreducible] def ps (A B : Nat → Int) (n : Nat) : Int := Sf.sr (fun j => A j * B j) n
theorem ps_zero (A B : Nat → Int) : ps A B 0 = 0 := by unfold ps; rfl
theorem ps_succ (A B : Nat → Int) (n : Nat) : ps A B (n + 1) = ps A B n + A n * B n := by unfold ps; rfl
theorem abs_mul_le {a b m k : Int} (ha : -m ≤ a ∧ a ≤ m) (hb : -k ≤ b ∧ b ≤ k) (_hm : 0 ≤ m) (_hk : 0 ≤ k) : -(m * k) ≤ a * b ∧ a * b ≤ m * k := by
  have h : (a * b).natAbs ≤ m.natAbs * k.natAbs := by
    rw [Int.natAbs_mul]
    exact Nat.mul_le_mul (by omega) (by omega)
  have h2 : ((m * k).natAbs : Int) = m * k := Int.natAbs_of_nonneg (Int.mul_nonneg _hm _hk)
  rw [Int.natAbs_mul] at h2
  omega
theorem ps_abs (A B : Nat → Int) (N : Nat) (hA : ∀ j, j < N → -4503599627370496 ≤ A j ∧ A j ≤ 4503599627370496) (hB : ∀ j, j < N → -1048576 ≤ B j ∧ B j ≤ 1048576) : ∀ n, n ≤ N → -(4722366482869645213696 * (n : Int)) ≤ ps A B n ∧ ps A B n ≤ 4722366482869645213696 * (n : Int)
  | 0, _ => by rw [ps_zero]; omega
  | n + 1, hn => by
    have h1 := ps_abs A B N hA hB n (by omega)
    have h2 := abs_mul_le (hA n (by omega)) (hB n (by omega)) (by omega) (by omega)
    rw [ps_succ]
    omega
theorem mul_small (x y : Int) (hx : -4503599627370496 ≤ x ∧ x ≤ 4503599627370496) (hy : -1048576 ≤ y ∧ y ≤ 1048576) (w : World) :
    Calls Try.prog 45 #[(.agg #[.bool (zs (x)), .int .u64 (wd (Int.natAbs (x)) 0), .int .u64 (wd (Int.natAbs (x)) 1), .int .u64 (wd (Int.natAbs (x)) 2), .int .u64 (wd (Int.natAbs (x)) 3)]), (.agg #[.bool (zs (y)), .int .u64 (wd (Int.natAbs (y)) 0), .int .u64 (wd (Int.natAbs (y)) 1), .int .u64 (wd (Int.natAbs (y)) 2), .int .u64 (wd (Int.natAbs (y)) 3)])] w fun e w' => e = .returned (.tuple #[(.agg #[.bool (zs (x * y)), .int .u64 (wd (Int.natAbs (x * y)) 0), .int .u64 (wd (Int.natAbs (x * y)) 1), .int .u64 (wd (Int.natAbs (x * y)) 2), .int .u64 (wd (Int.natAbs (x * y)) 3)]), .int .i64 0]) ∧ Below w.heap.size w w' := by
  have h2 := abs_mul_le hx hy (by omega) (by omega)
  have hn : (x * y).natAbs < 2 ^ 256 := by omega
  have h := mul_any (zs x) (zs y) x.natAbs y.natAbs (by omega) (by omega) w
  rw [val_zs, val_zs, fitZ_in hn, fitE_in hn] at h
  exact h
theorem add_small (x y : Int) (hx : x.natAbs < 2 ^ 200) (hy : y.natAbs < 2 ^ 200) (w : World) :
    Calls Try.prog 47 #[(.agg #[.bool (zs (x)), .int .u64 (wd (Int.natAbs (x)) 0), .int .u64 (wd (Int.natAbs (x)) 1), .int .u64 (wd (Int.natAbs (x)) 2), .int .u64 (wd (Int.natAbs (x)) 3)]), (.agg #[.bool (zs (y)), .int .u64 (wd (Int.natAbs (y)) 0), .int .u64 (wd (Int.natAbs (y)) 1), .int .u64 (wd (Int.natAbs (y)) 2), .int .u64 (wd (Int.natAbs (y)) 3)])] w fun e w' => e = .returned (.tuple #[(.agg #[.bool (zs (x + y)), .int .u64 (wd (Int.natAbs (x + y)) 0), .int .u64 (wd (Int.natAbs (x + y)) 1), .int .u64 (wd (Int.natAbs (x + y)) 2), .int .u64 (wd (Int.natAbs (x + y)) 3)]), .int .i64 0]) ∧ Below w.heap.size w w' := by
  have hn : (x + y).natAbs < 2 ^ 256 := by omega
  have h := add_any (zs x) (zs y) x.natAbs y.natAbs (by omega) (by omega) w
  rw [val_zs, val_zs, fitZ_in hn, fitE_in hn] at h
  exact h
set_option maxHeartbeats 4000000 in
theorem sum_any (fc : FuncId) (env : Array Value) (hen : ∀ args w, (callFunc fc args).run Try.prog w = .ok (.enter fc args) w) (g h np n c d : Nat) (F A B : Nat → Int) (hn : n ≤ 100000) (hA : ∀ j, j < n → -4503599627370496 ≤ A j ∧ A j ≤ 4503599627370496) (hB : ∀ j, j < n → -1048576 ≤ B j ∧ B j ≤ 1048576)
    (w : World) (hF : RowI w h (n * 3) F) (lh : h < w.heap.size)
    (K : ∀ j, j < n → ∀ W, Below w.heap.size w W → Calls Try.prog fc (#[.agg #[.int .i64 (F (j * 3)), .int .i64 (F (j * 3 + 1)), .int .i64 (F (j * 3 + 2))]] ++ env) W fun e W' => e = .returned (.tuple #[.int .i64 (A j), .int .i64 (B j)]) ∧ Below W.heap.size W W') :
    Calls Try.prog 27 #[.agg #[.slice (some ⟨g, 0, none⟩) np c, .slice (some ⟨h, 0, none⟩) n d], .func (.func fc) #[] env] w fun e w' => e = .returned (.agg #[.bool (zs (ps A B n)), .int .u64 (wd (Int.natAbs (ps A B n)) 0), .int .u64 (wd (Int.natAbs (ps A B n)) 1), .int .u64 (wd (Int.natAbs (ps A B n)) 2), .int .u64 (wd (Int.natAbs (ps A B n)) 3)]) ∧ Below w.heap.size w w' := by
  have HP := Lib.hid (ps_abs A B n hA hB)
  have HK := Lib.hid K
  have HF := Lib.hid hF
  have HA := Lib.hid hA
  have HB := Lib.hid hB
  clear K hF hA hB
  go_enter Try.func27, Try.ntmps27
  go_upto_region 2 with (fail)
  refine wp_world (fun x => (∀ o, x.cell? ⟨w.heap.size, o, none⟩ = (#[.slice (some ⟨g, 0, none⟩) np c, .slice (some ⟨h, 0, none⟩) n d] : Array Value)[o]?) ∧ (∀ o, x.cell? ⟨w.heap.size + 1, o, none⟩ = (#[.bool false, .int .u64 0, .int .u64 0, .int .u64 0, .int .u64 0] : Array Value)[o]?) ∧ (∀ o, x.cell? ⟨w.heap.size + 1 + 1, o, none⟩ = (#[.bool false, .int .u64 0, .int .u64 0, .int .u64 0, .int .u64 0] : Array Value)[o]?) ∧ (∀ o, x.frozen? ⟨w.heap.size, o, none⟩ = false) ∧ (∀ o, x.frozen? ⟨w.heap.size + 1, o, none⟩ = false) ∧ (∀ o, x.frozen? ⟨w.heap.size + 1 + 1, o, none⟩ = false) ∧ w.heap.size < x.heap.size ∧ w.heap.size + 1 < x.heap.size ∧ w.heap.size + 1 + 1 < x.heap.size ∧ Below w.heap.size w x) ⟨fun o => by simp [go_sem], fun o => by simp [go_sem], fun o => by simp [go_sem], fun o => by simp [go_sem], fun o => by simp [go_sem], fun o => by simp [go_sem], by (first | omega | (simp [go_sem]; done) | (simp [go_sem]; omega)), by (first | omega | (simp [go_sem]; done) | (simp [go_sem]; omega)), by (first | omega | (simp [go_sem]; done) | (simp [go_sem]; omega)), by (repeat' (first | (with_reducible exact Below.refl _ _) | (with_reducible assumption) | (with_reducible refine below_alloc ?_ _) | (with_reducible refine Below.drew ?_) | (with_reducible refine Below.setCell ?_ ?_ _) | (with_reducible refine below_after ?_ (by assumption)) | go_size))⟩ ?_
  rintro G ⟨hGc0, hGc1, hGc2, hGf0, hGf1, hGf2, hGz0, hGz1, hGz2, hGb⟩
  generalize hR : w.heap.size + 1 = R at *
  generalize hT : R + 1 = T at *
  have hRw : w.heap.size ≤ R := by omega
  have hTw : w.heap.size ≤ T := by omega
  have hRT : R ≠ T := by omega
  clear hR hT
  have lhG := keep_lt hGb lh
  go_wp2
  go_loopg [15] n (fun gg v wr => ∃ j : Nat, j ≤ n ∧ n - j ≤ gg ∧ v = .int .i64 (j : Int) ∧ Hid ((∀ o, wr.cell? ⟨R, o, none⟩ = (#[.bool false, .int .u64 0, .int .u64 0, .int .u64 0, .int .u64 0] : Array Value)[o]?) ∧ (∀ o, wr.frozen? ⟨R, o, none⟩ = false) ∧ R < wr.heap.size ∧ (∀ o, wr.cell? ⟨T, o, none⟩ = (#[.bool (zs (ps A B j)), .int .u64 (wd (Int.natAbs (ps A B j)) 0), .int .u64 (wd (Int.natAbs (ps A B j)) 1), .int .u64 (wd (Int.natAbs (ps A B j)) 2), .int .u64 (wd (Int.natAbs (ps A B j)) 3)] : Array Value)[o]?) ∧ (∀ o, wr.frozen? ⟨T, o, none⟩ = false) ∧ T < wr.heap.size ∧ Below w.heap.size w wr))
  case atStart => exact ⟨0, by omega, by omega, rfl, Lib.hid ⟨hGc1, hGf1, hGz1, by rw [ps_zero, zs_zero]; simp only [Int.natAbs_zero, wd_zero]; exact hGc2, hGf2, hGz2, hGb⟩⟩
  case round =>
    obtain ⟨j, hj, hgj, rfl, HI⟩ := hrel
    clear hGc0 hGc1 hGc2 hGf0 hGf1 hGf2 hGz0 hGz1 hGz2
    by_cases hlt : j < n
    · have hjn : (j : Int) < (n : Int) := by omega
      obtain ⟨hRc, hRf, hRz, hTc, hTf, hTz, hb⟩ := HI.out
      have hlr := keep_lt hb lh
      have f0 := (hb.cell (p := ⟨h, j * 3, none⟩) lh).trans (HF.out (j * 3) (by omega))
      have f1 := (hb.cell (p := ⟨h, j * 3 + 1, none⟩) lh).trans (HF.out (j * 3 + 1) (by omega))
      have f2 := (hb.cell (p := ⟨h, j * 3 + 2, none⟩) lh).trans (HF.out (j * 3 + 2) (by omega))
      have KJ := Lib.hid (HK.out j hlt)
      have hp0 := HP.out j (by omega)
      have hps := Lib.hid (ps_succ A B j)
      have hAj := HA.out j hlt
      have hBj := HB.out j hlt
      generalize F (j * 3) = a0 at *
      generalize F (j * 3 + 1) = a1 at *
      generalize F (j * 3 + 2) = a2 at *
      obtain ⟨aj, haj⟩ : ∃ x, x = A j := ⟨_, rfl⟩
      obtain ⟨bj, hbj⟩ : ∃ x, x = B j := ⟨_, rfl⟩
      obtain ⟨tj, htj⟩ : ∃ x, x = ps A B j := ⟨_, rfl⟩
      rw [← haj, ← hbj] at KJ hps
      rw [← haj] at hAj
      rw [← hbj] at hBj
      rw [← htj] at hTc hps hp0
      have hpr := abs_mul_le hAj hBj (by omega) (by omega)
      have M1 := Lib.hid (of_any aj (by omega) (by omega))
      have M2 := Lib.hid (of_any bj (by omega) (by omega))
      have M3 := Lib.hid (mul_small aj bj hAj hBj)
      have M4 := Lib.hid (add_small tj (aj * bj) (by omega) (by omega))
      clear haj hbj htj HI hp0 hpr hAj hBj HP HA HB HK
      go_upto_region 5 with (fail)
      refine wp_world (fun x => (∀ o, x.cell? ⟨R, o, none⟩ = (#[.bool false, .int .u64 0, .int .u64 0, .int .u64 0, .int .u64 0] : Array Value)[o]?) ∧ (∀ o, x.cell? ⟨T, o, none⟩ = (#[.bool (zs (tj)), .int .u64 (wd (Int.natAbs (tj)) 0), .int .u64 (wd (Int.natAbs (tj)) 1), .int .u64 (wd (Int.natAbs (tj)) 2), .int .u64 (wd (Int.natAbs (tj)) 3)] : Array Value)[o]?) ∧ (∀ o, x.cell? ⟨wr.heap.size, o, none⟩ = (#[.int .i64 a0, .int .i64 a1, .int .i64 a2] : Array Value)[o]?) ∧ (∀ o, x.frozen? ⟨R, o, none⟩ = false) ∧ (∀ o, x.frozen? ⟨T, o, none⟩ = false) ∧ (∀ o, x.frozen? ⟨wr.heap.size, o, none⟩ = false) ∧ R < x.heap.size ∧ T < x.heap.size ∧ wr.heap.size < x.heap.size ∧ Below w.heap.size w x) ⟨fun o => by simp [go_sem, hRc, hTc, hRf, hTf, hRz, hTz], fun o => by simp [go_sem, hRc, hTc, hRf, hTf, hRz, hTz], fun o => by simp [go_sem, hRc, hTc, hRf, hTf, hRz, hTz], fun o => by simp [go_sem, hRc, hTc, hRf, hTf, hRz, hTz], fun o => by simp [go_sem, hRc, hTc, hRf, hTf, hRz, hTz], fun o => by simp [go_sem, hRc, hTc, hRf, hTf, hRz, hTz], by (first | omega | (simp [go_sem, hRc, hTc, hRf, hTf, hRz, hTz]; done) | (simp [go_sem, hRc, hTc, hRf, hTf, hRz, hTz]; omega)), by (first | omega | (simp [go_sem, hRc, hTc, hRf, hTf, hRz, hTz]; done) | (simp [go_sem, hRc, hTc, hRf, hTf, hRz, hTz]; omega)), by (first | omega | (simp [go_sem, hRc, hTc, hRf, hTf, hRz, hTz]; done) | (simp [go_sem, hRc, hTc, hRf, hTf, hRz, hTz]; omega)), by (repeat' (first | (with_reducible exact Below.refl _ _) | (with_reducible assumption) | (with_reducible refine below_alloc ?_ _) | (with_reducible refine Below.drew ?_) | (with_reducible refine Below.setCell ?_ ?_ _) | (with_reducible refine below_after ?_ (by assumption)) | go_size))⟩ ?_
      rintro E ⟨hEc0, hEc1, hEc2, hEf0, hEf1, hEf2, hEz0, hEz1, hEz2, hEb⟩
      go_wp2_with (first | (go_at_fn fc; (with_reducible refine (KJ.out _ (by (repeat' (first | (with_reducible exact Below.refl _ _) | (with_reducible assumption) | (with_reducible refine below_alloc ?_ _) | (with_reducible refine Below.drew ?_) | (with_reducible refine Below.setCell ?_ ?_ _) | (with_reducible refine below_after ?_ (by assumption)) | go_size)))).mono ?_); rintro e w1 ⟨rfl, hb1⟩))
      ((with_reducible refine (M1.out _).mono ?_); rintro e w2 ⟨rfl, hb2⟩)
      have hk2 : Kp E.heap.size [] E w2 := (by (repeat (first | (with_reducible assumption) | (with_reducible exact Kp.refl (Nat.le_refl _)) | (with_reducible refine Kp.drew ?_) | (with_reducible refine Kp.alloc ?_ _) | ((with_reducible refine Kp.put ?_ ?_ _); focus (first | (left; go_size; done) | (right; simp; done))) | ((with_reducible apply Kp.later); (with_reducible assumption)))))
      have h2c0 := fun o => (hk2.cell _ o hEz0 (by simp)).trans (hEc0 o)
      have h2f0 := fun o => (hk2.froz _ o hEz0).trans (hEf0 o)
      have h2z0 := Nat.lt_of_lt_of_le hEz0 hk2.size
      have h2c1 := fun o => (hk2.cell _ o hEz1 (by simp)).trans (hEc1 o)
      have h2f1 := fun o => (hk2.froz _ o hEz1).trans (hEf1 o)
      have h2z1 := Nat.lt_of_lt_of_le hEz1 hk2.size
      have h2c2 := fun o => (hk2.cell _ o hEz2 (by simp)).trans (hEc2 o)
      have h2f2 := fun o => (hk2.froz _ o hEz2).trans (hEf2 o)
      have h2z2 := Nat.lt_of_lt_of_le hEz2 hk2.size
      go_wp2_with fail
      ((with_reducible refine (M2.out _).mono ?_); rintro e w3 ⟨rfl, hb3⟩)
      have hk3 : Kp E.heap.size [] E w3 := (by (repeat (first | (with_reducible assumption) | (with_reducible exact Kp.refl (Nat.le_refl _)) | (with_reducible refine Kp.drew ?_) | (with_reducible refine Kp.alloc ?_ _) | ((with_reducible refine Kp.put ?_ ?_ _); focus (first | (left; go_size; done) | (right; simp; done))) | ((with_reducible apply Kp.later); (with_reducible assumption)))))
      have h3c0 := fun o => (hk3.cell _ o hEz0 (by simp)).trans (hEc0 o)
      have h3f0 := fun o => (hk3.froz _ o hEz0).trans (hEf0 o)
      have h3z0 := Nat.lt_of_lt_of_le hEz0 hk3.size
      have h3c1 := fun o => (hk3.cell _ o hEz1 (by simp)).trans (hEc1 o)
      have h3f1 := fun o => (hk3.froz _ o hEz1).trans (hEf1 o)
      have h3z1 := Nat.lt_of_lt_of_le hEz1 hk3.size
      have h3c2 := fun o => (hk3.cell _ o hEz2 (by simp)).trans (hEc2 o)
      have h3f2 := fun o => (hk3.froz _ o hEz2).trans (hEf2 o)
      have h3z2 := Nat.lt_of_lt_of_le hEz2 hk3.size
      go_wp2_with fail
      ((with_reducible refine (M3.out _).mono ?_); rintro e w4 ⟨rfl, hb4⟩)
      have hk4 : Kp E.heap.size [] E w4 := (by (repeat (first | (with_reducible assumption) | (with_reducible exact Kp.refl (Nat.le_refl _)) | (with_reducible refine Kp.drew ?_) | (with_reducible refine Kp.alloc ?_ _) | ((with_reducible refine Kp.put ?_ ?_ _); focus (first | (left; go_size; done) | (right; simp; done))) | ((with_reducible apply Kp.later); (with_reducible assumption)))))
      have h4c0 := fun o => (hk4.cell _ o hEz0 (by simp)).trans (hEc0 o)
      have h4f0 := fun o => (hk4.froz _ o hEz0).trans (hEf0 o)
      have h4z0 := Nat.lt_of_lt_of_le hEz0 hk4.size
      have h4c1 := fun o => (hk4.cell _ o hEz1 (by simp)).trans (hEc1 o)
      have h4f1 := fun o => (hk4.froz _ o hEz1).trans (hEf1 o)
      have h4z1 := Nat.lt_of_lt_of_le hEz1 hk4.size
      have h4c2 := fun o => (hk4.cell _ o hEz2 (by simp)).trans (hEc2 o)
      have h4f2 := fun o => (hk4.froz _ o hEz2).trans (hEf2 o)
      have h4z2 := Nat.lt_of_lt_of_le hEz2 hk4.size
      go_upto_region 7 with (fail)
      refine wp_world (fun x => (∀ o, x.cell? ⟨R, o, none⟩ = (#[.bool false, .int .u64 0, .int .u64 0, .int .u64 0, .int .u64 0] : Array Value)[o]?) ∧ (∀ o, x.cell? ⟨T, o, none⟩ = (#[.bool (zs (tj)), .int .u64 (wd (Int.natAbs (tj)) 0), .int .u64 (wd (Int.natAbs (tj)) 1), .int .u64 (wd (Int.natAbs (tj)) 2), .int .u64 (wd (Int.natAbs (tj)) 3)] : Array Value)[o]?) ∧ (∀ o, x.cell? ⟨w4.heap.size, o, none⟩ = (#[.bool (zs (aj * bj)), .int .u64 (wd (Int.natAbs (aj * bj)) 0), .int .u64 (wd (Int.natAbs (aj * bj)) 1), .int .u64 (wd (Int.natAbs (aj * bj)) 2), .int .u64 (wd (Int.natAbs (aj * bj)) 3)] : Array Value)[o]?) ∧ (∀ o, x.frozen? ⟨R, o, none⟩ = false) ∧ (∀ o, x.frozen? ⟨T, o, none⟩ = false) ∧ (∀ o, x.frozen? ⟨w4.heap.size, o, none⟩ = false) ∧ R < x.heap.size ∧ T < x.heap.size ∧ w4.heap.size < x.heap.size ∧ Below w.heap.size w x) ⟨fun o => by simp [go_sem, h4c0, h4f0, h4z0, h4c1, h4f1, h4z1, h4c2, h4f2, h4z2], fun o => by simp [go_sem, h4c0, h4f0, h4z0, h4c1, h4f1, h4z1, h4c2, h4f2, h4z2], fun o => by simp [go_sem, h4c0, h4f0, h4z0, h4c1, h4f1, h4z1, h4c2, h4f2, h4z2], fun o => by simp [go_sem, h4c0, h4f0, h4z0, h4c1, h4f1, h4z1, h4c2, h4f2, h4z2], fun o => by simp [go_sem, h4c0, h4f0, h4z0, h4c1, h4f1, h4z1, h4c2, h4f2, h4z2], fun o => by simp [go_sem, h4c0, h4f0, h4z0, h4c1, h4f1, h4z1, h4c2, h4f2, h4z2], by (first | omega | (simp [go_sem, h4c0, h4f0, h4z0, h4c1, h4f1, h4z1, h4c2, h4f2, h4z2]; done) | (simp [go_sem, h4c0, h4f0, h4z0, h4c1, h4f1, h4z1, h4c2, h4f2, h4z2]; omega)), by (first | omega | (simp [go_sem, h4c0, h4f0, h4z0, h4c1, h4f1, h4z1, h4c2, h4f2, h4z2]; done) | (simp [go_sem, h4c0, h4f0, h4z0, h4c1, h4f1, h4z1, h4c2, h4f2, h4z2]; omega)), by (first | omega | (simp [go_sem, h4c0, h4f0, h4z0, h4c1, h4f1, h4z1, h4c2, h4f2, h4z2]; done) | (simp [go_sem, h4c0, h4f0, h4z0, h4c1, h4f1, h4z1, h4c2, h4f2, h4z2]; omega)), by (repeat' (first | (with_reducible exact Below.refl _ _) | (with_reducible assumption) | (with_reducible refine below_alloc ?_ _) | (with_reducible refine Below.drew ?_) | (with_reducible refine Below.setCell ?_ ?_ _) | (with_reducible refine below_after ?_ (by assumption)) | go_size))⟩ ?_
      rintro V ⟨hVc0, hVc1, hVc2, hVf0, hVf1, hVf2, hVz0, hVz1, hVz2, hVb⟩
      go_wp2_with fail
      ((with_reducible refine (M4.out _).mono ?_); rintro e w5 ⟨rfl, hb5⟩)
      have hk5 : Kp V.heap.size [] V w5 := (by (repeat (first | (with_reducible assumption) | (with_reducible exact Kp.refl (Nat.le_refl _)) | (with_reducible refine Kp.drew ?_) | (with_reducible refine Kp.alloc ?_ _) | ((with_reducible refine Kp.put ?_ ?_ _); focus (first | (left; go_size; done) | (right; simp; done))) | ((with_reducible apply Kp.later); (with_reducible assumption)))))
      have h5c0 := fun o => (hk5.cell _ o hVz0 (by simp)).trans (hVc0 o)
      have h5f0 := fun o => (hk5.froz _ o hVz0).trans (hVf0 o)
      have h5z0 := Nat.lt_of_lt_of_le hVz0 hk5.size
      have h5c1 := fun o => (hk5.cell _ o hVz1 (by simp)).trans (hVc1 o)
      have h5f1 := fun o => (hk5.froz _ o hVz1).trans (hVf1 o)
      have h5z1 := Nat.lt_of_lt_of_le hVz1 hk5.size
      have h5c2 := fun o => (hk5.cell _ o hVz2 (by simp)).trans (hVc2 o)
      have h5f2 := fun o => (hk5.froz _ o hVz2).trans (hVf2 o)
      have h5z2 := Nat.lt_of_lt_of_le hVz2 hk5.size
      go_wp2
      have hnj := hps.out
      go_roundg (n - (j + 1))
      case rel => exact ⟨j + 1, by omega, by omega, by go_num, Lib.hid ⟨far5 (Ne.symm hRT) h5c0, fun o => by simp only [World.frozen?_setCell]; exact h5f0 o, by simpa using h5z0, by rw [hnj]; exact at5 h5c1, fun o => by simp only [World.frozen?_setCell]; exact h5f1 o, by simpa using h5z1, by (repeat' (first | (with_reducible exact Below.refl _ _) | (with_reducible assumption) | (with_reducible refine below_alloc ?_ _) | (with_reducible refine Below.drew ?_) | (with_reducible refine Below.setCell ?_ ?_ _) | (with_reducible refine below_after ?_ (by assumption)) | go_size))⟩⟩
      case measure => omega
    · obtain rfl : j = n := by omega
      have hjn : ¬ (j : Int) < (j : Int) := by omega
      obtain ⟨hRc, hRf, hRz, hTc, hTf, hTz, hb⟩ := HI.out
      clear HI HP HA HB HK
      go_wp2_with ((with_reducible show bodyPost _ _ _ _ _ _); refine bodyPost_ret (by simp [results, Try.results27, go_sem, hRc, hTc, hRf, hTf, hRz, hTz]; try rfl) rfl ?_; exact ⟨rfl, by (repeat' (first | (with_reducible exact Below.refl _ _) | (with_reducible assumption) | (with_reducible refine below_alloc ?_ _) | (with_reducible refine Below.drew ?_) | (with_reducible refine Below.setCell ?_ ?_ _) | (with_reducible refine below_after ?_ (by assumption)) | go_size))⟩)
end Go.Proofs.Ytkpochkfijplaaa
