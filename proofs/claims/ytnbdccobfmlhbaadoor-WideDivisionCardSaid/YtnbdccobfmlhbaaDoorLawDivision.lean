/-
  The walk of shipyardlaw02.WideDivision: the quotient times the divisor and the remainder make the dividend.
-/
import Derived.Test.YtnbdccobfmlhbaaDoorPlain
namespace Go.Proofs.YtnbdccobfmlhbaaDoor
set_option linter.all false
open Go Go.RowKit Wd
set_option maxRecDepth 100000
theorem division_none (s t : Bool) (a : Nat) (ha : a < 2 ^ 256) (w : World) (hT : Tabs w) :
    Calls Tryd.prog 12 #[(.agg #[.bool (s), .int .u64 (wd (a) 0), .int .u64 (wd (a) 1), .int .u64 (wd (a) 2), .int .u64 (wd (a) 3)]), (.agg #[.bool (t), .int .u64 (wd (0) 0), .int .u64 (wd (0) 1), .int .u64 (wd (0) 2), .int .u64 (wd (0) 3)])] w fun e w' => e = .returned (.bool true) ∧ Below w.heap.size w w' := by
  have KD := Lib.hid (show ∀ w, Calls Tryd.prog 16 #[(.agg #[.bool (s), .int .u64 (wd (a) 0), .int .u64 (wd (a) 1), .int .u64 (wd (a) 2), .int .u64 (wd (a) 3)]), (.agg #[.bool (t), .int .u64 (wd (0) 0), .int .u64 (wd (0) 1), .int .u64 (wd (0) 2), .int .u64 (wd (0) 3)])] w fun e w' => e = .returned (.tuple #[(.agg #[.bool false, .int .u64 0, .int .u64 0, .int .u64 0, .int .u64 0]), (.agg #[.bool false, .int .u64 0, .int .u64 0, .int .u64 0, .int .u64 0]), .int .i64 22]) ∧ Below w.heap.size w w' from fun w => by
    have h := div_any s t a 0 ha (by decide) w
    rw [(div_zero s t a).1, (div_zero s t a).2.1, (div_zero s t a).2.2, z_zero] at h
    exact h)
  have KP := Lib.hid (plain_zero t)
  have K := Lib.hid awake_any
  have q0 := eq_00
  have HT := Lib.hid hT
  clear hT ha
  go_enter Tryd.func12, Tryd.ntmps12
  go_wp2_with fail
  ((with_reducible refine (KD.out _).mono ?_); rintro e w1 ⟨rfl, hb1⟩)
  obtain ⟨hc1, hf1⟩ := bcell hb1
  have hz1_w_0 : w.heap.size < w1.heap.size := by have h := hb1.size; (try simp at h); omega
  have hz1_w_1 : w.heap.size + 1 < w1.heap.size := by have h := hb1.size; (try simp at h); omega
  go_upto_region 2 with (fail)
  refine wp_world (fun x => (∀ o, x.cell? ⟨w.heap.size, o, none⟩ = (#[.bool (s), .int .u64 (wd (a) 0), .int .u64 (wd (a) 1), .int .u64 (wd (a) 2), .int .u64 (wd (a) 3)] : Array Value)[o]?) ∧ (∀ o, x.cell? ⟨w.heap.size + 1, o, none⟩ = (#[.bool (t), .int .u64 (wd (0) 0), .int .u64 (wd (0) 1), .int .u64 (wd (0) 2), .int .u64 (wd (0) 3)] : Array Value)[o]?) ∧ (∀ o, x.cell? ⟨w1.heap.size, o, none⟩ = (#[.bool false, .int .u64 0, .int .u64 0, .int .u64 0, .int .u64 0] : Array Value)[o]?) ∧ (∀ o, x.cell? ⟨w1.heap.size + 1, o, none⟩ = (#[.bool false, .int .u64 0, .int .u64 0, .int .u64 0, .int .u64 0] : Array Value)[o]?) ∧ (∀ o, x.frozen? ⟨w.heap.size, o, none⟩ = false) ∧ (∀ o, x.frozen? ⟨w.heap.size + 1, o, none⟩ = false) ∧ (∀ o, x.frozen? ⟨w1.heap.size, o, none⟩ = false) ∧ (∀ o, x.frozen? ⟨w1.heap.size + 1, o, none⟩ = false) ∧ w.heap.size < x.heap.size ∧ w.heap.size + 1 < x.heap.size ∧ w1.heap.size < x.heap.size ∧ w1.heap.size + 1 < x.heap.size ∧ Below w.heap.size w x) ⟨fun o => by simp [go_sem, hc1, hf1, hz1_w_0, hz1_w_1], fun o => by simp [go_sem, hc1, hf1, hz1_w_0, hz1_w_1], fun o => by simp [go_sem, hc1, hf1, hz1_w_0, hz1_w_1], fun o => by simp [go_sem, hc1, hf1, hz1_w_0, hz1_w_1], fun o => by simp [go_sem, hc1, hf1, hz1_w_0, hz1_w_1], fun o => by simp [go_sem, hc1, hf1, hz1_w_0, hz1_w_1], fun o => by simp [go_sem, hc1, hf1, hz1_w_0, hz1_w_1], fun o => by simp [go_sem, hc1, hf1, hz1_w_0, hz1_w_1], by (first | omega | (simp [go_sem, hc1, hf1, hz1_w_0, hz1_w_1]; done) | (simp [go_sem, hc1, hf1, hz1_w_0, hz1_w_1]; omega)), by (first | omega | (simp [go_sem, hc1, hf1, hz1_w_0, hz1_w_1]; done) | (simp [go_sem, hc1, hf1, hz1_w_0, hz1_w_1]; omega)), by (first | omega | (simp [go_sem, hc1, hf1, hz1_w_0, hz1_w_1]; done) | (simp [go_sem, hc1, hf1, hz1_w_0, hz1_w_1]; omega)), by (first | omega | (simp [go_sem, hc1, hf1, hz1_w_0, hz1_w_1]; done) | (simp [go_sem, hc1, hf1, hz1_w_0, hz1_w_1]; omega)), by (repeat' (first | (with_reducible exact Below.refl _ _) | (with_reducible assumption) | (with_reducible refine below_alloc ?_ _) | (with_reducible refine Below.drew ?_) | (with_reducible refine Below.setCell ?_ ?_ _) | (with_reducible refine below_after ?_ (by assumption)) | go_size))⟩ ?_
  rintro A ⟨hAc0, hAc1, hAc2, hAc3, hAf0, hAf1, hAf2, hAf3, hAz0, hAz1, hAz2, hAz3, hAb⟩
  clear hc1 hf1
  go_wp2_with fail
  ((with_reducible refine (KP.out _).mono ?_); rintro e w2 ⟨rfl, hb2⟩)
  have hk2 : Kp A.heap.size [] A w2 := (by (repeat (first | (with_reducible assumption) | (with_reducible exact Kp.refl (Nat.le_refl _)) | (with_reducible refine Kp.drew ?_) | (with_reducible refine Kp.alloc ?_ _) | ((with_reducible refine Kp.put ?_ ?_ _); focus (first | (left; go_size; done) | (right; simp; done))) | ((with_reducible apply Kp.later); (with_reducible assumption)))))
  have h2c0 := fun o => (hk2.cell _ o hAz0 (by simp)).trans (hAc0 o)
  have h2f0 := fun o => (hk2.froz _ o hAz0).trans (hAf0 o)
  have h2z0 := Nat.lt_of_lt_of_le hAz0 hk2.size
  have h2c1 := fun o => (hk2.cell _ o hAz1 (by simp)).trans (hAc1 o)
  have h2f1 := fun o => (hk2.froz _ o hAz1).trans (hAf1 o)
  have h2z1 := Nat.lt_of_lt_of_le hAz1 hk2.size
  have h2c2 := fun o => (hk2.cell _ o hAz2 (by simp)).trans (hAc2 o)
  have h2f2 := fun o => (hk2.froz _ o hAz2).trans (hAf2 o)
  have h2z2 := Nat.lt_of_lt_of_le hAz2 hk2.size
  have h2c3 := fun o => (hk2.cell _ o hAz3 (by simp)).trans (hAc3 o)
  have h2f3 := fun o => (hk2.froz _ o hAz3).trans (hAf3 o)
  have h2z3 := Nat.lt_of_lt_of_le hAz3 hk2.size
  go_wp2_with fail
  ((with_reducible refine (K.out _ (HT.out.later (by (repeat' (first | (with_reducible exact Below.refl _ _) | (with_reducible assumption) | (with_reducible refine below_alloc ?_ _) | (with_reducible refine Below.drew ?_) | (with_reducible refine Below.setCell ?_ ?_ _) | (with_reducible refine below_after ?_ (by assumption)) | go_size))))).mono ?_); rintro e w3 ⟨rfl, hb3⟩)
  have hk3 : Kp A.heap.size [] A w3 := (by (repeat (first | (with_reducible assumption) | (with_reducible exact Kp.refl (Nat.le_refl _)) | (with_reducible refine Kp.drew ?_) | (with_reducible refine Kp.alloc ?_ _) | ((with_reducible refine Kp.put ?_ ?_ _); focus (first | (left; go_size; done) | (right; simp; done))) | ((with_reducible apply Kp.later); (with_reducible assumption)))))
  have h3c0 := fun o => (hk3.cell _ o hAz0 (by simp)).trans (hAc0 o)
  have h3f0 := fun o => (hk3.froz _ o hAz0).trans (hAf0 o)
  have h3z0 := Nat.lt_of_lt_of_le hAz0 hk3.size
  have h3c1 := fun o => (hk3.cell _ o hAz1 (by simp)).trans (hAc1 o)
  have h3f1 := fun o => (hk3.froz _ o hAz1).trans (hAf1 o)
  have h3z1 := Nat.lt_of_lt_of_le hAz1 hk3.size
  have h3c2 := fun o => (hk3.cell _ o hAz2 (by simp)).trans (hAc2 o)
  have h3f2 := fun o => (hk3.froz _ o hAz2).trans (hAf2 o)
  have h3z2 := Nat.lt_of_lt_of_le hAz2 hk3.size
  have h3c3 := fun o => (hk3.cell _ o hAz3 (by simp)).trans (hAc3 o)
  have h3f3 := fun o => (hk3.froz _ o hAz3).trans (hAf3 o)
  have h3z3 := Nat.lt_of_lt_of_le hAz3 hk3.size
  go_wp2
  go_ret
  exact ⟨rfl, by (repeat' (first | (with_reducible exact Below.refl _ _) | (with_reducible assumption) | (with_reducible refine below_alloc ?_ _) | (with_reducible refine Below.drew ?_) | (with_reducible refine Below.setCell ?_ ?_ _) | (with_reducible refine below_after ?_ (by assumption)) | go_size))⟩
/-- The six blocks' facts behind the region that makes 'least' and 'most'. -/
def LeastMost (B1 B2 H : Nat) (x : World) (s : Bool) (b : Nat) : Prop :=
  H ≤ B1 ∧ B1 < x.heap.size ∧ H ≤ B2 ∧ B2 < x.heap.size ∧ B1 ≠ B2 ∧ (∀ o, x.cell? ⟨B1, o, none⟩ = (#[.bool false, .int .u64 0, .int .u64 0, .int .u64 0, .int .u64 0] : Array Value)[o]?) ∧ (∀ o, x.cell? ⟨B2, o, none⟩ = (#[.bool (s), .int .u64 (wd (b) 0), .int .u64 (wd (b) 1), .int .u64 (wd (b) 2), .int .u64 (wd (b) 3)] : Array Value)[o]?) ∧ (∀ o, x.frozen? ⟨B1, o, none⟩ = false) ∧ (∀ o, x.frozen? ⟨B2, o, none⟩ = false)
set_option maxHeartbeats 2000000 in
theorem division_pos (s : Bool) (a b : Nat) (q r p u : Int) (fe ge k0 : Int) (w : World) (hT : Tabs w) (ha : a < 2 ^ 256)
    (hb0 : b ≠ 0) (hb : b < 2 ^ 256)
    (hD : ∀ w, Calls Tryd.prog 16 #[(.agg #[.bool (s), .int .u64 (wd (a) 0), .int .u64 (wd (a) 1), .int .u64 (wd (a) 2), .int .u64 (wd (a) 3)]), (.agg #[.bool (false), .int .u64 (wd (b) 0), .int .u64 (wd (b) 1), .int .u64 (wd (b) 2), .int .u64 (wd (b) 3)])] w fun e w' => e = .returned (.tuple #[(.agg #[.bool (zs (q)), .int .u64 (wd (Int.natAbs (q)) 0), .int .u64 (wd (Int.natAbs (q)) 1), .int .u64 (wd (Int.natAbs (q)) 2), .int .u64 (wd (Int.natAbs (q)) 3)]), (.agg #[.bool (zs (r)), .int .u64 (wd (Int.natAbs (r)) 0), .int .u64 (wd (Int.natAbs (r)) 1), .int .u64 (wd (Int.natAbs (r)) 2), .int .u64 (wd (Int.natAbs (r)) 3)]), .int .i64 0]) ∧ Below w.heap.size w w')
    (hM : ∀ w, Calls Tryd.prog 13 #[(.agg #[.bool (zs (q)), .int .u64 (wd (Int.natAbs (q)) 0), .int .u64 (wd (Int.natAbs (q)) 1), .int .u64 (wd (Int.natAbs (q)) 2), .int .u64 (wd (Int.natAbs (q)) 3)]), (.agg #[.bool (false), .int .u64 (wd (b) 0), .int .u64 (wd (b) 1), .int .u64 (wd (b) 2), .int .u64 (wd (b) 3)])] w fun e w' => e = .returned (.tuple #[(.agg #[.bool (zs (p)), .int .u64 (wd (Int.natAbs (p)) 0), .int .u64 (wd (Int.natAbs (p)) 1), .int .u64 (wd (Int.natAbs (p)) 2), .int .u64 (wd (Int.natAbs (p)) 3)]), .int .i64 fe]) ∧ Below w.heap.size w w')
    (hA : ∀ w, Calls Tryd.prog 33 #[(.agg #[.bool (zs (p)), .int .u64 (wd (Int.natAbs (p)) 0), .int .u64 (wd (Int.natAbs (p)) 1), .int .u64 (wd (Int.natAbs (p)) 2), .int .u64 (wd (Int.natAbs (p)) 3)]), (.agg #[.bool (zs (r)), .int .u64 (wd (Int.natAbs (r)) 0), .int .u64 (wd (Int.natAbs (r)) 1), .int .u64 (wd (Int.natAbs (r)) 2), .int .u64 (wd (Int.natAbs (r)) 3)])] w fun e w' => e = .returned (.tuple #[(.agg #[.bool (zs (u)), .int .u64 (wd (Int.natAbs (u)) 0), .int .u64 (wd (Int.natAbs (u)) 1), .int .u64 (wd (Int.natAbs (u)) 2), .int .u64 (wd (Int.natAbs (u)) 3)]), .int .i64 ge]) ∧ Below w.heap.size w w')
    (h0 : ∀ w, Calls Tryd.prog 37 #[(.agg #[.bool (zs (r)), .int .u64 (wd (Int.natAbs (r)) 0), .int .u64 (wd (Int.natAbs (r)) 1), .int .u64 (wd (Int.natAbs (r)) 2), .int .u64 (wd (Int.natAbs (r)) 3)]), .agg #[.bool false, .int .u64 0, .int .u64 0, .int .u64 0, .int .u64 0]] w fun e w' => e = .returned (.int .i64 k0) ∧ Below w.heap.size w w')
    (h1 : ∀ w, Calls Tryd.prog 37 #[(.agg #[.bool (zs (r)), .int .u64 (wd (Int.natAbs (r)) 0), .int .u64 (wd (Int.natAbs (r)) 1), .int .u64 (wd (Int.natAbs (r)) 2), .int .u64 (wd (Int.natAbs (r)) 3)]), (.agg #[.bool (false), .int .u64 (wd (b) 0), .int .u64 (wd (b) 1), .int .u64 (wd (b) 2), .int .u64 (wd (b) 3)])] w fun e w' => e = .returned (.int .i64 (-1)) ∧ Below w.heap.size w w')
    (hk : k0 = 0 ∨ k0 = 1) (hf : fe = 21 ∨ (fe = 0 ∧ ge = 0 ∧ u = val s a)) :
    Calls Tryd.prog 12 #[(.agg #[.bool (s), .int .u64 (wd (a) 0), .int .u64 (wd (a) 1), .int .u64 (wd (a) 2), .int .u64 (wd (a) 3)]), (.agg #[.bool (false), .int .u64 (wd (b) 0), .int .u64 (wd (b) 1), .int .u64 (wd (b) 2), .int .u64 (wd (b) 3)])] w fun e w' => e = .returned (.bool true) ∧ Below w.heap.size w w' := by
  have KD := Lib.hid hD
  have KM := Lib.hid hM
  have KA := Lib.hid hA
  have K0 := Lib.hid h0
  have K1 := Lib.hid h1
  have KP := Lib.hid (plain_pos false b hb hb0)
  have KPa := Lib.hid (plain_any s a ha)
  have KO := Lib.hid (show ∀ w : World, Calls Tryd.prog 28 #[.int .i64 0] w fun e w' => e = .returned (.agg #[.bool false, .int .u64 0, .int .u64 0, .int .u64 0, .int .u64 0]) ∧ Below w.heap.size w w' from fun w => of_lit 0 (by omega) (by omega) w)
  have K := Lib.hid awake_any
  have qb := eq_wide0_pos false b hb hb0
  have qz := eq_zz (val s a) (by rw [abs_val]; exact ha)
  have HT := Lib.hid hT
  have HK := Lib.hid hk
  have HF := Lib.hid hf
  clear hT ha hb0 hb hD hM hA h0 h1 hk hf
  go_enter Tryd.func12, Tryd.ntmps12
  go_wp2_with fail
  ((with_reducible refine (KD.out _).mono ?_); rintro e w1 ⟨rfl, hb1⟩)
  obtain ⟨hc1, hf1⟩ := bcell hb1
  have hz1_w_0 : w.heap.size < w1.heap.size := by have h := hb1.size; (try simp at h); omega
  have hz1_w_1 : w.heap.size + 1 < w1.heap.size := by have h := hb1.size; (try simp at h); omega
  go_upto_region 2 with (fail)
  refine wp_world (fun x => (∀ o, x.cell? ⟨w.heap.size, o, none⟩ = (#[.bool (s), .int .u64 (wd (a) 0), .int .u64 (wd (a) 1), .int .u64 (wd (a) 2), .int .u64 (wd (a) 3)] : Array Value)[o]?) ∧ (∀ o, x.cell? ⟨w.heap.size + 1, o, none⟩ = (#[.bool (false), .int .u64 (wd (b) 0), .int .u64 (wd (b) 1), .int .u64 (wd (b) 2), .int .u64 (wd (b) 3)] : Array Value)[o]?) ∧ (∀ o, x.cell? ⟨w1.heap.size, o, none⟩ = (#[.bool (zs (q)), .int .u64 (wd (Int.natAbs (q)) 0), .int .u64 (wd (Int.natAbs (q)) 1), .int .u64 (wd (Int.natAbs (q)) 2), .int .u64 (wd (Int.natAbs (q)) 3)] : Array Value)[o]?) ∧ (∀ o, x.cell? ⟨w1.heap.size + 1, o, none⟩ = (#[.bool (zs (r)), .int .u64 (wd (Int.natAbs (r)) 0), .int .u64 (wd (Int.natAbs (r)) 1), .int .u64 (wd (Int.natAbs (r)) 2), .int .u64 (wd (Int.natAbs (r)) 3)] : Array Value)[o]?) ∧ (∀ o, x.frozen? ⟨w.heap.size, o, none⟩ = false) ∧ (∀ o, x.frozen? ⟨w.heap.size + 1, o, none⟩ = false) ∧ (∀ o, x.frozen? ⟨w1.heap.size, o, none⟩ = false) ∧ (∀ o, x.frozen? ⟨w1.heap.size + 1, o, none⟩ = false) ∧ w.heap.size < x.heap.size ∧ w.heap.size + 1 < x.heap.size ∧ w1.heap.size < x.heap.size ∧ w1.heap.size + 1 < x.heap.size ∧ Below w.heap.size w x) ⟨fun o => by simp [go_sem, hc1, hf1, hz1_w_0, hz1_w_1], fun o => by simp [go_sem, hc1, hf1, hz1_w_0, hz1_w_1], fun o => by simp [go_sem, hc1, hf1, hz1_w_0, hz1_w_1], fun o => by simp [go_sem, hc1, hf1, hz1_w_0, hz1_w_1], fun o => by simp [go_sem, hc1, hf1, hz1_w_0, hz1_w_1], fun o => by simp [go_sem, hc1, hf1, hz1_w_0, hz1_w_1], fun o => by simp [go_sem, hc1, hf1, hz1_w_0, hz1_w_1], fun o => by simp [go_sem, hc1, hf1, hz1_w_0, hz1_w_1], by (first | omega | (simp [go_sem, hc1, hf1, hz1_w_0, hz1_w_1]; done) | (simp [go_sem, hc1, hf1, hz1_w_0, hz1_w_1]; omega)), by (first | omega | (simp [go_sem, hc1, hf1, hz1_w_0, hz1_w_1]; done) | (simp [go_sem, hc1, hf1, hz1_w_0, hz1_w_1]; omega)), by (first | omega | (simp [go_sem, hc1, hf1, hz1_w_0, hz1_w_1]; done) | (simp [go_sem, hc1, hf1, hz1_w_0, hz1_w_1]; omega)), by (first | omega | (simp [go_sem, hc1, hf1, hz1_w_0, hz1_w_1]; done) | (simp [go_sem, hc1, hf1, hz1_w_0, hz1_w_1]; omega)), by (repeat' (first | (with_reducible exact Below.refl _ _) | (with_reducible assumption) | (with_reducible refine below_alloc ?_ _) | (with_reducible refine Below.drew ?_) | (with_reducible refine Below.setCell ?_ ?_ _) | (with_reducible refine below_after ?_ (by assumption)) | go_size))⟩ ?_
  rintro A ⟨hAc0, hAc1, hAc2, hAc3, hAf0, hAf1, hAf2, hAf3, hAz0, hAz1, hAz2, hAz3, hAb⟩
  clear hc1 hf1
  go_wp2_with fail
  ((with_reducible refine (KP.out _).mono ?_); rintro e w2 ⟨rfl, hb2⟩)
  have hk2 : Kp A.heap.size [] A w2 := (by (repeat (first | (with_reducible assumption) | (with_reducible exact Kp.refl (Nat.le_refl _)) | (with_reducible refine Kp.drew ?_) | (with_reducible refine Kp.alloc ?_ _) | ((with_reducible refine Kp.put ?_ ?_ _); focus (first | (left; go_size; done) | (right; simp; done))) | ((with_reducible apply Kp.later); (with_reducible assumption)))))
  have h2c0 := fun o => (hk2.cell _ o hAz0 (by simp)).trans (hAc0 o)
  have h2f0 := fun o => (hk2.froz _ o hAz0).trans (hAf0 o)
  have h2z0 := Nat.lt_of_lt_of_le hAz0 hk2.size
  have h2c1 := fun o => (hk2.cell _ o hAz1 (by simp)).trans (hAc1 o)
  have h2f1 := fun o => (hk2.froz _ o hAz1).trans (hAf1 o)
  have h2z1 := Nat.lt_of_lt_of_le hAz1 hk2.size
  have h2c2 := fun o => (hk2.cell _ o hAz2 (by simp)).trans (hAc2 o)
  have h2f2 := fun o => (hk2.froz _ o hAz2).trans (hAf2 o)
  have h2z2 := Nat.lt_of_lt_of_le hAz2 hk2.size
  have h2c3 := fun o => (hk2.cell _ o hAz3 (by simp)).trans (hAc3 o)
  have h2f3 := fun o => (hk2.froz _ o hAz3).trans (hAf3 o)
  have h2z3 := Nat.lt_of_lt_of_le hAz3 hk2.size
  go_upto_region 4 with (fail)
  refine wp_world (fun x => (∀ o, x.cell? ⟨w.heap.size, o, none⟩ = (#[.bool (s), .int .u64 (wd (a) 0), .int .u64 (wd (a) 1), .int .u64 (wd (a) 2), .int .u64 (wd (a) 3)] : Array Value)[o]?) ∧ (∀ o, x.cell? ⟨w.heap.size + 1, o, none⟩ = (#[.bool (false), .int .u64 (wd (b) 0), .int .u64 (wd (b) 1), .int .u64 (wd (b) 2), .int .u64 (wd (b) 3)] : Array Value)[o]?) ∧ (∀ o, x.cell? ⟨w1.heap.size, o, none⟩ = (#[.bool (zs (q)), .int .u64 (wd (Int.natAbs (q)) 0), .int .u64 (wd (Int.natAbs (q)) 1), .int .u64 (wd (Int.natAbs (q)) 2), .int .u64 (wd (Int.natAbs (q)) 3)] : Array Value)[o]?) ∧ (∀ o, x.cell? ⟨w1.heap.size + 1, o, none⟩ = (#[.bool (zs (r)), .int .u64 (wd (Int.natAbs (r)) 0), .int .u64 (wd (Int.natAbs (r)) 1), .int .u64 (wd (Int.natAbs (r)) 2), .int .u64 (wd (Int.natAbs (r)) 3)] : Array Value)[o]?) ∧ (∀ o, x.frozen? ⟨w.heap.size, o, none⟩ = false) ∧ (∀ o, x.frozen? ⟨w.heap.size + 1, o, none⟩ = false) ∧ (∀ o, x.frozen? ⟨w1.heap.size, o, none⟩ = false) ∧ (∀ o, x.frozen? ⟨w1.heap.size + 1, o, none⟩ = false) ∧ w.heap.size < x.heap.size ∧ w.heap.size + 1 < x.heap.size ∧ w1.heap.size < x.heap.size ∧ w1.heap.size + 1 < x.heap.size ∧ Below w.heap.size w x) ⟨fun o => by simp [go_sem, h2c0, h2f0, h2z0, h2c1, h2f1, h2z1, h2c2, h2f2, h2z2, h2c3, h2f3, h2z3], fun o => by simp [go_sem, h2c0, h2f0, h2z0, h2c1, h2f1, h2z1, h2c2, h2f2, h2z2, h2c3, h2f3, h2z3], fun o => by simp [go_sem, h2c0, h2f0, h2z0, h2c1, h2f1, h2z1, h2c2, h2f2, h2z2, h2c3, h2f3, h2z3], fun o => by simp [go_sem, h2c0, h2f0, h2z0, h2c1, h2f1, h2z1, h2c2, h2f2, h2z2, h2c3, h2f3, h2z3], fun o => by simp [go_sem, h2c0, h2f0, h2z0, h2c1, h2f1, h2z1, h2c2, h2f2, h2z2, h2c3, h2f3, h2z3], fun o => by simp [go_sem, h2c0, h2f0, h2z0, h2c1, h2f1, h2z1, h2c2, h2f2, h2z2, h2c3, h2f3, h2z3], fun o => by simp [go_sem, h2c0, h2f0, h2z0, h2c1, h2f1, h2z1, h2c2, h2f2, h2z2, h2c3, h2f3, h2z3], fun o => by simp [go_sem, h2c0, h2f0, h2z0, h2c1, h2f1, h2z1, h2c2, h2f2, h2z2, h2c3, h2f3, h2z3], by (first | omega | (simp [go_sem, h2c0, h2f0, h2z0, h2c1, h2f1, h2z1, h2c2, h2f2, h2z2, h2c3, h2f3, h2z3]; done) | (simp [go_sem, h2c0, h2f0, h2z0, h2c1, h2f1, h2z1, h2c2, h2f2, h2z2, h2c3, h2f3, h2z3]; omega)), by (first | omega | (simp [go_sem, h2c0, h2f0, h2z0, h2c1, h2f1, h2z1, h2c2, h2f2, h2z2, h2c3, h2f3, h2z3]; done) | (simp [go_sem, h2c0, h2f0, h2z0, h2c1, h2f1, h2z1, h2c2, h2f2, h2z2, h2c3, h2f3, h2z3]; omega)), by (first | omega | (simp [go_sem, h2c0, h2f0, h2z0, h2c1, h2f1, h2z1, h2c2, h2f2, h2z2, h2c3, h2f3, h2z3]; done) | (simp [go_sem, h2c0, h2f0, h2z0, h2c1, h2f1, h2z1, h2c2, h2f2, h2z2, h2c3, h2f3, h2z3]; omega)), by (first | omega | (simp [go_sem, h2c0, h2f0, h2z0, h2c1, h2f1, h2z1, h2c2, h2f2, h2z2, h2c3, h2f3, h2z3]; done) | (simp [go_sem, h2c0, h2f0, h2z0, h2c1, h2f1, h2z1, h2c2, h2f2, h2z2, h2c3, h2f3, h2z3]; omega)), by (repeat' (first | (with_reducible exact Below.refl _ _) | (with_reducible assumption) | (with_reducible refine below_alloc ?_ _) | (with_reducible refine Below.drew ?_) | (with_reducible refine Below.setCell ?_ ?_ _) | (with_reducible refine below_after ?_ (by assumption)) | go_size))⟩ ?_
  rintro B ⟨hBc0, hBc1, hBc2, hBc3, hBf0, hBf1, hBf2, hBf3, hBz0, hBz1, hBz2, hBz3, hBb⟩
  go_wp2_with fail
  ((with_reducible refine (KM.out _).mono ?_); rintro e w3 ⟨rfl, hb3⟩)
  have hk3 : Kp B.heap.size [] B w3 := (by (repeat (first | (with_reducible assumption) | (with_reducible exact Kp.refl (Nat.le_refl _)) | (with_reducible refine Kp.drew ?_) | (with_reducible refine Kp.alloc ?_ _) | ((with_reducible refine Kp.put ?_ ?_ _); focus (first | (left; go_size; done) | (right; simp; done))) | ((with_reducible apply Kp.later); (with_reducible assumption)))))
  have h3c0 := fun o => (hk3.cell _ o hBz0 (by simp)).trans (hBc0 o)
  have h3f0 := fun o => (hk3.froz _ o hBz0).trans (hBf0 o)
  have h3z0 := Nat.lt_of_lt_of_le hBz0 hk3.size
  have h3c1 := fun o => (hk3.cell _ o hBz1 (by simp)).trans (hBc1 o)
  have h3f1 := fun o => (hk3.froz _ o hBz1).trans (hBf1 o)
  have h3z1 := Nat.lt_of_lt_of_le hBz1 hk3.size
  have h3c2 := fun o => (hk3.cell _ o hBz2 (by simp)).trans (hBc2 o)
  have h3f2 := fun o => (hk3.froz _ o hBz2).trans (hBf2 o)
  have h3z2 := Nat.lt_of_lt_of_le hBz2 hk3.size
  have h3c3 := fun o => (hk3.cell _ o hBz3 (by simp)).trans (hBc3 o)
  have h3f3 := fun o => (hk3.froz _ o hBz3).trans (hBf3 o)
  have h3z3 := Nat.lt_of_lt_of_le hBz3 hk3.size
  go_upto_region 5 with (fail)
  refine wp_world (fun x => (∀ o, x.cell? ⟨w.heap.size, o, none⟩ = (#[.bool (s), .int .u64 (wd (a) 0), .int .u64 (wd (a) 1), .int .u64 (wd (a) 2), .int .u64 (wd (a) 3)] : Array Value)[o]?) ∧ (∀ o, x.cell? ⟨w.heap.size + 1, o, none⟩ = (#[.bool (false), .int .u64 (wd (b) 0), .int .u64 (wd (b) 1), .int .u64 (wd (b) 2), .int .u64 (wd (b) 3)] : Array Value)[o]?) ∧ (∀ o, x.cell? ⟨w3.heap.size, o, none⟩ = (#[.bool (zs (p)), .int .u64 (wd (Int.natAbs (p)) 0), .int .u64 (wd (Int.natAbs (p)) 1), .int .u64 (wd (Int.natAbs (p)) 2), .int .u64 (wd (Int.natAbs (p)) 3)] : Array Value)[o]?) ∧ (∀ o, x.cell? ⟨w1.heap.size + 1, o, none⟩ = (#[.bool (zs (r)), .int .u64 (wd (Int.natAbs (r)) 0), .int .u64 (wd (Int.natAbs (r)) 1), .int .u64 (wd (Int.natAbs (r)) 2), .int .u64 (wd (Int.natAbs (r)) 3)] : Array Value)[o]?) ∧ (∀ o, x.frozen? ⟨w.heap.size, o, none⟩ = false) ∧ (∀ o, x.frozen? ⟨w.heap.size + 1, o, none⟩ = false) ∧ (∀ o, x.frozen? ⟨w3.heap.size, o, none⟩ = false) ∧ (∀ o, x.frozen? ⟨w1.heap.size + 1, o, none⟩ = false) ∧ w.heap.size < x.heap.size ∧ w.heap.size + 1 < x.heap.size ∧ w3.heap.size < x.heap.size ∧ w1.heap.size + 1 < x.heap.size ∧ Below w.heap.size w x) ⟨fun o => by simp [go_sem, h3c0, h3f0, h3z0, h3c1, h3f1, h3z1, h3c2, h3f2, h3z2, h3c3, h3f3, h3z3], fun o => by simp [go_sem, h3c0, h3f0, h3z0, h3c1, h3f1, h3z1, h3c2, h3f2, h3z2, h3c3, h3f3, h3z3], fun o => by simp [go_sem, h3c0, h3f0, h3z0, h3c1, h3f1, h3z1, h3c2, h3f2, h3z2, h3c3, h3f3, h3z3], fun o => by simp [go_sem, h3c0, h3f0, h3z0, h3c1, h3f1, h3z1, h3c2, h3f2, h3z2, h3c3, h3f3, h3z3], fun o => by simp [go_sem, h3c0, h3f0, h3z0, h3c1, h3f1, h3z1, h3c2, h3f2, h3z2, h3c3, h3f3, h3z3], fun o => by simp [go_sem, h3c0, h3f0, h3z0, h3c1, h3f1, h3z1, h3c2, h3f2, h3z2, h3c3, h3f3, h3z3], fun o => by simp [go_sem, h3c0, h3f0, h3z0, h3c1, h3f1, h3z1, h3c2, h3f2, h3z2, h3c3, h3f3, h3z3], fun o => by simp [go_sem, h3c0, h3f0, h3z0, h3c1, h3f1, h3z1, h3c2, h3f2, h3z2, h3c3, h3f3, h3z3], by (first | omega | (simp [go_sem, h3c0, h3f0, h3z0, h3c1, h3f1, h3z1, h3c2, h3f2, h3z2, h3c3, h3f3, h3z3]; done) | (simp [go_sem, h3c0, h3f0, h3z0, h3c1, h3f1, h3z1, h3c2, h3f2, h3z2, h3c3, h3f3, h3z3]; omega)), by (first | omega | (simp [go_sem, h3c0, h3f0, h3z0, h3c1, h3f1, h3z1, h3c2, h3f2, h3z2, h3c3, h3f3, h3z3]; done) | (simp [go_sem, h3c0, h3f0, h3z0, h3c1, h3f1, h3z1, h3c2, h3f2, h3z2, h3c3, h3f3, h3z3]; omega)), by (first | omega | (simp [go_sem, h3c0, h3f0, h3z0, h3c1, h3f1, h3z1, h3c2, h3f2, h3z2, h3c3, h3f3, h3z3]; done) | (simp [go_sem, h3c0, h3f0, h3z0, h3c1, h3f1, h3z1, h3c2, h3f2, h3z2, h3c3, h3f3, h3z3]; omega)), by (first | omega | (simp [go_sem, h3c0, h3f0, h3z0, h3c1, h3f1, h3z1, h3c2, h3f2, h3z2, h3c3, h3f3, h3z3]; done) | (simp [go_sem, h3c0, h3f0, h3z0, h3c1, h3f1, h3z1, h3c2, h3f2, h3z2, h3c3, h3f3, h3z3]; omega)), by (repeat' (first | (with_reducible exact Below.refl _ _) | (with_reducible assumption) | (with_reducible refine below_alloc ?_ _) | (with_reducible refine Below.drew ?_) | (with_reducible refine Below.setCell ?_ ?_ _) | (with_reducible refine below_after ?_ (by assumption)) | go_size))⟩ ?_
  rintro C ⟨hCc0, hCc1, hCc2, hCc3, hCf0, hCf1, hCf2, hCf3, hCz0, hCz1, hCz2, hCz3, hCb⟩
  go_wp2_with fail
  ((with_reducible refine (KA.out _).mono ?_); rintro e w4 ⟨rfl, hb4⟩)
  have hk4 : Kp C.heap.size [] C w4 := (by (repeat (first | (with_reducible assumption) | (with_reducible exact Kp.refl (Nat.le_refl _)) | (with_reducible refine Kp.drew ?_) | (with_reducible refine Kp.alloc ?_ _) | ((with_reducible refine Kp.put ?_ ?_ _); focus (first | (left; go_size; done) | (right; simp; done))) | ((with_reducible apply Kp.later); (with_reducible assumption)))))
  have h4c0 := fun o => (hk4.cell _ o hCz0 (by simp)).trans (hCc0 o)
  have h4f0 := fun o => (hk4.froz _ o hCz0).trans (hCf0 o)
  have h4z0 := Nat.lt_of_lt_of_le hCz0 hk4.size
  have h4c1 := fun o => (hk4.cell _ o hCz1 (by simp)).trans (hCc1 o)
  have h4f1 := fun o => (hk4.froz _ o hCz1).trans (hCf1 o)
  have h4z1 := Nat.lt_of_lt_of_le hCz1 hk4.size
  have h4c2 := fun o => (hk4.cell _ o hCz2 (by simp)).trans (hCc2 o)
  have h4f2 := fun o => (hk4.froz _ o hCz2).trans (hCf2 o)
  have h4z2 := Nat.lt_of_lt_of_le hCz2 hk4.size
  have h4c3 := fun o => (hk4.cell _ o hCz3 (by simp)).trans (hCc3 o)
  have h4f3 := fun o => (hk4.froz _ o hCz3).trans (hCf3 o)
  have h4z3 := Nat.lt_of_lt_of_le hCz3 hk4.size
  go_upto_region 6 with (fail)
  refine wp_world (fun x => (∀ o, x.cell? ⟨w.heap.size, o, none⟩ = (#[.bool (s), .int .u64 (wd (a) 0), .int .u64 (wd (a) 1), .int .u64 (wd (a) 2), .int .u64 (wd (a) 3)] : Array Value)[o]?) ∧ (∀ o, x.cell? ⟨w.heap.size + 1, o, none⟩ = (#[.bool (false), .int .u64 (wd (b) 0), .int .u64 (wd (b) 1), .int .u64 (wd (b) 2), .int .u64 (wd (b) 3)] : Array Value)[o]?) ∧ (∀ o, x.cell? ⟨w4.heap.size, o, none⟩ = (#[.bool (zs (u)), .int .u64 (wd (Int.natAbs (u)) 0), .int .u64 (wd (Int.natAbs (u)) 1), .int .u64 (wd (Int.natAbs (u)) 2), .int .u64 (wd (Int.natAbs (u)) 3)] : Array Value)[o]?) ∧ (∀ o, x.cell? ⟨w1.heap.size + 1, o, none⟩ = (#[.bool (zs (r)), .int .u64 (wd (Int.natAbs (r)) 0), .int .u64 (wd (Int.natAbs (r)) 1), .int .u64 (wd (Int.natAbs (r)) 2), .int .u64 (wd (Int.natAbs (r)) 3)] : Array Value)[o]?) ∧ (∀ o, x.frozen? ⟨w.heap.size, o, none⟩ = false) ∧ (∀ o, x.frozen? ⟨w.heap.size + 1, o, none⟩ = false) ∧ (∀ o, x.frozen? ⟨w4.heap.size, o, none⟩ = false) ∧ (∀ o, x.frozen? ⟨w1.heap.size + 1, o, none⟩ = false) ∧ w.heap.size < x.heap.size ∧ w.heap.size + 1 < x.heap.size ∧ w4.heap.size < x.heap.size ∧ w1.heap.size + 1 < x.heap.size ∧ Below w.heap.size w x) ⟨fun o => by simp [go_sem, h4c0, h4f0, h4z0, h4c1, h4f1, h4z1, h4c2, h4f2, h4z2, h4c3, h4f3, h4z3], fun o => by simp [go_sem, h4c0, h4f0, h4z0, h4c1, h4f1, h4z1, h4c2, h4f2, h4z2, h4c3, h4f3, h4z3], fun o => by simp [go_sem, h4c0, h4f0, h4z0, h4c1, h4f1, h4z1, h4c2, h4f2, h4z2, h4c3, h4f3, h4z3], fun o => by simp [go_sem, h4c0, h4f0, h4z0, h4c1, h4f1, h4z1, h4c2, h4f2, h4z2, h4c3, h4f3, h4z3], fun o => by simp [go_sem, h4c0, h4f0, h4z0, h4c1, h4f1, h4z1, h4c2, h4f2, h4z2, h4c3, h4f3, h4z3], fun o => by simp [go_sem, h4c0, h4f0, h4z0, h4c1, h4f1, h4z1, h4c2, h4f2, h4z2, h4c3, h4f3, h4z3], fun o => by simp [go_sem, h4c0, h4f0, h4z0, h4c1, h4f1, h4z1, h4c2, h4f2, h4z2, h4c3, h4f3, h4z3], fun o => by simp [go_sem, h4c0, h4f0, h4z0, h4c1, h4f1, h4z1, h4c2, h4f2, h4z2, h4c3, h4f3, h4z3], by (first | omega | (simp [go_sem, h4c0, h4f0, h4z0, h4c1, h4f1, h4z1, h4c2, h4f2, h4z2, h4c3, h4f3, h4z3]; done) | (simp [go_sem, h4c0, h4f0, h4z0, h4c1, h4f1, h4z1, h4c2, h4f2, h4z2, h4c3, h4f3, h4z3]; omega)), by (first | omega | (simp [go_sem, h4c0, h4f0, h4z0, h4c1, h4f1, h4z1, h4c2, h4f2, h4z2, h4c3, h4f3, h4z3]; done) | (simp [go_sem, h4c0, h4f0, h4z0, h4c1, h4f1, h4z1, h4c2, h4f2, h4z2, h4c3, h4f3, h4z3]; omega)), by (first | omega | (simp [go_sem, h4c0, h4f0, h4z0, h4c1, h4f1, h4z1, h4c2, h4f2, h4z2, h4c3, h4f3, h4z3]; done) | (simp [go_sem, h4c0, h4f0, h4z0, h4c1, h4f1, h4z1, h4c2, h4f2, h4z2, h4c3, h4f3, h4z3]; omega)), by (first | omega | (simp [go_sem, h4c0, h4f0, h4z0, h4c1, h4f1, h4z1, h4c2, h4f2, h4z2, h4c3, h4f3, h4z3]; done) | (simp [go_sem, h4c0, h4f0, h4z0, h4c1, h4f1, h4z1, h4c2, h4f2, h4z2, h4c3, h4f3, h4z3]; omega)), by (repeat' (first | (with_reducible exact Below.refl _ _) | (with_reducible assumption) | (with_reducible refine below_alloc ?_ _) | (with_reducible refine Below.drew ?_) | (with_reducible refine Below.setCell ?_ ?_ _) | (with_reducible refine below_after ?_ (by assumption)) | go_size))⟩ ?_
  rintro D ⟨hDc0, hDc1, hDc2, hDc3, hDf0, hDf1, hDf2, hDf3, hDz0, hDz1, hDz2, hDz3, hDb⟩
  go_cut [12, 13] (fun v12 v13 wx => ∃ B1 B2 : Nat, v12 = .pointer (some ⟨B1, 0, none⟩) ∧ v13 = .pointer (some ⟨B2, 0, none⟩) ∧ LeastMost B1 B2 D.heap.size wx false b ∧ Below D.heap.size D wx)
  case first =>
    refine wp_world (fun x => (∀ o, x.cell? ⟨w.heap.size + 1, o, none⟩ = (#[.bool (false), .int .u64 (wd (b) 0), .int .u64 (wd (b) 1), .int .u64 (wd (b) 2), .int .u64 (wd (b) 3)] : Array Value)[o]?) ∧ w.heap.size + 1 < x.heap.size ∧ Below D.heap.size D x) ⟨fun o => by first | (simp [go_sem, hDc1, hDz1]; done) | (rcases o with _ | _ | _ | _ | _ | o <;> simp [go_sem, hDc1, hDz1]), by (first | omega | (simp [go_sem, hDc1, hDz1]; done) | (simp [go_sem, hDc1, hDz1]; omega)), by (repeat' (first | (with_reducible exact Below.refl _ _) | (with_reducible assumption) | (with_reducible refine below_alloc ?_ _) | (with_reducible refine Below.drew ?_) | (with_reducible refine Below.setCell ?_ ?_ _) | (with_reducible refine below_after ?_ (by assumption)) | go_size))⟩ ?_
    rintro E ⟨hEc0, hEz0, hEb⟩
    have hEK := Lib.hid (show ∀ x : World, Kp E.heap.size [] E x → ((∀ o, x.cell? ⟨w.heap.size + 1, o, none⟩ = (#[.bool (false), .int .u64 (wd (b) 0), .int .u64 (wd (b) 1), .int .u64 (wd (b) 2), .int .u64 (wd (b) 3)] : Array Value)[o]?) ∧ w.heap.size + 1 < x.heap.size ∧ E.heap.size ≤ x.heap.size) from fun x k => ⟨fun o => (k.cell _ o hEz0 (by first | (simp; done) | (simp; omega))).trans (hEc0 o), Nat.lt_of_lt_of_le hEz0 k.size, k.size⟩)
    go_region_held3 (fun x => (∀ o, x.cell? ⟨w.heap.size + 1, o, none⟩ = (#[.bool (false), .int .u64 (wd (b) 0), .int .u64 (wd (b) 1), .int .u64 (wd (b) 2), .int .u64 (wd (b) 3)] : Array Value)[o]?) ∧ w.heap.size + 1 < x.heap.size ∧ E.heap.size ≤ x.heap.size) ((refine hEK.out _ ?_; (repeat (first | (with_reducible assumption) | (with_reducible exact Kp.refl (Nat.le_refl _)) | (with_reducible refine Kp.drew ?_) | (with_reducible refine Kp.alloc ?_ _) | ((with_reducible refine Kp.put ?_ ?_ _); focus (first | (left; go_size; done) | (right; simp; done))) | ((with_reducible apply Kp.later); (with_reducible assumption)))))) ((first | (go_at_call 28; (with_reducible refine (KO.out _).mono ?_); rintro e E_1 ⟨rfl, hbE_1⟩; have hkE_1 : Kp E.heap.size [] E E_1 := (by (repeat (first | (with_reducible assumption) | (with_reducible exact Kp.refl (Nat.le_refl _)) | (with_reducible refine Kp.drew ?_) | (with_reducible refine Kp.alloc ?_ _) | ((with_reducible refine Kp.put ?_ ?_ _); focus (first | (left; go_size; done) | (right; simp; done))) | ((with_reducible apply Kp.later); (with_reducible assumption))))); obtain ⟨hE_1k, hE_1g⟩ := bcell hbE_1; have hE_1r := hkE_1.size; have hE_1s := hbE_1.size; (try (have hE_1t : E.heap.size < E_1.heap.size := (by simp at hE_1s; omega))))))
    all_goals
      go_wp2
      go_meet
    · case rel =>
        have hws := hEb.size
        (try simp at hE_1s)
        refine ⟨_, _, rfl, rfl, ⟨?_, ?_, ?_, ?_, ?_, ?_, ?_, ?_, ?_⟩, by (repeat' (first | (with_reducible exact Below.refl _ _) | (with_reducible assumption) | (with_reducible refine below_alloc ?_ _) | (with_reducible refine Below.drew ?_) | (with_reducible refine Below.setCell ?_ ?_ _) | (with_reducible refine below_after ?_ (by assumption)) | go_size))⟩
        · first | omega | (simp; done) | (simp; omega)
        · first | omega | (simp; done) | (simp; omega)
        · first | omega | (simp; done) | (simp; omega)
        · first | omega | (simp; done) | (simp; omega)
        · first | omega | (simp; done) | (simp; omega)
        · intro o; simp [go_sem]
        · intro o; simp [go_sem]
        · intro o
          first
            | (simp [go_sem]; done)
            | (simp [go_sem, hE_1g]; done)
            | (simp [go_sem, hE_1g, hE_1t]; done)
        · intro o
          first
            | (simp [go_sem]; done)
            | (simp [go_sem, hE_1g]; done)
            | (simp [go_sem, hE_1g, hE_1t]; done)
    · case rel =>
        have hws := hEb.size
        (try simp at hE_1s)
        refine ⟨_, _, rfl, rfl, ⟨?_, ?_, ?_, ?_, ?_, ?_, ?_, ?_, ?_⟩, by (repeat' (first | (with_reducible exact Below.refl _ _) | (with_reducible assumption) | (with_reducible refine below_alloc ?_ _) | (with_reducible refine Below.drew ?_) | (with_reducible refine Below.setCell ?_ ?_ _) | (with_reducible refine below_after ?_ (by assumption)) | go_size))⟩
        · first | omega | (simp; done) | (simp; omega)
        · first | omega | (simp; done) | (simp; omega)
        · first | omega | (simp; done) | (simp; omega)
        · first | omega | (simp; done) | (simp; omega)
        · first | omega | (simp; done) | (simp; omega)
        · intro o; simp [go_sem]
        · intro o; simp [go_sem]
        · intro o
          first
            | (simp [go_sem]; done)
            | (simp [go_sem, hE_1g]; done)
            | (simp [go_sem, hE_1g, hE_1t]; done)
        · intro o
          first
            | (simp [go_sem]; done)
            | (simp [go_sem, hE_1g]; done)
            | (simp [go_sem, hE_1g, hE_1t]; done)
    · case rel =>
        have hws := hEb.size
        (try simp at hE_1s)
        refine ⟨_, _, rfl, rfl, ⟨?_, ?_, ?_, ?_, ?_, ?_, ?_, ?_, ?_⟩, by (repeat' (first | (with_reducible exact Below.refl _ _) | (with_reducible assumption) | (with_reducible refine below_alloc ?_ _) | (with_reducible refine Below.drew ?_) | (with_reducible refine Below.setCell ?_ ?_ _) | (with_reducible refine below_after ?_ (by assumption)) | go_size))⟩
        · first | omega | (simp; done) | (simp; omega)
        · first | omega | (simp; done) | (simp; omega)
        · first | omega | (simp; done) | (simp; omega)
        · first | omega | (simp; done) | (simp; omega)
        · first | omega | (simp; done) | (simp; omega)
        · exact keep_cell_a (by simp; omega) (set_at (set_at (set_at (set_at (set_at (xs := #[.bool false, .int .u64 0, .int .u64 0, .int .u64 0, .int .u64 0]) (fun o => by first | (simp [go_sem, hE_1k]; done) | (simp [go_sem, hE_1k, hE_1t]; done)))))))
        · intro o; simp [go_sem]
        · intro o
          first
            | (simp [go_sem]; done)
            | (simp [go_sem, hE_1g]; done)
            | (simp [go_sem, hE_1g, hE_1t]; done)
        · intro o
          first
            | (simp [go_sem]; done)
            | (simp [go_sem, hE_1g]; done)
            | (simp [go_sem, hE_1g, hE_1t]; done)
    · case rel =>
        have hws := hEb.size
        (try simp at hE_1s)
        refine ⟨_, _, rfl, rfl, ⟨?_, ?_, ?_, ?_, ?_, ?_, ?_, ?_, ?_⟩, by (repeat' (first | (with_reducible exact Below.refl _ _) | (with_reducible assumption) | (with_reducible refine below_alloc ?_ _) | (with_reducible refine Below.drew ?_) | (with_reducible refine Below.setCell ?_ ?_ _) | (with_reducible refine below_after ?_ (by assumption)) | go_size))⟩
        · first | omega | (simp; done) | (simp; omega)
        · first | omega | (simp; done) | (simp; omega)
        · first | omega | (simp; done) | (simp; omega)
        · first | omega | (simp; done) | (simp; omega)
        · first | omega | (simp; done) | (simp; omega)
        · exact set_far (by first | omega | (simp; done) | (simp; omega)) (set_far (by first | omega | (simp; done) | (simp; omega)) (set_far (by first | omega | (simp; done) | (simp; omega)) (set_far (by first | omega | (simp; done) | (simp; omega)) (set_far (by first | omega | (simp; done) | (simp; omega)) (set_at (set_at (set_at (set_at (set_at (xs := #[.bool false, .int .u64 0, .int .u64 0, .int .u64 0, .int .u64 0]) (fun o => by first | (simp [go_sem, hE_1k]; done) | (simp [go_sem, hE_1k, hE_1t]; done)))))))))))
        · exact set_at (set_at (set_at (set_at (set_at (xs := #[.bool false, .int .u64 0, .int .u64 0, .int .u64 0, .int .u64 0]) (set_far (by first | omega | (simp; done) | (simp; omega)) (set_far (by first | omega | (simp; done) | (simp; omega)) (set_far (by first | omega | (simp; done) | (simp; omega)) (set_far (by first | omega | (simp; done) | (simp; omega)) (set_far (by first | omega | (simp; done) | (simp; omega)) ((fun o => by first | (simp [go_sem, hE_1k]; done) | (simp [go_sem, hE_1k, hE_1t]; done))))))))))))
        · intro o
          first
            | (simp [go_sem]; done)
            | (simp [go_sem, hE_1g]; done)
            | (simp [go_sem, hE_1g, hE_1t]; done)
        · intro o
          first
            | (simp [go_sem]; done)
            | (simp [go_sem, hE_1g]; done)
            | (simp [go_sem, hE_1g, hE_1t]; done)
    · case rel =>
        have hws := hEb.size
        (try simp at hE_1s)
        refine ⟨_, _, rfl, rfl, ⟨?_, ?_, ?_, ?_, ?_, ?_, ?_, ?_, ?_⟩, by (repeat' (first | (with_reducible exact Below.refl _ _) | (with_reducible assumption) | (with_reducible refine below_alloc ?_ _) | (with_reducible refine Below.drew ?_) | (with_reducible refine Below.setCell ?_ ?_ _) | (with_reducible refine below_after ?_ (by assumption)) | go_size))⟩
        · first | omega | (simp; done) | (simp; omega)
        · first | omega | (simp; done) | (simp; omega)
        · first | omega | (simp; done) | (simp; omega)
        · first | omega | (simp; done) | (simp; omega)
        · first | omega | (simp; done) | (simp; omega)
        · intro o; simp [go_sem]
        · exact keep_cell_a (by simp; omega) (set_at (set_at (set_at (set_at (set_at (xs := #[.bool false, .int .u64 0, .int .u64 0, .int .u64 0, .int .u64 0]) (fun o => by first | (simp [go_sem, hE_1k]; done) | (simp [go_sem, hE_1k, hE_1t]; done)))))))
        · intro o
          first
            | (simp [go_sem]; done)
            | (simp [go_sem, hE_1g]; done)
            | (simp [go_sem, hE_1g, hE_1t]; done)
        · intro o
          first
            | (simp [go_sem]; done)
            | (simp [go_sem, hE_1g]; done)
            | (simp [go_sem, hE_1g, hE_1t]; done)
    · case rel =>
        have hws := hEb.size
        (try simp at hE_1s)
        refine ⟨_, _, rfl, rfl, ⟨?_, ?_, ?_, ?_, ?_, ?_, ?_, ?_, ?_⟩, by (repeat' (first | (with_reducible exact Below.refl _ _) | (with_reducible assumption) | (with_reducible refine below_alloc ?_ _) | (with_reducible refine Below.drew ?_) | (with_reducible refine Below.setCell ?_ ?_ _) | (with_reducible refine below_after ?_ (by assumption)) | go_size))⟩
        · first | omega | (simp; done) | (simp; omega)
        · first | omega | (simp; done) | (simp; omega)
        · first | omega | (simp; done) | (simp; omega)
        · first | omega | (simp; done) | (simp; omega)
        · first | omega | (simp; done) | (simp; omega)
        · exact set_far (by first | omega | (simp; done) | (simp; omega)) (set_far (by first | omega | (simp; done) | (simp; omega)) (set_far (by first | omega | (simp; done) | (simp; omega)) (set_far (by first | omega | (simp; done) | (simp; omega)) (set_far (by first | omega | (simp; done) | (simp; omega)) (set_at (set_at (set_at (set_at (set_at (xs := #[.bool false, .int .u64 0, .int .u64 0, .int .u64 0, .int .u64 0]) (fun o => by first | (simp [go_sem, hE_1k]; done) | (simp [go_sem, hE_1k, hE_1t]; done)))))))))))
        · exact set_at (set_at (set_at (set_at (set_at (xs := #[.bool false, .int .u64 0, .int .u64 0, .int .u64 0, .int .u64 0]) (set_far (by first | omega | (simp; done) | (simp; omega)) (set_far (by first | omega | (simp; done) | (simp; omega)) (set_far (by first | omega | (simp; done) | (simp; omega)) (set_far (by first | omega | (simp; done) | (simp; omega)) (set_far (by first | omega | (simp; done) | (simp; omega)) ((fun o => by first | (simp [go_sem, hE_1k]; done) | (simp [go_sem, hE_1k, hE_1t]; done))))))))))))
        · intro o
          first
            | (simp [go_sem]; done)
            | (simp [go_sem, hE_1g]; done)
            | (simp [go_sem, hE_1g, hE_1t]; done)
        · intro o
          first
            | (simp [go_sem]; done)
            | (simp [go_sem, hE_1g]; done)
            | (simp [go_sem, hE_1g, hE_1t]; done)
  case rest =>
    obtain ⟨B1, B2, rfl, rfl, ⟨hB1, hy1, hB2, hy2, hne, hx1, hx2, hg1, hg2⟩, hDx⟩ := hcut
    have hDs := hDx.size
    go_upto_region 7 with (fail)
    refine wp_world (fun x => (∀ o, x.cell? ⟨w.heap.size, o, none⟩ = (#[.bool (s), .int .u64 (wd (a) 0), .int .u64 (wd (a) 1), .int .u64 (wd (a) 2), .int .u64 (wd (a) 3)] : Array Value)[o]?) ∧ (∀ o, x.cell? ⟨w.heap.size + 1, o, none⟩ = (#[.bool (false), .int .u64 (wd (b) 0), .int .u64 (wd (b) 1), .int .u64 (wd (b) 2), .int .u64 (wd (b) 3)] : Array Value)[o]?) ∧ (∀ o, x.cell? ⟨w4.heap.size, o, none⟩ = (#[.bool (zs (u)), .int .u64 (wd (Int.natAbs (u)) 0), .int .u64 (wd (Int.natAbs (u)) 1), .int .u64 (wd (Int.natAbs (u)) 2), .int .u64 (wd (Int.natAbs (u)) 3)] : Array Value)[o]?) ∧ (∀ o, x.cell? ⟨w1.heap.size + 1, o, none⟩ = (#[.bool (zs (r)), .int .u64 (wd (Int.natAbs (r)) 0), .int .u64 (wd (Int.natAbs (r)) 1), .int .u64 (wd (Int.natAbs (r)) 2), .int .u64 (wd (Int.natAbs (r)) 3)] : Array Value)[o]?) ∧ (∀ o, x.cell? ⟨B1, o, none⟩ = (#[.bool false, .int .u64 0, .int .u64 0, .int .u64 0, .int .u64 0] : Array Value)[o]?) ∧ (∀ o, x.cell? ⟨B2, o, none⟩ = (#[.bool (false), .int .u64 (wd (b) 0), .int .u64 (wd (b) 1), .int .u64 (wd (b) 2), .int .u64 (wd (b) 3)] : Array Value)[o]?) ∧ (∀ o, x.frozen? ⟨w.heap.size, o, none⟩ = false) ∧ (∀ o, x.frozen? ⟨w.heap.size + 1, o, none⟩ = false) ∧ (∀ o, x.frozen? ⟨w4.heap.size, o, none⟩ = false) ∧ (∀ o, x.frozen? ⟨w1.heap.size + 1, o, none⟩ = false) ∧ (∀ o, x.frozen? ⟨B1, o, none⟩ = false) ∧ (∀ o, x.frozen? ⟨B2, o, none⟩ = false) ∧ w.heap.size < x.heap.size ∧ w.heap.size + 1 < x.heap.size ∧ w4.heap.size < x.heap.size ∧ w1.heap.size + 1 < x.heap.size ∧ B1 < x.heap.size ∧ B2 < x.heap.size ∧ Below w.heap.size w x) ⟨keep_cell hDx hDz0 hDc0, keep_cell hDx hDz1 hDc1, keep_cell hDx hDz2 hDc2, keep_cell hDx hDz3 hDc3, hx1, hx2, fun o => by simp [go_sem, keep_frozen hDx hDz0 hDf0, keep_frozen hDx hDz1 hDf1, keep_frozen hDx hDz2 hDf2, keep_frozen hDx hDz3 hDf3, hg1, hg2], fun o => by simp [go_sem, keep_frozen hDx hDz0 hDf0, keep_frozen hDx hDz1 hDf1, keep_frozen hDx hDz2 hDf2, keep_frozen hDx hDz3 hDf3, hg1, hg2], fun o => by simp [go_sem, keep_frozen hDx hDz0 hDf0, keep_frozen hDx hDz1 hDf1, keep_frozen hDx hDz2 hDf2, keep_frozen hDx hDz3 hDf3, hg1, hg2], fun o => by simp [go_sem, keep_frozen hDx hDz0 hDf0, keep_frozen hDx hDz1 hDf1, keep_frozen hDx hDz2 hDf2, keep_frozen hDx hDz3 hDf3, hg1, hg2], fun o => by simp [go_sem, keep_frozen hDx hDz0 hDf0, keep_frozen hDx hDz1 hDf1, keep_frozen hDx hDz2 hDf2, keep_frozen hDx hDz3 hDf3, hg1, hg2], fun o => by simp [go_sem, keep_frozen hDx hDz0 hDf0, keep_frozen hDx hDz1 hDf1, keep_frozen hDx hDz2 hDf2, keep_frozen hDx hDz3 hDf3, hg1, hg2], by (first | omega | (simp [go_sem, keep_frozen hDx hDz0 hDf0, keep_frozen hDx hDz1 hDf1, keep_frozen hDx hDz2 hDf2, keep_frozen hDx hDz3 hDf3, hg1, hg2]; done) | (simp [go_sem, keep_frozen hDx hDz0 hDf0, keep_frozen hDx hDz1 hDf1, keep_frozen hDx hDz2 hDf2, keep_frozen hDx hDz3 hDf3, hg1, hg2]; omega)), by (first | omega | (simp [go_sem, keep_frozen hDx hDz0 hDf0, keep_frozen hDx hDz1 hDf1, keep_frozen hDx hDz2 hDf2, keep_frozen hDx hDz3 hDf3, hg1, hg2]; done) | (simp [go_sem, keep_frozen hDx hDz0 hDf0, keep_frozen hDx hDz1 hDf1, keep_frozen hDx hDz2 hDf2, keep_frozen hDx hDz3 hDf3, hg1, hg2]; omega)), by (first | omega | (simp [go_sem, keep_frozen hDx hDz0 hDf0, keep_frozen hDx hDz1 hDf1, keep_frozen hDx hDz2 hDf2, keep_frozen hDx hDz3 hDf3, hg1, hg2]; done) | (simp [go_sem, keep_frozen hDx hDz0 hDf0, keep_frozen hDx hDz1 hDf1, keep_frozen hDx hDz2 hDf2, keep_frozen hDx hDz3 hDf3, hg1, hg2]; omega)), by (first | omega | (simp [go_sem, keep_frozen hDx hDz0 hDf0, keep_frozen hDx hDz1 hDf1, keep_frozen hDx hDz2 hDf2, keep_frozen hDx hDz3 hDf3, hg1, hg2]; done) | (simp [go_sem, keep_frozen hDx hDz0 hDf0, keep_frozen hDx hDz1 hDf1, keep_frozen hDx hDz2 hDf2, keep_frozen hDx hDz3 hDf3, hg1, hg2]; omega)), by (first | omega | (simp [go_sem, keep_frozen hDx hDz0 hDf0, keep_frozen hDx hDz1 hDf1, keep_frozen hDx hDz2 hDf2, keep_frozen hDx hDz3 hDf3, hg1, hg2]; done) | (simp [go_sem, keep_frozen hDx hDz0 hDf0, keep_frozen hDx hDz1 hDf1, keep_frozen hDx hDz2 hDf2, keep_frozen hDx hDz3 hDf3, hg1, hg2]; omega)), by (first | omega | (simp [go_sem, keep_frozen hDx hDz0 hDf0, keep_frozen hDx hDz1 hDf1, keep_frozen hDx hDz2 hDf2, keep_frozen hDx hDz3 hDf3, hg1, hg2]; done) | (simp [go_sem, keep_frozen hDx hDz0 hDf0, keep_frozen hDx hDz1 hDf1, keep_frozen hDx hDz2 hDf2, keep_frozen hDx hDz3 hDf3, hg1, hg2]; omega)), by (repeat' (first | (with_reducible exact Below.refl _ _) | (with_reducible assumption) | (with_reducible refine below_alloc ?_ _) | (with_reducible refine Below.drew ?_) | (with_reducible refine Below.setCell ?_ ?_ _) | (with_reducible refine below_after ?_ (by assumption)) | go_size))⟩ ?_
    rintro F ⟨hFc0, hFc1, hFc2, hFc3, hFc4, hFc5, hFf0, hFf1, hFf2, hFf3, hFf4, hFf5, hFz0, hFz1, hFz2, hFz3, hFz4, hFz5, hFb⟩
    rcases HK.out with rfl | rfl
    all_goals
      go_wp2_with fail
      ((with_reducible refine (K0.out _).mono ?_); rintro e w5 ⟨rfl, hb5⟩)
      have hk5 : Kp F.heap.size [] F w5 := (by (repeat (first | (with_reducible assumption) | (with_reducible exact Kp.refl (Nat.le_refl _)) | (with_reducible refine Kp.drew ?_) | (with_reducible refine Kp.alloc ?_ _) | ((with_reducible refine Kp.put ?_ ?_ _); focus (first | (left; go_size; done) | (right; simp; done))) | ((with_reducible apply Kp.later); (with_reducible assumption)))))
      have h5c0 := fun o => (hk5.cell _ o hFz0 (by simp)).trans (hFc0 o)
      have h5f0 := fun o => (hk5.froz _ o hFz0).trans (hFf0 o)
      have h5z0 := Nat.lt_of_lt_of_le hFz0 hk5.size
      have h5c1 := fun o => (hk5.cell _ o hFz1 (by simp)).trans (hFc1 o)
      have h5f1 := fun o => (hk5.froz _ o hFz1).trans (hFf1 o)
      have h5z1 := Nat.lt_of_lt_of_le hFz1 hk5.size
      have h5c2 := fun o => (hk5.cell _ o hFz2 (by simp)).trans (hFc2 o)
      have h5f2 := fun o => (hk5.froz _ o hFz2).trans (hFf2 o)
      have h5z2 := Nat.lt_of_lt_of_le hFz2 hk5.size
      have h5c3 := fun o => (hk5.cell _ o hFz3 (by simp)).trans (hFc3 o)
      have h5f3 := fun o => (hk5.froz _ o hFz3).trans (hFf3 o)
      have h5z3 := Nat.lt_of_lt_of_le hFz3 hk5.size
      have h5c4 := fun o => (hk5.cell _ o hFz4 (by simp)).trans (hFc4 o)
      have h5f4 := fun o => (hk5.froz _ o hFz4).trans (hFf4 o)
      have h5z4 := Nat.lt_of_lt_of_le hFz4 hk5.size
      have h5c5 := fun o => (hk5.cell _ o hFz5 (by simp)).trans (hFc5 o)
      have h5f5 := fun o => (hk5.froz _ o hFz5).trans (hFf5 o)
      have h5z5 := Nat.lt_of_lt_of_le hFz5 hk5.size
      go_wp2_with fail
      ((with_reducible refine (K1.out _).mono ?_); rintro e w6 ⟨rfl, hb6⟩)
      have hk6 : Kp F.heap.size [] F w6 := (by (repeat (first | (with_reducible assumption) | (with_reducible exact Kp.refl (Nat.le_refl _)) | (with_reducible refine Kp.drew ?_) | (with_reducible refine Kp.alloc ?_ _) | ((with_reducible refine Kp.put ?_ ?_ _); focus (first | (left; go_size; done) | (right; simp; done))) | ((with_reducible apply Kp.later); (with_reducible assumption)))))
      have h6c0 := fun o => (hk6.cell _ o hFz0 (by simp)).trans (hFc0 o)
      have h6f0 := fun o => (hk6.froz _ o hFz0).trans (hFf0 o)
      have h6z0 := Nat.lt_of_lt_of_le hFz0 hk6.size
      have h6c1 := fun o => (hk6.cell _ o hFz1 (by simp)).trans (hFc1 o)
      have h6f1 := fun o => (hk6.froz _ o hFz1).trans (hFf1 o)
      have h6z1 := Nat.lt_of_lt_of_le hFz1 hk6.size
      have h6c2 := fun o => (hk6.cell _ o hFz2 (by simp)).trans (hFc2 o)
      have h6f2 := fun o => (hk6.froz _ o hFz2).trans (hFf2 o)
      have h6z2 := Nat.lt_of_lt_of_le hFz2 hk6.size
      have h6c3 := fun o => (hk6.cell _ o hFz3 (by simp)).trans (hFc3 o)
      have h6f3 := fun o => (hk6.froz _ o hFz3).trans (hFf3 o)
      have h6z3 := Nat.lt_of_lt_of_le hFz3 hk6.size
      have h6c4 := fun o => (hk6.cell _ o hFz4 (by simp)).trans (hFc4 o)
      have h6f4 := fun o => (hk6.froz _ o hFz4).trans (hFf4 o)
      have h6z4 := Nat.lt_of_lt_of_le hFz4 hk6.size
      have h6c5 := fun o => (hk6.cell _ o hFz5 (by simp)).trans (hFc5 o)
      have h6f5 := fun o => (hk6.froz _ o hFz5).trans (hFf5 o)
      have h6z5 := Nat.lt_of_lt_of_le hFz5 hk6.size
      go_upto_region 12 with (fail)
      refine wp_world (fun x => (∀ o, x.cell? ⟨w.heap.size, o, none⟩ = (#[.bool (s), .int .u64 (wd (a) 0), .int .u64 (wd (a) 1), .int .u64 (wd (a) 2), .int .u64 (wd (a) 3)] : Array Value)[o]?) ∧ (∀ o, x.cell? ⟨w4.heap.size, o, none⟩ = (#[.bool (zs (u)), .int .u64 (wd (Int.natAbs (u)) 0), .int .u64 (wd (Int.natAbs (u)) 1), .int .u64 (wd (Int.natAbs (u)) 2), .int .u64 (wd (Int.natAbs (u)) 3)] : Array Value)[o]?) ∧ (∀ o, x.frozen? ⟨w.heap.size, o, none⟩ = false) ∧ (∀ o, x.frozen? ⟨w4.heap.size, o, none⟩ = false) ∧ w.heap.size < x.heap.size ∧ w4.heap.size < x.heap.size ∧ Below w.heap.size w x) ⟨fun o => by simp [go_sem, h6c0, h6f0, h6z0, h6c1, h6f1, h6z1, h6c2, h6f2, h6z2, h6c3, h6f3, h6z3, h6c4, h6f4, h6z4, h6c5, h6f5, h6z5], fun o => by simp [go_sem, h6c0, h6f0, h6z0, h6c1, h6f1, h6z1, h6c2, h6f2, h6z2, h6c3, h6f3, h6z3, h6c4, h6f4, h6z4, h6c5, h6f5, h6z5], fun o => by simp [go_sem, h6c0, h6f0, h6z0, h6c1, h6f1, h6z1, h6c2, h6f2, h6z2, h6c3, h6f3, h6z3, h6c4, h6f4, h6z4, h6c5, h6f5, h6z5], fun o => by simp [go_sem, h6c0, h6f0, h6z0, h6c1, h6f1, h6z1, h6c2, h6f2, h6z2, h6c3, h6f3, h6z3, h6c4, h6f4, h6z4, h6c5, h6f5, h6z5], by (first | omega | (simp [go_sem, h6c0, h6f0, h6z0, h6c1, h6f1, h6z1, h6c2, h6f2, h6z2, h6c3, h6f3, h6z3, h6c4, h6f4, h6z4, h6c5, h6f5, h6z5]; done) | (simp [go_sem, h6c0, h6f0, h6z0, h6c1, h6f1, h6z1, h6c2, h6f2, h6z2, h6c3, h6f3, h6z3, h6c4, h6f4, h6z4, h6c5, h6f5, h6z5]; omega)), by (first | omega | (simp [go_sem, h6c0, h6f0, h6z0, h6c1, h6f1, h6z1, h6c2, h6f2, h6z2, h6c3, h6f3, h6z3, h6c4, h6f4, h6z4, h6c5, h6f5, h6z5]; done) | (simp [go_sem, h6c0, h6f0, h6z0, h6c1, h6f1, h6z1, h6c2, h6f2, h6z2, h6c3, h6f3, h6z3, h6c4, h6f4, h6z4, h6c5, h6f5, h6z5]; omega)), by (repeat' (first | (with_reducible exact Below.refl _ _) | (with_reducible assumption) | (with_reducible refine below_alloc ?_ _) | (with_reducible refine Below.drew ?_) | (with_reducible refine Below.setCell ?_ ?_ _) | (with_reducible refine below_after ?_ (by assumption)) | go_size))⟩ ?_
      rintro G ⟨hGc0, hGc1, hGf0, hGf1, hGz0, hGz1, hGb⟩
      rcases HF.out with rfl | ⟨rfl, rfl, rfl⟩
      · go_wp2_with fail
        ((with_reducible refine (K.out _ (HT.out.later (by (repeat' (first | (with_reducible exact Below.refl _ _) | (with_reducible assumption) | (with_reducible refine below_alloc ?_ _) | (with_reducible refine Below.drew ?_) | (with_reducible refine Below.setCell ?_ ?_ _) | (with_reducible refine below_after ?_ (by assumption)) | go_size))))).mono ?_); rintro e w9 ⟨rfl, hb9⟩)
        have hk9 : Kp G.heap.size [] G w9 := (by (repeat (first | (with_reducible assumption) | (with_reducible exact Kp.refl (Nat.le_refl _)) | (with_reducible refine Kp.drew ?_) | (with_reducible refine Kp.alloc ?_ _) | ((with_reducible refine Kp.put ?_ ?_ _); focus (first | (left; go_size; done) | (right; simp; done))) | ((with_reducible apply Kp.later); (with_reducible assumption)))))
        go_wp2
        go_ret
        exact ⟨rfl, by (repeat' (first | (with_reducible exact Below.refl _ _) | (with_reducible assumption) | (with_reducible refine below_alloc ?_ _) | (with_reducible refine Below.drew ?_) | (with_reducible refine Below.setCell ?_ ?_ _) | (with_reducible refine below_after ?_ (by assumption)) | go_size))⟩
      · go_upto_region 14 with (fail)
        refine wp_world (fun x => (∀ o, x.cell? ⟨w.heap.size, o, none⟩ = (#[.bool (s), .int .u64 (wd (a) 0), .int .u64 (wd (a) 1), .int .u64 (wd (a) 2), .int .u64 (wd (a) 3)] : Array Value)[o]?) ∧ (∀ o, x.cell? ⟨w4.heap.size, o, none⟩ = (#[.bool (zs (val s a)), .int .u64 (wd (Int.natAbs (val s a)) 0), .int .u64 (wd (Int.natAbs (val s a)) 1), .int .u64 (wd (Int.natAbs (val s a)) 2), .int .u64 (wd (Int.natAbs (val s a)) 3)] : Array Value)[o]?) ∧ w.heap.size < x.heap.size ∧ w4.heap.size < x.heap.size ∧ Below w.heap.size w x) ⟨fun o => by first | (simp [go_sem, hGc0, hGc1, hGz0, hGz1]; done) | (rcases o with _ | _ | _ | _ | _ | o <;> simp [go_sem, hGc0, hGc1, hGz0, hGz1]), fun o => by first | (simp [go_sem, hGc0, hGc1, hGz0, hGz1]; done) | (rcases o with _ | _ | _ | _ | _ | o <;> simp [go_sem, hGc0, hGc1, hGz0, hGz1]), by (first | omega | (simp [go_sem, hGc0, hGc1, hGz0, hGz1]; done) | (simp [go_sem, hGc0, hGc1, hGz0, hGz1]; omega)), by (first | omega | (simp [go_sem, hGc0, hGc1, hGz0, hGz1]; done) | (simp [go_sem, hGc0, hGc1, hGz0, hGz1]; omega)), by (repeat' (first | (with_reducible exact Below.refl _ _) | (with_reducible assumption) | (with_reducible refine below_alloc ?_ _) | (with_reducible refine Below.drew ?_) | (with_reducible refine Below.setCell ?_ ?_ _) | (with_reducible refine below_after ?_ (by assumption)) | go_size))⟩ ?_
        rintro I ⟨hIc0, hIc1, hIz0, hIz1, hIb⟩
        have hIK := Lib.hid (show ∀ x : World, Kp I.heap.size [] I x → ((∀ o, x.cell? ⟨w.heap.size, o, none⟩ = (#[.bool (s), .int .u64 (wd (a) 0), .int .u64 (wd (a) 1), .int .u64 (wd (a) 2), .int .u64 (wd (a) 3)] : Array Value)[o]?) ∧ (∀ o, x.cell? ⟨w4.heap.size, o, none⟩ = (#[.bool (zs (val s a)), .int .u64 (wd (Int.natAbs (val s a)) 0), .int .u64 (wd (Int.natAbs (val s a)) 1), .int .u64 (wd (Int.natAbs (val s a)) 2), .int .u64 (wd (Int.natAbs (val s a)) 3)] : Array Value)[o]?) ∧ w.heap.size < x.heap.size ∧ w4.heap.size < x.heap.size ∧ I.heap.size ≤ x.heap.size) from fun x k => ⟨fun o => (k.cell _ o hIz0 (by first | (simp; done) | (simp; omega))).trans (hIc0 o), fun o => (k.cell _ o hIz1 (by first | (simp; done) | (simp; omega))).trans (hIc1 o), Nat.lt_of_lt_of_le hIz0 k.size, Nat.lt_of_lt_of_le hIz1 k.size, k.size⟩)
        go_region_held3 (fun x => (∀ o, x.cell? ⟨w.heap.size, o, none⟩ = (#[.bool (s), .int .u64 (wd (a) 0), .int .u64 (wd (a) 1), .int .u64 (wd (a) 2), .int .u64 (wd (a) 3)] : Array Value)[o]?) ∧ (∀ o, x.cell? ⟨w4.heap.size, o, none⟩ = (#[.bool (zs (val s a)), .int .u64 (wd (Int.natAbs (val s a)) 0), .int .u64 (wd (Int.natAbs (val s a)) 1), .int .u64 (wd (Int.natAbs (val s a)) 2), .int .u64 (wd (Int.natAbs (val s a)) 3)] : Array Value)[o]?) ∧ w.heap.size < x.heap.size ∧ w4.heap.size < x.heap.size ∧ I.heap.size ≤ x.heap.size) ((refine hIK.out _ ?_; (repeat (first | (with_reducible assumption) | (with_reducible exact Kp.refl (Nat.le_refl _)) | (with_reducible refine Kp.drew ?_) | (with_reducible refine Kp.alloc ?_ _) | ((with_reducible refine Kp.put ?_ ?_ _); focus (first | (left; go_size; done) | (right; simp; done))) | ((with_reducible apply Kp.later); (with_reducible assumption)))))) ((first | (go_at_call 24; (with_reducible refine (KPa.out _).mono ?_); rintro e I_1 ⟨rfl, hbI_1⟩; have hkI_1 : Kp I.heap.size [] I I_1 := (by (repeat (first | (with_reducible assumption) | (with_reducible exact Kp.refl (Nat.le_refl _)) | (with_reducible refine Kp.drew ?_) | (with_reducible refine Kp.alloc ?_ _) | ((with_reducible refine Kp.put ?_ ?_ _); focus (first | (left; go_size; done) | (right; simp; done))) | ((with_reducible apply Kp.later); (with_reducible assumption)))))) | (go_at_call 15; (with_reducible refine (K.out _ ?_).mono ?_); (focus (refine HT.out.later ?_; (repeat (first | (with_reducible exact Below.refl _ _) | (with_reducible assumption) | (with_reducible refine below_alloc ?_ _) | (with_reducible refine Below.drew ?_) | ((with_reducible apply below_later); (with_reducible assumption)))))); rintro e I_2 ⟨rfl, hbI_2⟩; have hkI_2 : Kp I.heap.size [] I I_2 := (by (repeat (first | (with_reducible assumption) | (with_reducible exact Kp.refl (Nat.le_refl _)) | (with_reducible refine Kp.drew ?_) | (with_reducible refine Kp.alloc ?_ _) | ((with_reducible refine Kp.put ?_ ?_ _); focus (first | (left; go_size; done) | (right; simp; done))) | ((with_reducible apply Kp.later); (with_reducible assumption))))))))
        go_wp2
        go_ret
        exact ⟨rfl, by (repeat' (first | (with_reducible exact Below.refl _ _) | (with_reducible assumption) | (with_reducible refine below_alloc ?_ _) | (with_reducible refine Below.drew ?_) | (with_reducible refine Below.setCell ?_ ?_ _) | (with_reducible refine below_after ?_ (by assumption)) | go_size))⟩
set_option maxHeartbeats 2000000 in
theorem division_neg (s : Bool) (a b : Nat) (q r p u : Int) (fe ge k0 : Int) (w : World) (hT : Tabs w) (ha : a < 2 ^ 256)
    (hb0 : b ≠ 0) (hb : b < 2 ^ 256)
    (hD : ∀ w, Calls Tryd.prog 16 #[(.agg #[.bool (s), .int .u64 (wd (a) 0), .int .u64 (wd (a) 1), .int .u64 (wd (a) 2), .int .u64 (wd (a) 3)]), (.agg #[.bool (true), .int .u64 (wd (b) 0), .int .u64 (wd (b) 1), .int .u64 (wd (b) 2), .int .u64 (wd (b) 3)])] w fun e w' => e = .returned (.tuple #[(.agg #[.bool (zs (q)), .int .u64 (wd (Int.natAbs (q)) 0), .int .u64 (wd (Int.natAbs (q)) 1), .int .u64 (wd (Int.natAbs (q)) 2), .int .u64 (wd (Int.natAbs (q)) 3)]), (.agg #[.bool (zs (r)), .int .u64 (wd (Int.natAbs (r)) 0), .int .u64 (wd (Int.natAbs (r)) 1), .int .u64 (wd (Int.natAbs (r)) 2), .int .u64 (wd (Int.natAbs (r)) 3)]), .int .i64 0]) ∧ Below w.heap.size w w')
    (hM : ∀ w, Calls Tryd.prog 13 #[(.agg #[.bool (zs (q)), .int .u64 (wd (Int.natAbs (q)) 0), .int .u64 (wd (Int.natAbs (q)) 1), .int .u64 (wd (Int.natAbs (q)) 2), .int .u64 (wd (Int.natAbs (q)) 3)]), (.agg #[.bool (true), .int .u64 (wd (b) 0), .int .u64 (wd (b) 1), .int .u64 (wd (b) 2), .int .u64 (wd (b) 3)])] w fun e w' => e = .returned (.tuple #[(.agg #[.bool (zs (p)), .int .u64 (wd (Int.natAbs (p)) 0), .int .u64 (wd (Int.natAbs (p)) 1), .int .u64 (wd (Int.natAbs (p)) 2), .int .u64 (wd (Int.natAbs (p)) 3)]), .int .i64 fe]) ∧ Below w.heap.size w w')
    (hA : ∀ w, Calls Tryd.prog 33 #[(.agg #[.bool (zs (p)), .int .u64 (wd (Int.natAbs (p)) 0), .int .u64 (wd (Int.natAbs (p)) 1), .int .u64 (wd (Int.natAbs (p)) 2), .int .u64 (wd (Int.natAbs (p)) 3)]), (.agg #[.bool (zs (r)), .int .u64 (wd (Int.natAbs (r)) 0), .int .u64 (wd (Int.natAbs (r)) 1), .int .u64 (wd (Int.natAbs (r)) 2), .int .u64 (wd (Int.natAbs (r)) 3)])] w fun e w' => e = .returned (.tuple #[(.agg #[.bool (zs (u)), .int .u64 (wd (Int.natAbs (u)) 0), .int .u64 (wd (Int.natAbs (u)) 1), .int .u64 (wd (Int.natAbs (u)) 2), .int .u64 (wd (Int.natAbs (u)) 3)]), .int .i64 ge]) ∧ Below w.heap.size w w')
    (h0 : ∀ w, Calls Tryd.prog 37 #[(.agg #[.bool (zs (r)), .int .u64 (wd (Int.natAbs (r)) 0), .int .u64 (wd (Int.natAbs (r)) 1), .int .u64 (wd (Int.natAbs (r)) 2), .int .u64 (wd (Int.natAbs (r)) 3)]), .agg #[.bool false, .int .u64 0, .int .u64 0, .int .u64 0, .int .u64 0]] w fun e w' => e = .returned (.int .i64 k0) ∧ Below w.heap.size w w')
    (h1 : ∀ w, Calls Tryd.prog 37 #[(.agg #[.bool (zs (r)), .int .u64 (wd (Int.natAbs (r)) 0), .int .u64 (wd (Int.natAbs (r)) 1), .int .u64 (wd (Int.natAbs (r)) 2), .int .u64 (wd (Int.natAbs (r)) 3)]), (.agg #[.bool (true), .int .u64 (wd (b) 0), .int .u64 (wd (b) 1), .int .u64 (wd (b) 2), .int .u64 (wd (b) 3)])] w fun e w' => e = .returned (.int .i64 (1)) ∧ Below w.heap.size w w')
    (hk : k0 = 0 ∨ k0 = -1) (hf : fe = 21 ∨ (fe = 0 ∧ ge = 0 ∧ u = val s a)) :
    Calls Tryd.prog 12 #[(.agg #[.bool (s), .int .u64 (wd (a) 0), .int .u64 (wd (a) 1), .int .u64 (wd (a) 2), .int .u64 (wd (a) 3)]), (.agg #[.bool (true), .int .u64 (wd (b) 0), .int .u64 (wd (b) 1), .int .u64 (wd (b) 2), .int .u64 (wd (b) 3)])] w fun e w' => e = .returned (.bool true) ∧ Below w.heap.size w w' := by
  have KD := Lib.hid hD
  have KM := Lib.hid hM
  have KA := Lib.hid hA
  have K0 := Lib.hid h0
  have K1 := Lib.hid h1
  have KP := Lib.hid (plain_pos true b hb hb0)
  have KPa := Lib.hid (plain_any s a ha)
  have KO := Lib.hid (show ∀ w : World, Calls Tryd.prog 28 #[.int .i64 0] w fun e w' => e = .returned (.agg #[.bool false, .int .u64 0, .int .u64 0, .int .u64 0, .int .u64 0]) ∧ Below w.heap.size w w' from fun w => of_lit 0 (by omega) (by omega) w)
  have K := Lib.hid awake_any
  have qb := eq_wide0_pos true b hb hb0
  have qz := eq_zz (val s a) (by rw [abs_val]; exact ha)
  have HT := Lib.hid hT
  have HK := Lib.hid hk
  have HF := Lib.hid hf
  clear hT ha hb0 hb hD hM hA h0 h1 hk hf
  go_enter Tryd.func12, Tryd.ntmps12
  go_wp2_with fail
  ((with_reducible refine (KD.out _).mono ?_); rintro e w1 ⟨rfl, hb1⟩)
  obtain ⟨hc1, hf1⟩ := bcell hb1
  have hz1_w_0 : w.heap.size < w1.heap.size := by have h := hb1.size; (try simp at h); omega
  have hz1_w_1 : w.heap.size + 1 < w1.heap.size := by have h := hb1.size; (try simp at h); omega
  go_upto_region 2 with (fail)
  refine wp_world (fun x => (∀ o, x.cell? ⟨w.heap.size, o, none⟩ = (#[.bool (s), .int .u64 (wd (a) 0), .int .u64 (wd (a) 1), .int .u64 (wd (a) 2), .int .u64 (wd (a) 3)] : Array Value)[o]?) ∧ (∀ o, x.cell? ⟨w.heap.size + 1, o, none⟩ = (#[.bool (true), .int .u64 (wd (b) 0), .int .u64 (wd (b) 1), .int .u64 (wd (b) 2), .int .u64 (wd (b) 3)] : Array Value)[o]?) ∧ (∀ o, x.cell? ⟨w1.heap.size, o, none⟩ = (#[.bool (zs (q)), .int .u64 (wd (Int.natAbs (q)) 0), .int .u64 (wd (Int.natAbs (q)) 1), .int .u64 (wd (Int.natAbs (q)) 2), .int .u64 (wd (Int.natAbs (q)) 3)] : Array Value)[o]?) ∧ (∀ o, x.cell? ⟨w1.heap.size + 1, o, none⟩ = (#[.bool (zs (r)), .int .u64 (wd (Int.natAbs (r)) 0), .int .u64 (wd (Int.natAbs (r)) 1), .int .u64 (wd (Int.natAbs (r)) 2), .int .u64 (wd (Int.natAbs (r)) 3)] : Array Value)[o]?) ∧ (∀ o, x.frozen? ⟨w.heap.size, o, none⟩ = false) ∧ (∀ o, x.frozen? ⟨w.heap.size + 1, o, none⟩ = false) ∧ (∀ o, x.frozen? ⟨w1.heap.size, o, none⟩ = false) ∧ (∀ o, x.frozen? ⟨w1.heap.size + 1, o, none⟩ = false) ∧ w.heap.size < x.heap.size ∧ w.heap.size + 1 < x.heap.size ∧ w1.heap.size < x.heap.size ∧ w1.heap.size + 1 < x.heap.size ∧ Below w.heap.size w x) ⟨fun o => by simp [go_sem, hc1, hf1, hz1_w_0, hz1_w_1], fun o => by simp [go_sem, hc1, hf1, hz1_w_0, hz1_w_1], fun o => by simp [go_sem, hc1, hf1, hz1_w_0, hz1_w_1], fun o => by simp [go_sem, hc1, hf1, hz1_w_0, hz1_w_1], fun o => by simp [go_sem, hc1, hf1, hz1_w_0, hz1_w_1], fun o => by simp [go_sem, hc1, hf1, hz1_w_0, hz1_w_1], fun o => by simp [go_sem, hc1, hf1, hz1_w_0, hz1_w_1], fun o => by simp [go_sem, hc1, hf1, hz1_w_0, hz1_w_1], by (first | omega | (simp [go_sem, hc1, hf1, hz1_w_0, hz1_w_1]; done) | (simp [go_sem, hc1, hf1, hz1_w_0, hz1_w_1]; omega)), by (first | omega | (simp [go_sem, hc1, hf1, hz1_w_0, hz1_w_1]; done) | (simp [go_sem, hc1, hf1, hz1_w_0, hz1_w_1]; omega)), by (first | omega | (simp [go_sem, hc1, hf1, hz1_w_0, hz1_w_1]; done) | (simp [go_sem, hc1, hf1, hz1_w_0, hz1_w_1]; omega)), by (first | omega | (simp [go_sem, hc1, hf1, hz1_w_0, hz1_w_1]; done) | (simp [go_sem, hc1, hf1, hz1_w_0, hz1_w_1]; omega)), by (repeat' (first | (with_reducible exact Below.refl _ _) | (with_reducible assumption) | (with_reducible refine below_alloc ?_ _) | (with_reducible refine Below.drew ?_) | (with_reducible refine Below.setCell ?_ ?_ _) | (with_reducible refine below_after ?_ (by assumption)) | go_size))⟩ ?_
  rintro A ⟨hAc0, hAc1, hAc2, hAc3, hAf0, hAf1, hAf2, hAf3, hAz0, hAz1, hAz2, hAz3, hAb⟩
  clear hc1 hf1
  go_wp2_with fail
  ((with_reducible refine (KP.out _).mono ?_); rintro e w2 ⟨rfl, hb2⟩)
  have hk2 : Kp A.heap.size [] A w2 := (by (repeat (first | (with_reducible assumption) | (with_reducible exact Kp.refl (Nat.le_refl _)) | (with_reducible refine Kp.drew ?_) | (with_reducible refine Kp.alloc ?_ _) | ((with_reducible refine Kp.put ?_ ?_ _); focus (first | (left; go_size; done) | (right; simp; done))) | ((with_reducible apply Kp.later); (with_reducible assumption)))))
  have h2c0 := fun o => (hk2.cell _ o hAz0 (by simp)).trans (hAc0 o)
  have h2f0 := fun o => (hk2.froz _ o hAz0).trans (hAf0 o)
  have h2z0 := Nat.lt_of_lt_of_le hAz0 hk2.size
  have h2c1 := fun o => (hk2.cell _ o hAz1 (by simp)).trans (hAc1 o)
  have h2f1 := fun o => (hk2.froz _ o hAz1).trans (hAf1 o)
  have h2z1 := Nat.lt_of_lt_of_le hAz1 hk2.size
  have h2c2 := fun o => (hk2.cell _ o hAz2 (by simp)).trans (hAc2 o)
  have h2f2 := fun o => (hk2.froz _ o hAz2).trans (hAf2 o)
  have h2z2 := Nat.lt_of_lt_of_le hAz2 hk2.size
  have h2c3 := fun o => (hk2.cell _ o hAz3 (by simp)).trans (hAc3 o)
  have h2f3 := fun o => (hk2.froz _ o hAz3).trans (hAf3 o)
  have h2z3 := Nat.lt_of_lt_of_le hAz3 hk2.size
  go_upto_region 4 with (fail)
  refine wp_world (fun x => (∀ o, x.cell? ⟨w.heap.size, o, none⟩ = (#[.bool (s), .int .u64 (wd (a) 0), .int .u64 (wd (a) 1), .int .u64 (wd (a) 2), .int .u64 (wd (a) 3)] : Array Value)[o]?) ∧ (∀ o, x.cell? ⟨w.heap.size + 1, o, none⟩ = (#[.bool (true), .int .u64 (wd (b) 0), .int .u64 (wd (b) 1), .int .u64 (wd (b) 2), .int .u64 (wd (b) 3)] : Array Value)[o]?) ∧ (∀ o, x.cell? ⟨w1.heap.size, o, none⟩ = (#[.bool (zs (q)), .int .u64 (wd (Int.natAbs (q)) 0), .int .u64 (wd (Int.natAbs (q)) 1), .int .u64 (wd (Int.natAbs (q)) 2), .int .u64 (wd (Int.natAbs (q)) 3)] : Array Value)[o]?) ∧ (∀ o, x.cell? ⟨w1.heap.size + 1, o, none⟩ = (#[.bool (zs (r)), .int .u64 (wd (Int.natAbs (r)) 0), .int .u64 (wd (Int.natAbs (r)) 1), .int .u64 (wd (Int.natAbs (r)) 2), .int .u64 (wd (Int.natAbs (r)) 3)] : Array Value)[o]?) ∧ (∀ o, x.frozen? ⟨w.heap.size, o, none⟩ = false) ∧ (∀ o, x.frozen? ⟨w.heap.size + 1, o, none⟩ = false) ∧ (∀ o, x.frozen? ⟨w1.heap.size, o, none⟩ = false) ∧ (∀ o, x.frozen? ⟨w1.heap.size + 1, o, none⟩ = false) ∧ w.heap.size < x.heap.size ∧ w.heap.size + 1 < x.heap.size ∧ w1.heap.size < x.heap.size ∧ w1.heap.size + 1 < x.heap.size ∧ Below w.heap.size w x) ⟨fun o => by simp [go_sem, h2c0, h2f0, h2z0, h2c1, h2f1, h2z1, h2c2, h2f2, h2z2, h2c3, h2f3, h2z3], fun o => by simp [go_sem, h2c0, h2f0, h2z0, h2c1, h2f1, h2z1, h2c2, h2f2, h2z2, h2c3, h2f3, h2z3], fun o => by simp [go_sem, h2c0, h2f0, h2z0, h2c1, h2f1, h2z1, h2c2, h2f2, h2z2, h2c3, h2f3, h2z3], fun o => by simp [go_sem, h2c0, h2f0, h2z0, h2c1, h2f1, h2z1, h2c2, h2f2, h2z2, h2c3, h2f3, h2z3], fun o => by simp [go_sem, h2c0, h2f0, h2z0, h2c1, h2f1, h2z1, h2c2, h2f2, h2z2, h2c3, h2f3, h2z3], fun o => by simp [go_sem, h2c0, h2f0, h2z0, h2c1, h2f1, h2z1, h2c2, h2f2, h2z2, h2c3, h2f3, h2z3], fun o => by simp [go_sem, h2c0, h2f0, h2z0, h2c1, h2f1, h2z1, h2c2, h2f2, h2z2, h2c3, h2f3, h2z3], fun o => by simp [go_sem, h2c0, h2f0, h2z0, h2c1, h2f1, h2z1, h2c2, h2f2, h2z2, h2c3, h2f3, h2z3], by (first | omega | (simp [go_sem, h2c0, h2f0, h2z0, h2c1, h2f1, h2z1, h2c2, h2f2, h2z2, h2c3, h2f3, h2z3]; done) | (simp [go_sem, h2c0, h2f0, h2z0, h2c1, h2f1, h2z1, h2c2, h2f2, h2z2, h2c3, h2f3, h2z3]; omega)), by (first | omega | (simp [go_sem, h2c0, h2f0, h2z0, h2c1, h2f1, h2z1, h2c2, h2f2, h2z2, h2c3, h2f3, h2z3]; done) | (simp [go_sem, h2c0, h2f0, h2z0, h2c1, h2f1, h2z1, h2c2, h2f2, h2z2, h2c3, h2f3, h2z3]; omega)), by (first | omega | (simp [go_sem, h2c0, h2f0, h2z0, h2c1, h2f1, h2z1, h2c2, h2f2, h2z2, h2c3, h2f3, h2z3]; done) | (simp [go_sem, h2c0, h2f0, h2z0, h2c1, h2f1, h2z1, h2c2, h2f2, h2z2, h2c3, h2f3, h2z3]; omega)), by (first | omega | (simp [go_sem, h2c0, h2f0, h2z0, h2c1, h2f1, h2z1, h2c2, h2f2, h2z2, h2c3, h2f3, h2z3]; done) | (simp [go_sem, h2c0, h2f0, h2z0, h2c1, h2f1, h2z1, h2c2, h2f2, h2z2, h2c3, h2f3, h2z3]; omega)), by (repeat' (first | (with_reducible exact Below.refl _ _) | (with_reducible assumption) | (with_reducible refine below_alloc ?_ _) | (with_reducible refine Below.drew ?_) | (with_reducible refine Below.setCell ?_ ?_ _) | (with_reducible refine below_after ?_ (by assumption)) | go_size))⟩ ?_
  rintro B ⟨hBc0, hBc1, hBc2, hBc3, hBf0, hBf1, hBf2, hBf3, hBz0, hBz1, hBz2, hBz3, hBb⟩
  go_wp2_with fail
  ((with_reducible refine (KM.out _).mono ?_); rintro e w3 ⟨rfl, hb3⟩)
  have hk3 : Kp B.heap.size [] B w3 := (by (repeat (first | (with_reducible assumption) | (with_reducible exact Kp.refl (Nat.le_refl _)) | (with_reducible refine Kp.drew ?_) | (with_reducible refine Kp.alloc ?_ _) | ((with_reducible refine Kp.put ?_ ?_ _); focus (first | (left; go_size; done) | (right; simp; done))) | ((with_reducible apply Kp.later); (with_reducible assumption)))))
  have h3c0 := fun o => (hk3.cell _ o hBz0 (by simp)).trans (hBc0 o)
  have h3f0 := fun o => (hk3.froz _ o hBz0).trans (hBf0 o)
  have h3z0 := Nat.lt_of_lt_of_le hBz0 hk3.size
  have h3c1 := fun o => (hk3.cell _ o hBz1 (by simp)).trans (hBc1 o)
  have h3f1 := fun o => (hk3.froz _ o hBz1).trans (hBf1 o)
  have h3z1 := Nat.lt_of_lt_of_le hBz1 hk3.size
  have h3c2 := fun o => (hk3.cell _ o hBz2 (by simp)).trans (hBc2 o)
  have h3f2 := fun o => (hk3.froz _ o hBz2).trans (hBf2 o)
  have h3z2 := Nat.lt_of_lt_of_le hBz2 hk3.size
  have h3c3 := fun o => (hk3.cell _ o hBz3 (by simp)).trans (hBc3 o)
  have h3f3 := fun o => (hk3.froz _ o hBz3).trans (hBf3 o)
  have h3z3 := Nat.lt_of_lt_of_le hBz3 hk3.size
  go_upto_region 5 with (fail)
  refine wp_world (fun x => (∀ o, x.cell? ⟨w.heap.size, o, none⟩ = (#[.bool (s), .int .u64 (wd (a) 0), .int .u64 (wd (a) 1), .int .u64 (wd (a) 2), .int .u64 (wd (a) 3)] : Array Value)[o]?) ∧ (∀ o, x.cell? ⟨w.heap.size + 1, o, none⟩ = (#[.bool (true), .int .u64 (wd (b) 0), .int .u64 (wd (b) 1), .int .u64 (wd (b) 2), .int .u64 (wd (b) 3)] : Array Value)[o]?) ∧ (∀ o, x.cell? ⟨w3.heap.size, o, none⟩ = (#[.bool (zs (p)), .int .u64 (wd (Int.natAbs (p)) 0), .int .u64 (wd (Int.natAbs (p)) 1), .int .u64 (wd (Int.natAbs (p)) 2), .int .u64 (wd (Int.natAbs (p)) 3)] : Array Value)[o]?) ∧ (∀ o, x.cell? ⟨w1.heap.size + 1, o, none⟩ = (#[.bool (zs (r)), .int .u64 (wd (Int.natAbs (r)) 0), .int .u64 (wd (Int.natAbs (r)) 1), .int .u64 (wd (Int.natAbs (r)) 2), .int .u64 (wd (Int.natAbs (r)) 3)] : Array Value)[o]?) ∧ (∀ o, x.frozen? ⟨w.heap.size, o, none⟩ = false) ∧ (∀ o, x.frozen? ⟨w.heap.size + 1, o, none⟩ = false) ∧ (∀ o, x.frozen? ⟨w3.heap.size, o, none⟩ = false) ∧ (∀ o, x.frozen? ⟨w1.heap.size + 1, o, none⟩ = false) ∧ w.heap.size < x.heap.size ∧ w.heap.size + 1 < x.heap.size ∧ w3.heap.size < x.heap.size ∧ w1.heap.size + 1 < x.heap.size ∧ Below w.heap.size w x) ⟨fun o => by simp [go_sem, h3c0, h3f0, h3z0, h3c1, h3f1, h3z1, h3c2, h3f2, h3z2, h3c3, h3f3, h3z3], fun o => by simp [go_sem, h3c0, h3f0, h3z0, h3c1, h3f1, h3z1, h3c2, h3f2, h3z2, h3c3, h3f3, h3z3], fun o => by simp [go_sem, h3c0, h3f0, h3z0, h3c1, h3f1, h3z1, h3c2, h3f2, h3z2, h3c3, h3f3, h3z3], fun o => by simp [go_sem, h3c0, h3f0, h3z0, h3c1, h3f1, h3z1, h3c2, h3f2, h3z2, h3c3, h3f3, h3z3], fun o => by simp [go_sem, h3c0, h3f0, h3z0, h3c1, h3f1, h3z1, h3c2, h3f2, h3z2, h3c3, h3f3, h3z3], fun o => by simp [go_sem, h3c0, h3f0, h3z0, h3c1, h3f1, h3z1, h3c2, h3f2, h3z2, h3c3, h3f3, h3z3], fun o => by simp [go_sem, h3c0, h3f0, h3z0, h3c1, h3f1, h3z1, h3c2, h3f2, h3z2, h3c3, h3f3, h3z3], fun o => by simp [go_sem, h3c0, h3f0, h3z0, h3c1, h3f1, h3z1, h3c2, h3f2, h3z2, h3c3, h3f3, h3z3], by (first | omega | (simp [go_sem, h3c0, h3f0, h3z0, h3c1, h3f1, h3z1, h3c2, h3f2, h3z2, h3c3, h3f3, h3z3]; done) | (simp [go_sem, h3c0, h3f0, h3z0, h3c1, h3f1, h3z1, h3c2, h3f2, h3z2, h3c3, h3f3, h3z3]; omega)), by (first | omega | (simp [go_sem, h3c0, h3f0, h3z0, h3c1, h3f1, h3z1, h3c2, h3f2, h3z2, h3c3, h3f3, h3z3]; done) | (simp [go_sem, h3c0, h3f0, h3z0, h3c1, h3f1, h3z1, h3c2, h3f2, h3z2, h3c3, h3f3, h3z3]; omega)), by (first | omega | (simp [go_sem, h3c0, h3f0, h3z0, h3c1, h3f1, h3z1, h3c2, h3f2, h3z2, h3c3, h3f3, h3z3]; done) | (simp [go_sem, h3c0, h3f0, h3z0, h3c1, h3f1, h3z1, h3c2, h3f2, h3z2, h3c3, h3f3, h3z3]; omega)), by (first | omega | (simp [go_sem, h3c0, h3f0, h3z0, h3c1, h3f1, h3z1, h3c2, h3f2, h3z2, h3c3, h3f3, h3z3]; done) | (simp [go_sem, h3c0, h3f0, h3z0, h3c1, h3f1, h3z1, h3c2, h3f2, h3z2, h3c3, h3f3, h3z3]; omega)), by (repeat' (first | (with_reducible exact Below.refl _ _) | (with_reducible assumption) | (with_reducible refine below_alloc ?_ _) | (with_reducible refine Below.drew ?_) | (with_reducible refine Below.setCell ?_ ?_ _) | (with_reducible refine below_after ?_ (by assumption)) | go_size))⟩ ?_
  rintro C ⟨hCc0, hCc1, hCc2, hCc3, hCf0, hCf1, hCf2, hCf3, hCz0, hCz1, hCz2, hCz3, hCb⟩
  go_wp2_with fail
  ((with_reducible refine (KA.out _).mono ?_); rintro e w4 ⟨rfl, hb4⟩)
  have hk4 : Kp C.heap.size [] C w4 := (by (repeat (first | (with_reducible assumption) | (with_reducible exact Kp.refl (Nat.le_refl _)) | (with_reducible refine Kp.drew ?_) | (with_reducible refine Kp.alloc ?_ _) | ((with_reducible refine Kp.put ?_ ?_ _); focus (first | (left; go_size; done) | (right; simp; done))) | ((with_reducible apply Kp.later); (with_reducible assumption)))))
  have h4c0 := fun o => (hk4.cell _ o hCz0 (by simp)).trans (hCc0 o)
  have h4f0 := fun o => (hk4.froz _ o hCz0).trans (hCf0 o)
  have h4z0 := Nat.lt_of_lt_of_le hCz0 hk4.size
  have h4c1 := fun o => (hk4.cell _ o hCz1 (by simp)).trans (hCc1 o)
  have h4f1 := fun o => (hk4.froz _ o hCz1).trans (hCf1 o)
  have h4z1 := Nat.lt_of_lt_of_le hCz1 hk4.size
  have h4c2 := fun o => (hk4.cell _ o hCz2 (by simp)).trans (hCc2 o)
  have h4f2 := fun o => (hk4.froz _ o hCz2).trans (hCf2 o)
  have h4z2 := Nat.lt_of_lt_of_le hCz2 hk4.size
  have h4c3 := fun o => (hk4.cell _ o hCz3 (by simp)).trans (hCc3 o)
  have h4f3 := fun o => (hk4.froz _ o hCz3).trans (hCf3 o)
  have h4z3 := Nat.lt_of_lt_of_le hCz3 hk4.size
  go_upto_region 6 with (fail)
  refine wp_world (fun x => (∀ o, x.cell? ⟨w.heap.size, o, none⟩ = (#[.bool (s), .int .u64 (wd (a) 0), .int .u64 (wd (a) 1), .int .u64 (wd (a) 2), .int .u64 (wd (a) 3)] : Array Value)[o]?) ∧ (∀ o, x.cell? ⟨w.heap.size + 1, o, none⟩ = (#[.bool (true), .int .u64 (wd (b) 0), .int .u64 (wd (b) 1), .int .u64 (wd (b) 2), .int .u64 (wd (b) 3)] : Array Value)[o]?) ∧ (∀ o, x.cell? ⟨w4.heap.size, o, none⟩ = (#[.bool (zs (u)), .int .u64 (wd (Int.natAbs (u)) 0), .int .u64 (wd (Int.natAbs (u)) 1), .int .u64 (wd (Int.natAbs (u)) 2), .int .u64 (wd (Int.natAbs (u)) 3)] : Array Value)[o]?) ∧ (∀ o, x.cell? ⟨w1.heap.size + 1, o, none⟩ = (#[.bool (zs (r)), .int .u64 (wd (Int.natAbs (r)) 0), .int .u64 (wd (Int.natAbs (r)) 1), .int .u64 (wd (Int.natAbs (r)) 2), .int .u64 (wd (Int.natAbs (r)) 3)] : Array Value)[o]?) ∧ (∀ o, x.frozen? ⟨w.heap.size, o, none⟩ = false) ∧ (∀ o, x.frozen? ⟨w.heap.size + 1, o, none⟩ = false) ∧ (∀ o, x.frozen? ⟨w4.heap.size, o, none⟩ = false) ∧ (∀ o, x.frozen? ⟨w1.heap.size + 1, o, none⟩ = false) ∧ w.heap.size < x.heap.size ∧ w.heap.size + 1 < x.heap.size ∧ w4.heap.size < x.heap.size ∧ w1.heap.size + 1 < x.heap.size ∧ Below w.heap.size w x) ⟨fun o => by simp [go_sem, h4c0, h4f0, h4z0, h4c1, h4f1, h4z1, h4c2, h4f2, h4z2, h4c3, h4f3, h4z3], fun o => by simp [go_sem, h4c0, h4f0, h4z0, h4c1, h4f1, h4z1, h4c2, h4f2, h4z2, h4c3, h4f3, h4z3], fun o => by simp [go_sem, h4c0, h4f0, h4z0, h4c1, h4f1, h4z1, h4c2, h4f2, h4z2, h4c3, h4f3, h4z3], fun o => by simp [go_sem, h4c0, h4f0, h4z0, h4c1, h4f1, h4z1, h4c2, h4f2, h4z2, h4c3, h4f3, h4z3], fun o => by simp [go_sem, h4c0, h4f0, h4z0, h4c1, h4f1, h4z1, h4c2, h4f2, h4z2, h4c3, h4f3, h4z3], fun o => by simp [go_sem, h4c0, h4f0, h4z0, h4c1, h4f1, h4z1, h4c2, h4f2, h4z2, h4c3, h4f3, h4z3], fun o => by simp [go_sem, h4c0, h4f0, h4z0, h4c1, h4f1, h4z1, h4c2, h4f2, h4z2, h4c3, h4f3, h4z3], fun o => by simp [go_sem, h4c0, h4f0, h4z0, h4c1, h4f1, h4z1, h4c2, h4f2, h4z2, h4c3, h4f3, h4z3], by (first | omega | (simp [go_sem, h4c0, h4f0, h4z0, h4c1, h4f1, h4z1, h4c2, h4f2, h4z2, h4c3, h4f3, h4z3]; done) | (simp [go_sem, h4c0, h4f0, h4z0, h4c1, h4f1, h4z1, h4c2, h4f2, h4z2, h4c3, h4f3, h4z3]; omega)), by (first | omega | (simp [go_sem, h4c0, h4f0, h4z0, h4c1, h4f1, h4z1, h4c2, h4f2, h4z2, h4c3, h4f3, h4z3]; done) | (simp [go_sem, h4c0, h4f0, h4z0, h4c1, h4f1, h4z1, h4c2, h4f2, h4z2, h4c3, h4f3, h4z3]; omega)), by (first | omega | (simp [go_sem, h4c0, h4f0, h4z0, h4c1, h4f1, h4z1, h4c2, h4f2, h4z2, h4c3, h4f3, h4z3]; done) | (simp [go_sem, h4c0, h4f0, h4z0, h4c1, h4f1, h4z1, h4c2, h4f2, h4z2, h4c3, h4f3, h4z3]; omega)), by (first | omega | (simp [go_sem, h4c0, h4f0, h4z0, h4c1, h4f1, h4z1, h4c2, h4f2, h4z2, h4c3, h4f3, h4z3]; done) | (simp [go_sem, h4c0, h4f0, h4z0, h4c1, h4f1, h4z1, h4c2, h4f2, h4z2, h4c3, h4f3, h4z3]; omega)), by (repeat' (first | (with_reducible exact Below.refl _ _) | (with_reducible assumption) | (with_reducible refine below_alloc ?_ _) | (with_reducible refine Below.drew ?_) | (with_reducible refine Below.setCell ?_ ?_ _) | (with_reducible refine below_after ?_ (by assumption)) | go_size))⟩ ?_
  rintro D ⟨hDc0, hDc1, hDc2, hDc3, hDf0, hDf1, hDf2, hDf3, hDz0, hDz1, hDz2, hDz3, hDb⟩
  go_cut [12, 13] (fun v12 v13 wx => ∃ B1 B2 : Nat, v12 = .pointer (some ⟨B1, 0, none⟩) ∧ v13 = .pointer (some ⟨B2, 0, none⟩) ∧ LeastMost B1 B2 D.heap.size wx true b ∧ Below D.heap.size D wx)
  case first =>
    refine wp_world (fun x => (∀ o, x.cell? ⟨w.heap.size + 1, o, none⟩ = (#[.bool (true), .int .u64 (wd (b) 0), .int .u64 (wd (b) 1), .int .u64 (wd (b) 2), .int .u64 (wd (b) 3)] : Array Value)[o]?) ∧ w.heap.size + 1 < x.heap.size ∧ Below D.heap.size D x) ⟨fun o => by first | (simp [go_sem, hDc1, hDz1]; done) | (rcases o with _ | _ | _ | _ | _ | o <;> simp [go_sem, hDc1, hDz1]), by (first | omega | (simp [go_sem, hDc1, hDz1]; done) | (simp [go_sem, hDc1, hDz1]; omega)), by (repeat' (first | (with_reducible exact Below.refl _ _) | (with_reducible assumption) | (with_reducible refine below_alloc ?_ _) | (with_reducible refine Below.drew ?_) | (with_reducible refine Below.setCell ?_ ?_ _) | (with_reducible refine below_after ?_ (by assumption)) | go_size))⟩ ?_
    rintro E ⟨hEc0, hEz0, hEb⟩
    have hEK := Lib.hid (show ∀ x : World, Kp E.heap.size [] E x → ((∀ o, x.cell? ⟨w.heap.size + 1, o, none⟩ = (#[.bool (true), .int .u64 (wd (b) 0), .int .u64 (wd (b) 1), .int .u64 (wd (b) 2), .int .u64 (wd (b) 3)] : Array Value)[o]?) ∧ w.heap.size + 1 < x.heap.size ∧ E.heap.size ≤ x.heap.size) from fun x k => ⟨fun o => (k.cell _ o hEz0 (by first | (simp; done) | (simp; omega))).trans (hEc0 o), Nat.lt_of_lt_of_le hEz0 k.size, k.size⟩)
    go_region_held3 (fun x => (∀ o, x.cell? ⟨w.heap.size + 1, o, none⟩ = (#[.bool (true), .int .u64 (wd (b) 0), .int .u64 (wd (b) 1), .int .u64 (wd (b) 2), .int .u64 (wd (b) 3)] : Array Value)[o]?) ∧ w.heap.size + 1 < x.heap.size ∧ E.heap.size ≤ x.heap.size) ((refine hEK.out _ ?_; (repeat (first | (with_reducible assumption) | (with_reducible exact Kp.refl (Nat.le_refl _)) | (with_reducible refine Kp.drew ?_) | (with_reducible refine Kp.alloc ?_ _) | ((with_reducible refine Kp.put ?_ ?_ _); focus (first | (left; go_size; done) | (right; simp; done))) | ((with_reducible apply Kp.later); (with_reducible assumption)))))) ((first | (go_at_call 28; (with_reducible refine (KO.out _).mono ?_); rintro e E_1 ⟨rfl, hbE_1⟩; have hkE_1 : Kp E.heap.size [] E E_1 := (by (repeat (first | (with_reducible assumption) | (with_reducible exact Kp.refl (Nat.le_refl _)) | (with_reducible refine Kp.drew ?_) | (with_reducible refine Kp.alloc ?_ _) | ((with_reducible refine Kp.put ?_ ?_ _); focus (first | (left; go_size; done) | (right; simp; done))) | ((with_reducible apply Kp.later); (with_reducible assumption))))); obtain ⟨hE_1k, hE_1g⟩ := bcell hbE_1; have hE_1r := hkE_1.size; have hE_1s := hbE_1.size; (try (have hE_1t : E.heap.size < E_1.heap.size := (by simp at hE_1s; omega))))))
    all_goals
      go_wp2
      go_meet
    · case rel =>
        have hws := hEb.size
        (try simp at hE_1s)
        refine ⟨_, _, rfl, rfl, ⟨?_, ?_, ?_, ?_, ?_, ?_, ?_, ?_, ?_⟩, by (repeat' (first | (with_reducible exact Below.refl _ _) | (with_reducible assumption) | (with_reducible refine below_alloc ?_ _) | (with_reducible refine Below.drew ?_) | (with_reducible refine Below.setCell ?_ ?_ _) | (with_reducible refine below_after ?_ (by assumption)) | go_size))⟩
        · first | omega | (simp; done) | (simp; omega)
        · first | omega | (simp; done) | (simp; omega)
        · first | omega | (simp; done) | (simp; omega)
        · first | omega | (simp; done) | (simp; omega)
        · first | omega | (simp; done) | (simp; omega)
        · intro o; simp [go_sem]
        · intro o; simp [go_sem]
        · intro o
          first
            | (simp [go_sem]; done)
            | (simp [go_sem, hE_1g]; done)
            | (simp [go_sem, hE_1g, hE_1t]; done)
        · intro o
          first
            | (simp [go_sem]; done)
            | (simp [go_sem, hE_1g]; done)
            | (simp [go_sem, hE_1g, hE_1t]; done)
    · case rel =>
        have hws := hEb.size
        (try simp at hE_1s)
        refine ⟨_, _, rfl, rfl, ⟨?_, ?_, ?_, ?_, ?_, ?_, ?_, ?_, ?_⟩, by (repeat' (first | (with_reducible exact Below.refl _ _) | (with_reducible assumption) | (with_reducible refine below_alloc ?_ _) | (with_reducible refine Below.drew ?_) | (with_reducible refine Below.setCell ?_ ?_ _) | (with_reducible refine below_after ?_ (by assumption)) | go_size))⟩
        · first | omega | (simp; done) | (simp; omega)
        · first | omega | (simp; done) | (simp; omega)
        · first | omega | (simp; done) | (simp; omega)
        · first | omega | (simp; done) | (simp; omega)
        · first | omega | (simp; done) | (simp; omega)
        · intro o; simp [go_sem]
        · intro o; simp [go_sem]
        · intro o
          first
            | (simp [go_sem]; done)
            | (simp [go_sem, hE_1g]; done)
            | (simp [go_sem, hE_1g, hE_1t]; done)
        · intro o
          first
            | (simp [go_sem]; done)
            | (simp [go_sem, hE_1g]; done)
            | (simp [go_sem, hE_1g, hE_1t]; done)
    · case rel =>
        have hws := hEb.size
        (try simp at hE_1s)
        refine ⟨_, _, rfl, rfl, ⟨?_, ?_, ?_, ?_, ?_, ?_, ?_, ?_, ?_⟩, by (repeat' (first | (with_reducible exact Below.refl _ _) | (with_reducible assumption) | (with_reducible refine below_alloc ?_ _) | (with_reducible refine Below.drew ?_) | (with_reducible refine Below.setCell ?_ ?_ _) | (with_reducible refine below_after ?_ (by assumption)) | go_size))⟩
        · first | omega | (simp; done) | (simp; omega)
        · first | omega | (simp; done) | (simp; omega)
        · first | omega | (simp; done) | (simp; omega)
        · first | omega | (simp; done) | (simp; omega)
        · first | omega | (simp; done) | (simp; omega)
        · exact keep_cell_a (by simp; omega) (set_at (set_at (set_at (set_at (set_at (xs := #[.bool false, .int .u64 0, .int .u64 0, .int .u64 0, .int .u64 0]) (fun o => by first | (simp [go_sem, hE_1k]; done) | (simp [go_sem, hE_1k, hE_1t]; done)))))))
        · intro o; simp [go_sem]
        · intro o
          first
            | (simp [go_sem]; done)
            | (simp [go_sem, hE_1g]; done)
            | (simp [go_sem, hE_1g, hE_1t]; done)
        · intro o
          first
            | (simp [go_sem]; done)
            | (simp [go_sem, hE_1g]; done)
            | (simp [go_sem, hE_1g, hE_1t]; done)
    · case rel =>
        have hws := hEb.size
        (try simp at hE_1s)
        refine ⟨_, _, rfl, rfl, ⟨?_, ?_, ?_, ?_, ?_, ?_, ?_, ?_, ?_⟩, by (repeat' (first | (with_reducible exact Below.refl _ _) | (with_reducible assumption) | (with_reducible refine below_alloc ?_ _) | (with_reducible refine Below.drew ?_) | (with_reducible refine Below.setCell ?_ ?_ _) | (with_reducible refine below_after ?_ (by assumption)) | go_size))⟩
        · first | omega | (simp; done) | (simp; omega)
        · first | omega | (simp; done) | (simp; omega)
        · first | omega | (simp; done) | (simp; omega)
        · first | omega | (simp; done) | (simp; omega)
        · first | omega | (simp; done) | (simp; omega)
        · exact set_far (by first | omega | (simp; done) | (simp; omega)) (set_far (by first | omega | (simp; done) | (simp; omega)) (set_far (by first | omega | (simp; done) | (simp; omega)) (set_far (by first | omega | (simp; done) | (simp; omega)) (set_far (by first | omega | (simp; done) | (simp; omega)) (set_at (set_at (set_at (set_at (set_at (xs := #[.bool false, .int .u64 0, .int .u64 0, .int .u64 0, .int .u64 0]) (fun o => by first | (simp [go_sem, hE_1k]; done) | (simp [go_sem, hE_1k, hE_1t]; done)))))))))))
        · exact set_at (set_at (set_at (set_at (set_at (xs := #[.bool false, .int .u64 0, .int .u64 0, .int .u64 0, .int .u64 0]) (set_far (by first | omega | (simp; done) | (simp; omega)) (set_far (by first | omega | (simp; done) | (simp; omega)) (set_far (by first | omega | (simp; done) | (simp; omega)) (set_far (by first | omega | (simp; done) | (simp; omega)) (set_far (by first | omega | (simp; done) | (simp; omega)) ((fun o => by first | (simp [go_sem, hE_1k]; done) | (simp [go_sem, hE_1k, hE_1t]; done))))))))))))
        · intro o
          first
            | (simp [go_sem]; done)
            | (simp [go_sem, hE_1g]; done)
            | (simp [go_sem, hE_1g, hE_1t]; done)
        · intro o
          first
            | (simp [go_sem]; done)
            | (simp [go_sem, hE_1g]; done)
            | (simp [go_sem, hE_1g, hE_1t]; done)
    · case rel =>
        have hws := hEb.size
        (try simp at hE_1s)
        refine ⟨_, _, rfl, rfl, ⟨?_, ?_, ?_, ?_, ?_, ?_, ?_, ?_, ?_⟩, by (repeat' (first | (with_reducible exact Below.refl _ _) | (with_reducible assumption) | (with_reducible refine below_alloc ?_ _) | (with_reducible refine Below.drew ?_) | (with_reducible refine Below.setCell ?_ ?_ _) | (with_reducible refine below_after ?_ (by assumption)) | go_size))⟩
        · first | omega | (simp; done) | (simp; omega)
        · first | omega | (simp; done) | (simp; omega)
        · first | omega | (simp; done) | (simp; omega)
        · first | omega | (simp; done) | (simp; omega)
        · first | omega | (simp; done) | (simp; omega)
        · intro o; simp [go_sem]
        · exact keep_cell_a (by simp; omega) (set_at (set_at (set_at (set_at (set_at (xs := #[.bool false, .int .u64 0, .int .u64 0, .int .u64 0, .int .u64 0]) (fun o => by first | (simp [go_sem, hE_1k]; done) | (simp [go_sem, hE_1k, hE_1t]; done)))))))
        · intro o
          first
            | (simp [go_sem]; done)
            | (simp [go_sem, hE_1g]; done)
            | (simp [go_sem, hE_1g, hE_1t]; done)
        · intro o
          first
            | (simp [go_sem]; done)
            | (simp [go_sem, hE_1g]; done)
            | (simp [go_sem, hE_1g, hE_1t]; done)
    · case rel =>
        have hws := hEb.size
        (try simp at hE_1s)
        refine ⟨_, _, rfl, rfl, ⟨?_, ?_, ?_, ?_, ?_, ?_, ?_, ?_, ?_⟩, by (repeat' (first | (with_reducible exact Below.refl _ _) | (with_reducible assumption) | (with_reducible refine below_alloc ?_ _) | (with_reducible refine Below.drew ?_) | (with_reducible refine Below.setCell ?_ ?_ _) | (with_reducible refine below_after ?_ (by assumption)) | go_size))⟩
        · first | omega | (simp; done) | (simp; omega)
        · first | omega | (simp; done) | (simp; omega)
        · first | omega | (simp; done) | (simp; omega)
        · first | omega | (simp; done) | (simp; omega)
        · first | omega | (simp; done) | (simp; omega)
        · exact set_far (by first | omega | (simp; done) | (simp; omega)) (set_far (by first | omega | (simp; done) | (simp; omega)) (set_far (by first | omega | (simp; done) | (simp; omega)) (set_far (by first | omega | (simp; done) | (simp; omega)) (set_far (by first | omega | (simp; done) | (simp; omega)) (set_at (set_at (set_at (set_at (set_at (xs := #[.bool false, .int .u64 0, .int .u64 0, .int .u64 0, .int .u64 0]) (fun o => by first | (simp [go_sem, hE_1k]; done) | (simp [go_sem, hE_1k, hE_1t]; done)))))))))))
        · exact set_at (set_at (set_at (set_at (set_at (xs := #[.bool false, .int .u64 0, .int .u64 0, .int .u64 0, .int .u64 0]) (set_far (by first | omega | (simp; done) | (simp; omega)) (set_far (by first | omega | (simp; done) | (simp; omega)) (set_far (by first | omega | (simp; done) | (simp; omega)) (set_far (by first | omega | (simp; done) | (simp; omega)) (set_far (by first | omega | (simp; done) | (simp; omega)) ((fun o => by first | (simp [go_sem, hE_1k]; done) | (simp [go_sem, hE_1k, hE_1t]; done))))))))))))
        · intro o
          first
            | (simp [go_sem]; done)
            | (simp [go_sem, hE_1g]; done)
            | (simp [go_sem, hE_1g, hE_1t]; done)
        · intro o
          first
            | (simp [go_sem]; done)
            | (simp [go_sem, hE_1g]; done)
            | (simp [go_sem, hE_1g, hE_1t]; done)
  case rest =>
    obtain ⟨B1, B2, rfl, rfl, ⟨hB1, hy1, hB2, hy2, hne, hx1, hx2, hg1, hg2⟩, hDx⟩ := hcut
    have hDs := hDx.size
    go_upto_region 7 with (fail)
    refine wp_world (fun x => (∀ o, x.cell? ⟨w.heap.size, o, none⟩ = (#[.bool (s), .int .u64 (wd (a) 0), .int .u64 (wd (a) 1), .int .u64 (wd (a) 2), .int .u64 (wd (a) 3)] : Array Value)[o]?) ∧ (∀ o, x.cell? ⟨w.heap.size + 1, o, none⟩ = (#[.bool (true), .int .u64 (wd (b) 0), .int .u64 (wd (b) 1), .int .u64 (wd (b) 2), .int .u64 (wd (b) 3)] : Array Value)[o]?) ∧ (∀ o, x.cell? ⟨w4.heap.size, o, none⟩ = (#[.bool (zs (u)), .int .u64 (wd (Int.natAbs (u)) 0), .int .u64 (wd (Int.natAbs (u)) 1), .int .u64 (wd (Int.natAbs (u)) 2), .int .u64 (wd (Int.natAbs (u)) 3)] : Array Value)[o]?) ∧ (∀ o, x.cell? ⟨w1.heap.size + 1, o, none⟩ = (#[.bool (zs (r)), .int .u64 (wd (Int.natAbs (r)) 0), .int .u64 (wd (Int.natAbs (r)) 1), .int .u64 (wd (Int.natAbs (r)) 2), .int .u64 (wd (Int.natAbs (r)) 3)] : Array Value)[o]?) ∧ (∀ o, x.cell? ⟨B1, o, none⟩ = (#[.bool false, .int .u64 0, .int .u64 0, .int .u64 0, .int .u64 0] : Array Value)[o]?) ∧ (∀ o, x.cell? ⟨B2, o, none⟩ = (#[.bool (true), .int .u64 (wd (b) 0), .int .u64 (wd (b) 1), .int .u64 (wd (b) 2), .int .u64 (wd (b) 3)] : Array Value)[o]?) ∧ (∀ o, x.frozen? ⟨w.heap.size, o, none⟩ = false) ∧ (∀ o, x.frozen? ⟨w.heap.size + 1, o, none⟩ = false) ∧ (∀ o, x.frozen? ⟨w4.heap.size, o, none⟩ = false) ∧ (∀ o, x.frozen? ⟨w1.heap.size + 1, o, none⟩ = false) ∧ (∀ o, x.frozen? ⟨B1, o, none⟩ = false) ∧ (∀ o, x.frozen? ⟨B2, o, none⟩ = false) ∧ w.heap.size < x.heap.size ∧ w.heap.size + 1 < x.heap.size ∧ w4.heap.size < x.heap.size ∧ w1.heap.size + 1 < x.heap.size ∧ B1 < x.heap.size ∧ B2 < x.heap.size ∧ Below w.heap.size w x) ⟨keep_cell hDx hDz0 hDc0, keep_cell hDx hDz1 hDc1, keep_cell hDx hDz2 hDc2, keep_cell hDx hDz3 hDc3, hx1, hx2, fun o => by simp [go_sem, keep_frozen hDx hDz0 hDf0, keep_frozen hDx hDz1 hDf1, keep_frozen hDx hDz2 hDf2, keep_frozen hDx hDz3 hDf3, hg1, hg2], fun o => by simp [go_sem, keep_frozen hDx hDz0 hDf0, keep_frozen hDx hDz1 hDf1, keep_frozen hDx hDz2 hDf2, keep_frozen hDx hDz3 hDf3, hg1, hg2], fun o => by simp [go_sem, keep_frozen hDx hDz0 hDf0, keep_frozen hDx hDz1 hDf1, keep_frozen hDx hDz2 hDf2, keep_frozen hDx hDz3 hDf3, hg1, hg2], fun o => by simp [go_sem, keep_frozen hDx hDz0 hDf0, keep_frozen hDx hDz1 hDf1, keep_frozen hDx hDz2 hDf2, keep_frozen hDx hDz3 hDf3, hg1, hg2], fun o => by simp [go_sem, keep_frozen hDx hDz0 hDf0, keep_frozen hDx hDz1 hDf1, keep_frozen hDx hDz2 hDf2, keep_frozen hDx hDz3 hDf3, hg1, hg2], fun o => by simp [go_sem, keep_frozen hDx hDz0 hDf0, keep_frozen hDx hDz1 hDf1, keep_frozen hDx hDz2 hDf2, keep_frozen hDx hDz3 hDf3, hg1, hg2], by (first | omega | (simp [go_sem, keep_frozen hDx hDz0 hDf0, keep_frozen hDx hDz1 hDf1, keep_frozen hDx hDz2 hDf2, keep_frozen hDx hDz3 hDf3, hg1, hg2]; done) | (simp [go_sem, keep_frozen hDx hDz0 hDf0, keep_frozen hDx hDz1 hDf1, keep_frozen hDx hDz2 hDf2, keep_frozen hDx hDz3 hDf3, hg1, hg2]; omega)), by (first | omega | (simp [go_sem, keep_frozen hDx hDz0 hDf0, keep_frozen hDx hDz1 hDf1, keep_frozen hDx hDz2 hDf2, keep_frozen hDx hDz3 hDf3, hg1, hg2]; done) | (simp [go_sem, keep_frozen hDx hDz0 hDf0, keep_frozen hDx hDz1 hDf1, keep_frozen hDx hDz2 hDf2, keep_frozen hDx hDz3 hDf3, hg1, hg2]; omega)), by (first | omega | (simp [go_sem, keep_frozen hDx hDz0 hDf0, keep_frozen hDx hDz1 hDf1, keep_frozen hDx hDz2 hDf2, keep_frozen hDx hDz3 hDf3, hg1, hg2]; done) | (simp [go_sem, keep_frozen hDx hDz0 hDf0, keep_frozen hDx hDz1 hDf1, keep_frozen hDx hDz2 hDf2, keep_frozen hDx hDz3 hDf3, hg1, hg2]; omega)), by (first | omega | (simp [go_sem, keep_frozen hDx hDz0 hDf0, keep_frozen hDx hDz1 hDf1, keep_frozen hDx hDz2 hDf2, keep_frozen hDx hDz3 hDf3, hg1, hg2]; done) | (simp [go_sem, keep_frozen hDx hDz0 hDf0, keep_frozen hDx hDz1 hDf1, keep_frozen hDx hDz2 hDf2, keep_frozen hDx hDz3 hDf3, hg1, hg2]; omega)), by (first | omega | (simp [go_sem, keep_frozen hDx hDz0 hDf0, keep_frozen hDx hDz1 hDf1, keep_frozen hDx hDz2 hDf2, keep_frozen hDx hDz3 hDf3, hg1, hg2]; done) | (simp [go_sem, keep_frozen hDx hDz0 hDf0, keep_frozen hDx hDz1 hDf1, keep_frozen hDx hDz2 hDf2, keep_frozen hDx hDz3 hDf3, hg1, hg2]; omega)), by (first | omega | (simp [go_sem, keep_frozen hDx hDz0 hDf0, keep_frozen hDx hDz1 hDf1, keep_frozen hDx hDz2 hDf2, keep_frozen hDx hDz3 hDf3, hg1, hg2]; done) | (simp [go_sem, keep_frozen hDx hDz0 hDf0, keep_frozen hDx hDz1 hDf1, keep_frozen hDx hDz2 hDf2, keep_frozen hDx hDz3 hDf3, hg1, hg2]; omega)), by (repeat' (first | (with_reducible exact Below.refl _ _) | (with_reducible assumption) | (with_reducible refine below_alloc ?_ _) | (with_reducible refine Below.drew ?_) | (with_reducible refine Below.setCell ?_ ?_ _) | (with_reducible refine below_after ?_ (by assumption)) | go_size))⟩ ?_
    rintro F ⟨hFc0, hFc1, hFc2, hFc3, hFc4, hFc5, hFf0, hFf1, hFf2, hFf3, hFf4, hFf5, hFz0, hFz1, hFz2, hFz3, hFz4, hFz5, hFb⟩
    go_upto_region 8 with (fail)
    have gF0 := hFf0
    have gF1 := hFf1
    have gF2 := hFf2
    have gF3 := hFf3
    have hFf0 := hFf4
    have hFf1 := hFf5
    skip
    have hFK := Lib.hid (show ∀ x : World, Kp F.heap.size [B1, B2] F x → ((∀ o, x.cell? ⟨w.heap.size, o, none⟩ = (#[.bool (s), .int .u64 (wd (a) 0), .int .u64 (wd (a) 1), .int .u64 (wd (a) 2), .int .u64 (wd (a) 3)] : Array Value)[o]?) ∧ (∀ o, x.cell? ⟨w.heap.size + 1, o, none⟩ = (#[.bool (true), .int .u64 (wd (b) 0), .int .u64 (wd (b) 1), .int .u64 (wd (b) 2), .int .u64 (wd (b) 3)] : Array Value)[o]?) ∧ (∀ o, x.cell? ⟨w4.heap.size, o, none⟩ = (#[.bool (zs (u)), .int .u64 (wd (Int.natAbs (u)) 0), .int .u64 (wd (Int.natAbs (u)) 1), .int .u64 (wd (Int.natAbs (u)) 2), .int .u64 (wd (Int.natAbs (u)) 3)] : Array Value)[o]?) ∧ (∀ o, x.cell? ⟨w1.heap.size + 1, o, none⟩ = (#[.bool (zs (r)), .int .u64 (wd (Int.natAbs (r)) 0), .int .u64 (wd (Int.natAbs (r)) 1), .int .u64 (wd (Int.natAbs (r)) 2), .int .u64 (wd (Int.natAbs (r)) 3)] : Array Value)[o]?) ∧ (∀ o, x.frozen? ⟨B1, o, none⟩ = false) ∧ (∀ o, x.frozen? ⟨B2, o, none⟩ = false) ∧ w.heap.size < x.heap.size ∧ w.heap.size + 1 < x.heap.size ∧ w4.heap.size < x.heap.size ∧ w1.heap.size + 1 < x.heap.size ∧ B1 < x.heap.size ∧ B2 < x.heap.size ∧ F.heap.size ≤ x.heap.size) from fun x k => ⟨fun o => (k.cell _ o hFz0 (by first | (simp; done) | (simp; omega))).trans (hFc0 o), fun o => (k.cell _ o hFz1 (by first | (simp; done) | (simp; omega))).trans (hFc1 o), fun o => (k.cell _ o hFz2 (by first | (simp; done) | (simp; omega))).trans (hFc2 o), fun o => (k.cell _ o hFz3 (by first | (simp; done) | (simp; omega))).trans (hFc3 o), fun o => (k.froz _ o hFz4).trans (hFf0 o), fun o => (k.froz _ o hFz5).trans (hFf1 o), Nat.lt_of_lt_of_le hFz0 k.size, Nat.lt_of_lt_of_le hFz1 k.size, Nat.lt_of_lt_of_le hFz2 k.size, Nat.lt_of_lt_of_le hFz3 k.size, Nat.lt_of_lt_of_le hFz4 k.size, Nat.lt_of_lt_of_le hFz5 k.size, k.size⟩)
    go_region_held3 (fun x => (∀ o, x.cell? ⟨w.heap.size, o, none⟩ = (#[.bool (s), .int .u64 (wd (a) 0), .int .u64 (wd (a) 1), .int .u64 (wd (a) 2), .int .u64 (wd (a) 3)] : Array Value)[o]?) ∧ (∀ o, x.cell? ⟨w.heap.size + 1, o, none⟩ = (#[.bool (true), .int .u64 (wd (b) 0), .int .u64 (wd (b) 1), .int .u64 (wd (b) 2), .int .u64 (wd (b) 3)] : Array Value)[o]?) ∧ (∀ o, x.cell? ⟨w4.heap.size, o, none⟩ = (#[.bool (zs (u)), .int .u64 (wd (Int.natAbs (u)) 0), .int .u64 (wd (Int.natAbs (u)) 1), .int .u64 (wd (Int.natAbs (u)) 2), .int .u64 (wd (Int.natAbs (u)) 3)] : Array Value)[o]?) ∧ (∀ o, x.cell? ⟨w1.heap.size + 1, o, none⟩ = (#[.bool (zs (r)), .int .u64 (wd (Int.natAbs (r)) 0), .int .u64 (wd (Int.natAbs (r)) 1), .int .u64 (wd (Int.natAbs (r)) 2), .int .u64 (wd (Int.natAbs (r)) 3)] : Array Value)[o]?) ∧ (∀ o, x.frozen? ⟨B1, o, none⟩ = false) ∧ (∀ o, x.frozen? ⟨B2, o, none⟩ = false) ∧ w.heap.size < x.heap.size ∧ w.heap.size + 1 < x.heap.size ∧ w4.heap.size < x.heap.size ∧ w1.heap.size + 1 < x.heap.size ∧ B1 < x.heap.size ∧ B2 < x.heap.size ∧ F.heap.size ≤ x.heap.size) ((refine hFK.out _ ?_; (repeat (first | (with_reducible assumption) | (with_reducible exact Kp.refl (Nat.le_refl _)) | (with_reducible refine Kp.drew ?_) | (with_reducible refine Kp.alloc ?_ _) | ((with_reducible refine Kp.put ?_ ?_ _); focus (first | (left; go_size; done) | (right; simp; done))) | ((with_reducible apply Kp.later); (with_reducible assumption)))))) ((first | (go_at_call 28; (with_reducible refine (KO.out _).mono ?_); rintro e F_1 ⟨rfl, hbF_1⟩; have hkF_1 : Kp F.heap.size [] F F_1 := (by (repeat (first | (with_reducible assumption) | (with_reducible exact Kp.refl (Nat.le_refl _)) | (with_reducible refine Kp.drew ?_) | (with_reducible refine Kp.alloc ?_ _) | ((with_reducible refine Kp.put ?_ ?_ _); focus (first | (left; go_size; done) | (right; simp; done))) | ((with_reducible apply Kp.later); (with_reducible assumption))))); have hF_1c4 := fun o => (hkF_1.cell _ o hFz4 (by simp)).trans (hFc4 o); have hF_1f0 := fun o => (hkF_1.froz _ o hFz4).trans (hFf0 o); have hF_1z4 := Nat.lt_of_lt_of_le hFz4 hkF_1.size; have hF_1c5 := fun o => (hkF_1.cell _ o hFz5 (by simp)).trans (hFc5 o); have hF_1f1 := fun o => (hkF_1.froz _ o hFz5).trans (hFf1 o); have hF_1z5 := Nat.lt_of_lt_of_le hFz5 hkF_1.size)))
    go_upto_region 9 with (fail)
    refine wp_world (fun x => (∀ o, x.cell? ⟨w.heap.size, o, none⟩ = (#[.bool (s), .int .u64 (wd (a) 0), .int .u64 (wd (a) 1), .int .u64 (wd (a) 2), .int .u64 (wd (a) 3)] : Array Value)[o]?) ∧ (∀ o, x.cell? ⟨w.heap.size + 1, o, none⟩ = (#[.bool (true), .int .u64 (wd (b) 0), .int .u64 (wd (b) 1), .int .u64 (wd (b) 2), .int .u64 (wd (b) 3)] : Array Value)[o]?) ∧ (∀ o, x.cell? ⟨w4.heap.size, o, none⟩ = (#[.bool (zs (u)), .int .u64 (wd (Int.natAbs (u)) 0), .int .u64 (wd (Int.natAbs (u)) 1), .int .u64 (wd (Int.natAbs (u)) 2), .int .u64 (wd (Int.natAbs (u)) 3)] : Array Value)[o]?) ∧ (∀ o, x.cell? ⟨w1.heap.size + 1, o, none⟩ = (#[.bool (zs (r)), .int .u64 (wd (Int.natAbs (r)) 0), .int .u64 (wd (Int.natAbs (r)) 1), .int .u64 (wd (Int.natAbs (r)) 2), .int .u64 (wd (Int.natAbs (r)) 3)] : Array Value)[o]?) ∧ (∀ o, x.cell? ⟨B1, o, none⟩ = (#[.bool (true), .int .u64 (wd (b) 0), .int .u64 (wd (b) 1), .int .u64 (wd (b) 2), .int .u64 (wd (b) 3)] : Array Value)[o]?) ∧ (∀ o, x.cell? ⟨B2, o, none⟩ = (#[.bool false, .int .u64 0, .int .u64 0, .int .u64 0, .int .u64 0] : Array Value)[o]?) ∧ (∀ o, x.frozen? ⟨w.heap.size, o, none⟩ = false) ∧ (∀ o, x.frozen? ⟨w.heap.size + 1, o, none⟩ = false) ∧ (∀ o, x.frozen? ⟨w4.heap.size, o, none⟩ = false) ∧ (∀ o, x.frozen? ⟨w1.heap.size + 1, o, none⟩ = false) ∧ (∀ o, x.frozen? ⟨B1, o, none⟩ = false) ∧ (∀ o, x.frozen? ⟨B2, o, none⟩ = false) ∧ w.heap.size < x.heap.size ∧ w.heap.size + 1 < x.heap.size ∧ w4.heap.size < x.heap.size ∧ w1.heap.size + 1 < x.heap.size ∧ B1 < x.heap.size ∧ B2 < x.heap.size ∧ Below w.heap.size w x) ⟨(hFK.out _ (by (repeat (first | (with_reducible assumption) | (with_reducible exact Kp.refl (Nat.le_refl _)) | (with_reducible refine Kp.drew ?_) | (with_reducible refine Kp.alloc ?_ _) | ((with_reducible refine Kp.put ?_ ?_ _); focus (first | (left; go_size; done) | (right; simp; done))) | ((with_reducible apply Kp.later); (with_reducible assumption)))))).1, (hFK.out _ (by (repeat (first | (with_reducible assumption) | (with_reducible exact Kp.refl (Nat.le_refl _)) | (with_reducible refine Kp.drew ?_) | (with_reducible refine Kp.alloc ?_ _) | ((with_reducible refine Kp.put ?_ ?_ _); focus (first | (left; go_size; done) | (right; simp; done))) | ((with_reducible apply Kp.later); (with_reducible assumption)))))).2.1, (hFK.out _ (by (repeat (first | (with_reducible assumption) | (with_reducible exact Kp.refl (Nat.le_refl _)) | (with_reducible refine Kp.drew ?_) | (with_reducible refine Kp.alloc ?_ _) | ((with_reducible refine Kp.put ?_ ?_ _); focus (first | (left; go_size; done) | (right; simp; done))) | ((with_reducible apply Kp.later); (with_reducible assumption)))))).2.2.1, (hFK.out _ (by (repeat (first | (with_reducible assumption) | (with_reducible exact Kp.refl (Nat.le_refl _)) | (with_reducible refine Kp.drew ?_) | (with_reducible refine Kp.alloc ?_ _) | ((with_reducible refine Kp.put ?_ ?_ _); focus (first | (left; go_size; done) | (right; simp; done))) | ((with_reducible apply Kp.later); (with_reducible assumption)))))).2.2.2.1, set_far (by first | omega | (simp; done) | (simp; omega)) (set_far (by first | omega | (simp; done) | (simp; omega)) (set_far (by first | omega | (simp; done) | (simp; omega)) (set_far (by first | omega | (simp; done) | (simp; omega)) (set_far (by first | omega | (simp; done) | (simp; omega)) (set_at (set_at (set_at (set_at (set_at hF_1c4))))))))), set_at (set_at (set_at (set_at (set_at (set_far (by first | omega | (simp; done) | (simp; omega)) (set_far (by first | omega | (simp; done) | (simp; omega)) (set_far (by first | omega | (simp; done) | (simp; omega)) (set_far (by first | omega | (simp; done) | (simp; omega)) (set_far (by first | omega | (simp; done) | (simp; omega)) (hF_1c5)))))))))), fun o => by simp [go_sem, (fun o => (hkF_1.froz _ o hFz0).trans (gF0 o)), (fun o => (hkF_1.froz _ o hFz1).trans (gF1 o)), (fun o => (hkF_1.froz _ o hFz2).trans (gF2 o)), (fun o => (hkF_1.froz _ o hFz3).trans (gF3 o)), hF_1f0, hF_1f1, Nat.lt_of_lt_of_le hFz0 hkF_1.size, Nat.lt_of_lt_of_le hFz1 hkF_1.size, Nat.lt_of_lt_of_le hFz2 hkF_1.size, Nat.lt_of_lt_of_le hFz3 hkF_1.size, hF_1z4, hF_1z5], fun o => by simp [go_sem, (fun o => (hkF_1.froz _ o hFz0).trans (gF0 o)), (fun o => (hkF_1.froz _ o hFz1).trans (gF1 o)), (fun o => (hkF_1.froz _ o hFz2).trans (gF2 o)), (fun o => (hkF_1.froz _ o hFz3).trans (gF3 o)), hF_1f0, hF_1f1, Nat.lt_of_lt_of_le hFz0 hkF_1.size, Nat.lt_of_lt_of_le hFz1 hkF_1.size, Nat.lt_of_lt_of_le hFz2 hkF_1.size, Nat.lt_of_lt_of_le hFz3 hkF_1.size, hF_1z4, hF_1z5], fun o => by simp [go_sem, (fun o => (hkF_1.froz _ o hFz0).trans (gF0 o)), (fun o => (hkF_1.froz _ o hFz1).trans (gF1 o)), (fun o => (hkF_1.froz _ o hFz2).trans (gF2 o)), (fun o => (hkF_1.froz _ o hFz3).trans (gF3 o)), hF_1f0, hF_1f1, Nat.lt_of_lt_of_le hFz0 hkF_1.size, Nat.lt_of_lt_of_le hFz1 hkF_1.size, Nat.lt_of_lt_of_le hFz2 hkF_1.size, Nat.lt_of_lt_of_le hFz3 hkF_1.size, hF_1z4, hF_1z5], fun o => by simp [go_sem, (fun o => (hkF_1.froz _ o hFz0).trans (gF0 o)), (fun o => (hkF_1.froz _ o hFz1).trans (gF1 o)), (fun o => (hkF_1.froz _ o hFz2).trans (gF2 o)), (fun o => (hkF_1.froz _ o hFz3).trans (gF3 o)), hF_1f0, hF_1f1, Nat.lt_of_lt_of_le hFz0 hkF_1.size, Nat.lt_of_lt_of_le hFz1 hkF_1.size, Nat.lt_of_lt_of_le hFz2 hkF_1.size, Nat.lt_of_lt_of_le hFz3 hkF_1.size, hF_1z4, hF_1z5], fun o => by simp [go_sem, (fun o => (hkF_1.froz _ o hFz0).trans (gF0 o)), (fun o => (hkF_1.froz _ o hFz1).trans (gF1 o)), (fun o => (hkF_1.froz _ o hFz2).trans (gF2 o)), (fun o => (hkF_1.froz _ o hFz3).trans (gF3 o)), hF_1f0, hF_1f1, Nat.lt_of_lt_of_le hFz0 hkF_1.size, Nat.lt_of_lt_of_le hFz1 hkF_1.size, Nat.lt_of_lt_of_le hFz2 hkF_1.size, Nat.lt_of_lt_of_le hFz3 hkF_1.size, hF_1z4, hF_1z5], fun o => by simp [go_sem, (fun o => (hkF_1.froz _ o hFz0).trans (gF0 o)), (fun o => (hkF_1.froz _ o hFz1).trans (gF1 o)), (fun o => (hkF_1.froz _ o hFz2).trans (gF2 o)), (fun o => (hkF_1.froz _ o hFz3).trans (gF3 o)), hF_1f0, hF_1f1, Nat.lt_of_lt_of_le hFz0 hkF_1.size, Nat.lt_of_lt_of_le hFz1 hkF_1.size, Nat.lt_of_lt_of_le hFz2 hkF_1.size, Nat.lt_of_lt_of_le hFz3 hkF_1.size, hF_1z4, hF_1z5], by (first | omega | (simp [go_sem, (fun o => (hkF_1.froz _ o hFz0).trans (gF0 o)), (fun o => (hkF_1.froz _ o hFz1).trans (gF1 o)), (fun o => (hkF_1.froz _ o hFz2).trans (gF2 o)), (fun o => (hkF_1.froz _ o hFz3).trans (gF3 o)), hF_1f0, hF_1f1, Nat.lt_of_lt_of_le hFz0 hkF_1.size, Nat.lt_of_lt_of_le hFz1 hkF_1.size, Nat.lt_of_lt_of_le hFz2 hkF_1.size, Nat.lt_of_lt_of_le hFz3 hkF_1.size, hF_1z4, hF_1z5]; done) | (simp [go_sem, (fun o => (hkF_1.froz _ o hFz0).trans (gF0 o)), (fun o => (hkF_1.froz _ o hFz1).trans (gF1 o)), (fun o => (hkF_1.froz _ o hFz2).trans (gF2 o)), (fun o => (hkF_1.froz _ o hFz3).trans (gF3 o)), hF_1f0, hF_1f1, Nat.lt_of_lt_of_le hFz0 hkF_1.size, Nat.lt_of_lt_of_le hFz1 hkF_1.size, Nat.lt_of_lt_of_le hFz2 hkF_1.size, Nat.lt_of_lt_of_le hFz3 hkF_1.size, hF_1z4, hF_1z5]; omega)), by (first | omega | (simp [go_sem, (fun o => (hkF_1.froz _ o hFz0).trans (gF0 o)), (fun o => (hkF_1.froz _ o hFz1).trans (gF1 o)), (fun o => (hkF_1.froz _ o hFz2).trans (gF2 o)), (fun o => (hkF_1.froz _ o hFz3).trans (gF3 o)), hF_1f0, hF_1f1, Nat.lt_of_lt_of_le hFz0 hkF_1.size, Nat.lt_of_lt_of_le hFz1 hkF_1.size, Nat.lt_of_lt_of_le hFz2 hkF_1.size, Nat.lt_of_lt_of_le hFz3 hkF_1.size, hF_1z4, hF_1z5]; done) | (simp [go_sem, (fun o => (hkF_1.froz _ o hFz0).trans (gF0 o)), (fun o => (hkF_1.froz _ o hFz1).trans (gF1 o)), (fun o => (hkF_1.froz _ o hFz2).trans (gF2 o)), (fun o => (hkF_1.froz _ o hFz3).trans (gF3 o)), hF_1f0, hF_1f1, Nat.lt_of_lt_of_le hFz0 hkF_1.size, Nat.lt_of_lt_of_le hFz1 hkF_1.size, Nat.lt_of_lt_of_le hFz2 hkF_1.size, Nat.lt_of_lt_of_le hFz3 hkF_1.size, hF_1z4, hF_1z5]; omega)), by (first | omega | (simp [go_sem, (fun o => (hkF_1.froz _ o hFz0).trans (gF0 o)), (fun o => (hkF_1.froz _ o hFz1).trans (gF1 o)), (fun o => (hkF_1.froz _ o hFz2).trans (gF2 o)), (fun o => (hkF_1.froz _ o hFz3).trans (gF3 o)), hF_1f0, hF_1f1, Nat.lt_of_lt_of_le hFz0 hkF_1.size, Nat.lt_of_lt_of_le hFz1 hkF_1.size, Nat.lt_of_lt_of_le hFz2 hkF_1.size, Nat.lt_of_lt_of_le hFz3 hkF_1.size, hF_1z4, hF_1z5]; done) | (simp [go_sem, (fun o => (hkF_1.froz _ o hFz0).trans (gF0 o)), (fun o => (hkF_1.froz _ o hFz1).trans (gF1 o)), (fun o => (hkF_1.froz _ o hFz2).trans (gF2 o)), (fun o => (hkF_1.froz _ o hFz3).trans (gF3 o)), hF_1f0, hF_1f1, Nat.lt_of_lt_of_le hFz0 hkF_1.size, Nat.lt_of_lt_of_le hFz1 hkF_1.size, Nat.lt_of_lt_of_le hFz2 hkF_1.size, Nat.lt_of_lt_of_le hFz3 hkF_1.size, hF_1z4, hF_1z5]; omega)), by (first | omega | (simp [go_sem, (fun o => (hkF_1.froz _ o hFz0).trans (gF0 o)), (fun o => (hkF_1.froz _ o hFz1).trans (gF1 o)), (fun o => (hkF_1.froz _ o hFz2).trans (gF2 o)), (fun o => (hkF_1.froz _ o hFz3).trans (gF3 o)), hF_1f0, hF_1f1, Nat.lt_of_lt_of_le hFz0 hkF_1.size, Nat.lt_of_lt_of_le hFz1 hkF_1.size, Nat.lt_of_lt_of_le hFz2 hkF_1.size, Nat.lt_of_lt_of_le hFz3 hkF_1.size, hF_1z4, hF_1z5]; done) | (simp [go_sem, (fun o => (hkF_1.froz _ o hFz0).trans (gF0 o)), (fun o => (hkF_1.froz _ o hFz1).trans (gF1 o)), (fun o => (hkF_1.froz _ o hFz2).trans (gF2 o)), (fun o => (hkF_1.froz _ o hFz3).trans (gF3 o)), hF_1f0, hF_1f1, Nat.lt_of_lt_of_le hFz0 hkF_1.size, Nat.lt_of_lt_of_le hFz1 hkF_1.size, Nat.lt_of_lt_of_le hFz2 hkF_1.size, Nat.lt_of_lt_of_le hFz3 hkF_1.size, hF_1z4, hF_1z5]; omega)), by (first | omega | (simp [go_sem, (fun o => (hkF_1.froz _ o hFz0).trans (gF0 o)), (fun o => (hkF_1.froz _ o hFz1).trans (gF1 o)), (fun o => (hkF_1.froz _ o hFz2).trans (gF2 o)), (fun o => (hkF_1.froz _ o hFz3).trans (gF3 o)), hF_1f0, hF_1f1, Nat.lt_of_lt_of_le hFz0 hkF_1.size, Nat.lt_of_lt_of_le hFz1 hkF_1.size, Nat.lt_of_lt_of_le hFz2 hkF_1.size, Nat.lt_of_lt_of_le hFz3 hkF_1.size, hF_1z4, hF_1z5]; done) | (simp [go_sem, (fun o => (hkF_1.froz _ o hFz0).trans (gF0 o)), (fun o => (hkF_1.froz _ o hFz1).trans (gF1 o)), (fun o => (hkF_1.froz _ o hFz2).trans (gF2 o)), (fun o => (hkF_1.froz _ o hFz3).trans (gF3 o)), hF_1f0, hF_1f1, Nat.lt_of_lt_of_le hFz0 hkF_1.size, Nat.lt_of_lt_of_le hFz1 hkF_1.size, Nat.lt_of_lt_of_le hFz2 hkF_1.size, Nat.lt_of_lt_of_le hFz3 hkF_1.size, hF_1z4, hF_1z5]; omega)), by (first | omega | (simp [go_sem, (fun o => (hkF_1.froz _ o hFz0).trans (gF0 o)), (fun o => (hkF_1.froz _ o hFz1).trans (gF1 o)), (fun o => (hkF_1.froz _ o hFz2).trans (gF2 o)), (fun o => (hkF_1.froz _ o hFz3).trans (gF3 o)), hF_1f0, hF_1f1, Nat.lt_of_lt_of_le hFz0 hkF_1.size, Nat.lt_of_lt_of_le hFz1 hkF_1.size, Nat.lt_of_lt_of_le hFz2 hkF_1.size, Nat.lt_of_lt_of_le hFz3 hkF_1.size, hF_1z4, hF_1z5]; done) | (simp [go_sem, (fun o => (hkF_1.froz _ o hFz0).trans (gF0 o)), (fun o => (hkF_1.froz _ o hFz1).trans (gF1 o)), (fun o => (hkF_1.froz _ o hFz2).trans (gF2 o)), (fun o => (hkF_1.froz _ o hFz3).trans (gF3 o)), hF_1f0, hF_1f1, Nat.lt_of_lt_of_le hFz0 hkF_1.size, Nat.lt_of_lt_of_le hFz1 hkF_1.size, Nat.lt_of_lt_of_le hFz2 hkF_1.size, Nat.lt_of_lt_of_le hFz3 hkF_1.size, hF_1z4, hF_1z5]; omega)), by (repeat' (first | (with_reducible exact Below.refl _ _) | (with_reducible assumption) | (with_reducible refine below_alloc ?_ _) | (with_reducible refine Below.drew ?_) | (with_reducible refine Below.setCell ?_ ?_ _) | (with_reducible refine below_after ?_ (by assumption)) | go_size))⟩ ?_
    rintro L ⟨hLc0, hLc1, hLc2, hLc3, hLc4, hLc5, hLf0, hLf1, hLf2, hLf3, hLf4, hLf5, hLz0, hLz1, hLz2, hLz3, hLz4, hLz5, hLb⟩
    rcases HK.out with rfl | rfl
    all_goals
      go_wp2_with fail
      ((with_reducible refine (K1.out _).mono ?_); rintro e w5 ⟨rfl, hb5⟩)
      have hk5 : Kp L.heap.size [] L w5 := (by (repeat (first | (with_reducible assumption) | (with_reducible exact Kp.refl (Nat.le_refl _)) | (with_reducible refine Kp.drew ?_) | (with_reducible refine Kp.alloc ?_ _) | ((with_reducible refine Kp.put ?_ ?_ _); focus (first | (left; go_size; done) | (right; simp; done))) | ((with_reducible apply Kp.later); (with_reducible assumption)))))
      have h5c0 := fun o => (hk5.cell _ o hLz0 (by simp)).trans (hLc0 o)
      have h5f0 := fun o => (hk5.froz _ o hLz0).trans (hLf0 o)
      have h5z0 := Nat.lt_of_lt_of_le hLz0 hk5.size
      have h5c1 := fun o => (hk5.cell _ o hLz1 (by simp)).trans (hLc1 o)
      have h5f1 := fun o => (hk5.froz _ o hLz1).trans (hLf1 o)
      have h5z1 := Nat.lt_of_lt_of_le hLz1 hk5.size
      have h5c2 := fun o => (hk5.cell _ o hLz2 (by simp)).trans (hLc2 o)
      have h5f2 := fun o => (hk5.froz _ o hLz2).trans (hLf2 o)
      have h5z2 := Nat.lt_of_lt_of_le hLz2 hk5.size
      have h5c3 := fun o => (hk5.cell _ o hLz3 (by simp)).trans (hLc3 o)
      have h5f3 := fun o => (hk5.froz _ o hLz3).trans (hLf3 o)
      have h5z3 := Nat.lt_of_lt_of_le hLz3 hk5.size
      have h5c4 := fun o => (hk5.cell _ o hLz4 (by simp)).trans (hLc4 o)
      have h5f4 := fun o => (hk5.froz _ o hLz4).trans (hLf4 o)
      have h5z4 := Nat.lt_of_lt_of_le hLz4 hk5.size
      have h5c5 := fun o => (hk5.cell _ o hLz5 (by simp)).trans (hLc5 o)
      have h5f5 := fun o => (hk5.froz _ o hLz5).trans (hLf5 o)
      have h5z5 := Nat.lt_of_lt_of_le hLz5 hk5.size
      go_wp2_with fail
      ((with_reducible refine (K0.out _).mono ?_); rintro e w6 ⟨rfl, hb6⟩)
      have hk6 : Kp L.heap.size [] L w6 := (by (repeat (first | (with_reducible assumption) | (with_reducible exact Kp.refl (Nat.le_refl _)) | (with_reducible refine Kp.drew ?_) | (with_reducible refine Kp.alloc ?_ _) | ((with_reducible refine Kp.put ?_ ?_ _); focus (first | (left; go_size; done) | (right; simp; done))) | ((with_reducible apply Kp.later); (with_reducible assumption)))))
      have h6c0 := fun o => (hk6.cell _ o hLz0 (by simp)).trans (hLc0 o)
      have h6f0 := fun o => (hk6.froz _ o hLz0).trans (hLf0 o)
      have h6z0 := Nat.lt_of_lt_of_le hLz0 hk6.size
      have h6c1 := fun o => (hk6.cell _ o hLz1 (by simp)).trans (hLc1 o)
      have h6f1 := fun o => (hk6.froz _ o hLz1).trans (hLf1 o)
      have h6z1 := Nat.lt_of_lt_of_le hLz1 hk6.size
      have h6c2 := fun o => (hk6.cell _ o hLz2 (by simp)).trans (hLc2 o)
      have h6f2 := fun o => (hk6.froz _ o hLz2).trans (hLf2 o)
      have h6z2 := Nat.lt_of_lt_of_le hLz2 hk6.size
      have h6c3 := fun o => (hk6.cell _ o hLz3 (by simp)).trans (hLc3 o)
      have h6f3 := fun o => (hk6.froz _ o hLz3).trans (hLf3 o)
      have h6z3 := Nat.lt_of_lt_of_le hLz3 hk6.size
      have h6c4 := fun o => (hk6.cell _ o hLz4 (by simp)).trans (hLc4 o)
      have h6f4 := fun o => (hk6.froz _ o hLz4).trans (hLf4 o)
      have h6z4 := Nat.lt_of_lt_of_le hLz4 hk6.size
      have h6c5 := fun o => (hk6.cell _ o hLz5 (by simp)).trans (hLc5 o)
      have h6f5 := fun o => (hk6.froz _ o hLz5).trans (hLf5 o)
      have h6z5 := Nat.lt_of_lt_of_le hLz5 hk6.size
      go_upto_region 11 with (fail)
      go_wp2_with fail
      ((with_reducible refine (K1.out _).mono ?_); rintro e w7 ⟨rfl, hb7⟩)
      have hk7 : Kp L.heap.size [] L w7 := (by (repeat (first | (with_reducible assumption) | (with_reducible exact Kp.refl (Nat.le_refl _)) | (with_reducible refine Kp.drew ?_) | (with_reducible refine Kp.alloc ?_ _) | ((with_reducible refine Kp.put ?_ ?_ _); focus (first | (left; go_size; done) | (right; simp; done))) | ((with_reducible apply Kp.later); (with_reducible assumption)))))
      have h7c0 := fun o => (hk7.cell _ o hLz0 (by simp)).trans (hLc0 o)
      have h7f0 := fun o => (hk7.froz _ o hLz0).trans (hLf0 o)
      have h7z0 := Nat.lt_of_lt_of_le hLz0 hk7.size
      have h7c1 := fun o => (hk7.cell _ o hLz1 (by simp)).trans (hLc1 o)
      have h7f1 := fun o => (hk7.froz _ o hLz1).trans (hLf1 o)
      have h7z1 := Nat.lt_of_lt_of_le hLz1 hk7.size
      have h7c2 := fun o => (hk7.cell _ o hLz2 (by simp)).trans (hLc2 o)
      have h7f2 := fun o => (hk7.froz _ o hLz2).trans (hLf2 o)
      have h7z2 := Nat.lt_of_lt_of_le hLz2 hk7.size
      have h7c3 := fun o => (hk7.cell _ o hLz3 (by simp)).trans (hLc3 o)
      have h7f3 := fun o => (hk7.froz _ o hLz3).trans (hLf3 o)
      have h7z3 := Nat.lt_of_lt_of_le hLz3 hk7.size
      have h7c4 := fun o => (hk7.cell _ o hLz4 (by simp)).trans (hLc4 o)
      have h7f4 := fun o => (hk7.froz _ o hLz4).trans (hLf4 o)
      have h7z4 := Nat.lt_of_lt_of_le hLz4 hk7.size
      have h7c5 := fun o => (hk7.cell _ o hLz5 (by simp)).trans (hLc5 o)
      have h7f5 := fun o => (hk7.froz _ o hLz5).trans (hLf5 o)
      have h7z5 := Nat.lt_of_lt_of_le hLz5 hk7.size
      go_wp2_with fail
      ((with_reducible refine (K0.out _).mono ?_); rintro e w8 ⟨rfl, hb8⟩)
      have hk8 : Kp L.heap.size [] L w8 := (by (repeat (first | (with_reducible assumption) | (with_reducible exact Kp.refl (Nat.le_refl _)) | (with_reducible refine Kp.drew ?_) | (with_reducible refine Kp.alloc ?_ _) | ((with_reducible refine Kp.put ?_ ?_ _); focus (first | (left; go_size; done) | (right; simp; done))) | ((with_reducible apply Kp.later); (with_reducible assumption)))))
      have h8c0 := fun o => (hk8.cell _ o hLz0 (by simp)).trans (hLc0 o)
      have h8f0 := fun o => (hk8.froz _ o hLz0).trans (hLf0 o)
      have h8z0 := Nat.lt_of_lt_of_le hLz0 hk8.size
      have h8c1 := fun o => (hk8.cell _ o hLz1 (by simp)).trans (hLc1 o)
      have h8f1 := fun o => (hk8.froz _ o hLz1).trans (hLf1 o)
      have h8z1 := Nat.lt_of_lt_of_le hLz1 hk8.size
      have h8c2 := fun o => (hk8.cell _ o hLz2 (by simp)).trans (hLc2 o)
      have h8f2 := fun o => (hk8.froz _ o hLz2).trans (hLf2 o)
      have h8z2 := Nat.lt_of_lt_of_le hLz2 hk8.size
      have h8c3 := fun o => (hk8.cell _ o hLz3 (by simp)).trans (hLc3 o)
      have h8f3 := fun o => (hk8.froz _ o hLz3).trans (hLf3 o)
      have h8z3 := Nat.lt_of_lt_of_le hLz3 hk8.size
      have h8c4 := fun o => (hk8.cell _ o hLz4 (by simp)).trans (hLc4 o)
      have h8f4 := fun o => (hk8.froz _ o hLz4).trans (hLf4 o)
      have h8z4 := Nat.lt_of_lt_of_le hLz4 hk8.size
      have h8c5 := fun o => (hk8.cell _ o hLz5 (by simp)).trans (hLc5 o)
      have h8f5 := fun o => (hk8.froz _ o hLz5).trans (hLf5 o)
      have h8z5 := Nat.lt_of_lt_of_le hLz5 hk8.size
      go_upto_region 12 with (fail)
      refine wp_world (fun x => (∀ o, x.cell? ⟨w.heap.size, o, none⟩ = (#[.bool (s), .int .u64 (wd (a) 0), .int .u64 (wd (a) 1), .int .u64 (wd (a) 2), .int .u64 (wd (a) 3)] : Array Value)[o]?) ∧ (∀ o, x.cell? ⟨w4.heap.size, o, none⟩ = (#[.bool (zs (u)), .int .u64 (wd (Int.natAbs (u)) 0), .int .u64 (wd (Int.natAbs (u)) 1), .int .u64 (wd (Int.natAbs (u)) 2), .int .u64 (wd (Int.natAbs (u)) 3)] : Array Value)[o]?) ∧ (∀ o, x.frozen? ⟨w.heap.size, o, none⟩ = false) ∧ (∀ o, x.frozen? ⟨w4.heap.size, o, none⟩ = false) ∧ w.heap.size < x.heap.size ∧ w4.heap.size < x.heap.size ∧ Below w.heap.size w x) ⟨fun o => by simp [go_sem, h8c0, h8f0, h8z0, h8c1, h8f1, h8z1, h8c2, h8f2, h8z2, h8c3, h8f3, h8z3, h8c4, h8f4, h8z4, h8c5, h8f5, h8z5], fun o => by simp [go_sem, h8c0, h8f0, h8z0, h8c1, h8f1, h8z1, h8c2, h8f2, h8z2, h8c3, h8f3, h8z3, h8c4, h8f4, h8z4, h8c5, h8f5, h8z5], fun o => by simp [go_sem, h8c0, h8f0, h8z0, h8c1, h8f1, h8z1, h8c2, h8f2, h8z2, h8c3, h8f3, h8z3, h8c4, h8f4, h8z4, h8c5, h8f5, h8z5], fun o => by simp [go_sem, h8c0, h8f0, h8z0, h8c1, h8f1, h8z1, h8c2, h8f2, h8z2, h8c3, h8f3, h8z3, h8c4, h8f4, h8z4, h8c5, h8f5, h8z5], by (first | omega | (simp [go_sem, h8c0, h8f0, h8z0, h8c1, h8f1, h8z1, h8c2, h8f2, h8z2, h8c3, h8f3, h8z3, h8c4, h8f4, h8z4, h8c5, h8f5, h8z5]; done) | (simp [go_sem, h8c0, h8f0, h8z0, h8c1, h8f1, h8z1, h8c2, h8f2, h8z2, h8c3, h8f3, h8z3, h8c4, h8f4, h8z4, h8c5, h8f5, h8z5]; omega)), by (first | omega | (simp [go_sem, h8c0, h8f0, h8z0, h8c1, h8f1, h8z1, h8c2, h8f2, h8z2, h8c3, h8f3, h8z3, h8c4, h8f4, h8z4, h8c5, h8f5, h8z5]; done) | (simp [go_sem, h8c0, h8f0, h8z0, h8c1, h8f1, h8z1, h8c2, h8f2, h8z2, h8c3, h8f3, h8z3, h8c4, h8f4, h8z4, h8c5, h8f5, h8z5]; omega)), by (repeat' (first | (with_reducible exact Below.refl _ _) | (with_reducible assumption) | (with_reducible refine below_alloc ?_ _) | (with_reducible refine Below.drew ?_) | (with_reducible refine Below.setCell ?_ ?_ _) | (with_reducible refine below_after ?_ (by assumption)) | go_size))⟩ ?_
      rintro G ⟨hGc0, hGc1, hGf0, hGf1, hGz0, hGz1, hGb⟩
      rcases HF.out with rfl | ⟨rfl, rfl, rfl⟩
      · go_wp2_with fail
        ((with_reducible refine (K.out _ (HT.out.later (by (repeat' (first | (with_reducible exact Below.refl _ _) | (with_reducible assumption) | (with_reducible refine below_alloc ?_ _) | (with_reducible refine Below.drew ?_) | (with_reducible refine Below.setCell ?_ ?_ _) | (with_reducible refine below_after ?_ (by assumption)) | go_size))))).mono ?_); rintro e w9 ⟨rfl, hb9⟩)
        have hk9 : Kp G.heap.size [] G w9 := (by (repeat (first | (with_reducible assumption) | (with_reducible exact Kp.refl (Nat.le_refl _)) | (with_reducible refine Kp.drew ?_) | (with_reducible refine Kp.alloc ?_ _) | ((with_reducible refine Kp.put ?_ ?_ _); focus (first | (left; go_size; done) | (right; simp; done))) | ((with_reducible apply Kp.later); (with_reducible assumption)))))
        go_wp2
        go_ret
        exact ⟨rfl, by (repeat' (first | (with_reducible exact Below.refl _ _) | (with_reducible assumption) | (with_reducible refine below_alloc ?_ _) | (with_reducible refine Below.drew ?_) | (with_reducible refine Below.setCell ?_ ?_ _) | (with_reducible refine below_after ?_ (by assumption)) | go_size))⟩
      · go_upto_region 14 with (fail)
        refine wp_world (fun x => (∀ o, x.cell? ⟨w.heap.size, o, none⟩ = (#[.bool (s), .int .u64 (wd (a) 0), .int .u64 (wd (a) 1), .int .u64 (wd (a) 2), .int .u64 (wd (a) 3)] : Array Value)[o]?) ∧ (∀ o, x.cell? ⟨w4.heap.size, o, none⟩ = (#[.bool (zs (val s a)), .int .u64 (wd (Int.natAbs (val s a)) 0), .int .u64 (wd (Int.natAbs (val s a)) 1), .int .u64 (wd (Int.natAbs (val s a)) 2), .int .u64 (wd (Int.natAbs (val s a)) 3)] : Array Value)[o]?) ∧ w.heap.size < x.heap.size ∧ w4.heap.size < x.heap.size ∧ Below w.heap.size w x) ⟨fun o => by first | (simp [go_sem, hGc0, hGc1, hGz0, hGz1]; done) | (rcases o with _ | _ | _ | _ | _ | o <;> simp [go_sem, hGc0, hGc1, hGz0, hGz1]), fun o => by first | (simp [go_sem, hGc0, hGc1, hGz0, hGz1]; done) | (rcases o with _ | _ | _ | _ | _ | o <;> simp [go_sem, hGc0, hGc1, hGz0, hGz1]), by (first | omega | (simp [go_sem, hGc0, hGc1, hGz0, hGz1]; done) | (simp [go_sem, hGc0, hGc1, hGz0, hGz1]; omega)), by (first | omega | (simp [go_sem, hGc0, hGc1, hGz0, hGz1]; done) | (simp [go_sem, hGc0, hGc1, hGz0, hGz1]; omega)), by (repeat' (first | (with_reducible exact Below.refl _ _) | (with_reducible assumption) | (with_reducible refine below_alloc ?_ _) | (with_reducible refine Below.drew ?_) | (with_reducible refine Below.setCell ?_ ?_ _) | (with_reducible refine below_after ?_ (by assumption)) | go_size))⟩ ?_
        rintro I ⟨hIc0, hIc1, hIz0, hIz1, hIb⟩
        have hIK := Lib.hid (show ∀ x : World, Kp I.heap.size [] I x → ((∀ o, x.cell? ⟨w.heap.size, o, none⟩ = (#[.bool (s), .int .u64 (wd (a) 0), .int .u64 (wd (a) 1), .int .u64 (wd (a) 2), .int .u64 (wd (a) 3)] : Array Value)[o]?) ∧ (∀ o, x.cell? ⟨w4.heap.size, o, none⟩ = (#[.bool (zs (val s a)), .int .u64 (wd (Int.natAbs (val s a)) 0), .int .u64 (wd (Int.natAbs (val s a)) 1), .int .u64 (wd (Int.natAbs (val s a)) 2), .int .u64 (wd (Int.natAbs (val s a)) 3)] : Array Value)[o]?) ∧ w.heap.size < x.heap.size ∧ w4.heap.size < x.heap.size ∧ I.heap.size ≤ x.heap.size) from fun x k => ⟨fun o => (k.cell _ o hIz0 (by first | (simp; done) | (simp; omega))).trans (hIc0 o), fun o => (k.cell _ o hIz1 (by first | (simp; done) | (simp; omega))).trans (hIc1 o), Nat.lt_of_lt_of_le hIz0 k.size, Nat.lt_of_lt_of_le hIz1 k.size, k.size⟩)
        go_region_held3 (fun x => (∀ o, x.cell? ⟨w.heap.size, o, none⟩ = (#[.bool (s), .int .u64 (wd (a) 0), .int .u64 (wd (a) 1), .int .u64 (wd (a) 2), .int .u64 (wd (a) 3)] : Array Value)[o]?) ∧ (∀ o, x.cell? ⟨w4.heap.size, o, none⟩ = (#[.bool (zs (val s a)), .int .u64 (wd (Int.natAbs (val s a)) 0), .int .u64 (wd (Int.natAbs (val s a)) 1), .int .u64 (wd (Int.natAbs (val s a)) 2), .int .u64 (wd (Int.natAbs (val s a)) 3)] : Array Value)[o]?) ∧ w.heap.size < x.heap.size ∧ w4.heap.size < x.heap.size ∧ I.heap.size ≤ x.heap.size) ((refine hIK.out _ ?_; (repeat (first | (with_reducible assumption) | (with_reducible exact Kp.refl (Nat.le_refl _)) | (with_reducible refine Kp.drew ?_) | (with_reducible refine Kp.alloc ?_ _) | ((with_reducible refine Kp.put ?_ ?_ _); focus (first | (left; go_size; done) | (right; simp; done))) | ((with_reducible apply Kp.later); (with_reducible assumption)))))) ((first | (go_at_call 24; (with_reducible refine (KPa.out _).mono ?_); rintro e I_1 ⟨rfl, hbI_1⟩; have hkI_1 : Kp I.heap.size [] I I_1 := (by (repeat (first | (with_reducible assumption) | (with_reducible exact Kp.refl (Nat.le_refl _)) | (with_reducible refine Kp.drew ?_) | (with_reducible refine Kp.alloc ?_ _) | ((with_reducible refine Kp.put ?_ ?_ _); focus (first | (left; go_size; done) | (right; simp; done))) | ((with_reducible apply Kp.later); (with_reducible assumption)))))) | (go_at_call 15; (with_reducible refine (K.out _ ?_).mono ?_); (focus (refine HT.out.later ?_; (repeat (first | (with_reducible exact Below.refl _ _) | (with_reducible assumption) | (with_reducible refine below_alloc ?_ _) | (with_reducible refine Below.drew ?_) | ((with_reducible apply below_later); (with_reducible assumption)))))); rintro e I_2 ⟨rfl, hbI_2⟩; have hkI_2 : Kp I.heap.size [] I I_2 := (by (repeat (first | (with_reducible assumption) | (with_reducible exact Kp.refl (Nat.le_refl _)) | (with_reducible refine Kp.drew ?_) | (with_reducible refine Kp.alloc ?_ _) | ((with_reducible refine Kp.put ?_ ?_ _); focus (first | (left; go_size; done) | (right; simp; done))) | ((with_reducible apply Kp.later); (with_reducible assumption))))))))
        go_wp2
        go_ret
        exact ⟨rfl, by (repeat' (first | (with_reducible exact Below.refl _ _) | (with_reducible assumption) | (with_reducible refine below_alloc ?_ _) | (with_reducible refine Below.drew ?_) | (with_reducible refine Below.setCell ?_ ?_ _) | (with_reducible refine below_after ?_ (by assumption)) | go_size))⟩
/-- The division of whole numbers. -/
theorem divQ_abs (s t : Bool) (a b : Nat) (ha : a < 2 ^ 256) (h0 : b ≠ 0) : (divQ (val s a) (val t b)).natAbs < 2 ^ 256 := by
  have hd := Nat.div_le_self a b
  by_cases h : (s != t) = false ∨ a % b = 0
  · rw [(div_keep (by omega) h).1, abs_val]; omega
  · have hr : a % b ≠ 0 := by simp_all
    rw [(div_turn (by omega) (by cases s <;> cases t <;> simp_all) hr).1, abs_val]
    have hb2 : 2 ≤ b := by
      rcases Nat.lt_or_ge b 2 with h | h
      · have : b = 1 := by omega
        subst this; omega
      · exact h
    have : a / b ≤ a / 2 := Nat.div_le_div_left hb2 (by decide)
    have e : (2 : Nat) ^ 256 = 115792089237316195423570985008687907853269984665640564039457584007913129639936 := rfl
    omega
theorem divL_abs (s t : Bool) (a b : Nat) (hb : b < 2 ^ 256) (h0 : b ≠ 0) : (divR (val s a) (val t b)).natAbs < 2 ^ 256 := by
  have hm := Nat.mod_lt a (Nat.pos_of_ne_zero h0)
  by_cases h : (s != t) = false ∨ a % b = 0
  · rw [(div_keep (by omega) h).2.1, abs_val]; omega
  · rw [(div_turn (by omega) (by cases s <;> cases t <;> simp_all) (by simp_all)).2.1, abs_val]; omega
theorem div_makes (x y : Int) (hy : y ≠ 0) : divQ x y * y + divR x y = x := by
  unfold divQ divR
  rw [if_neg hy, if_neg hy]
  by_cases h : 0 < y
  · rw [if_pos h, if_pos h]; exact Int.ediv_mul_add_emod x y
  · rw [if_neg h, if_neg h]
    have := Int.ediv_mul_add_emod (-x) (-y)
    have e : -x / -y * -y = -(-x / -y * y) := Int.mul_neg _ _
    omega
theorem divR_pos (x y : Int) (hy : 0 < y) : 0 ≤ divR x y ∧ divR x y < y := by
  unfold divR
  rw [if_neg (by omega), if_pos hy]
  exact ⟨Int.emod_nonneg _ (by omega), Int.emod_lt_of_pos _ hy⟩
theorem divR_neg (x y : Int) (hy : y < 0) : divR x y ≤ 0 ∧ y < divR x y := by
  unfold divR
  rw [if_neg (by omega), if_neg (by omega)]
  have h1 := Int.emod_nonneg (-x) (show -y ≠ 0 by omega)
  have h2 := Int.emod_lt_of_pos (-x) (show 0 < -y by omega)
  omega
theorem cmp_z0 (r : Int) (hr : r.natAbs < 2 ^ 256) (w : World) : Calls Tryd.prog 37 #[(.agg #[.bool (zs (r)), .int .u64 (wd (Int.natAbs (r)) 0), .int .u64 (wd (Int.natAbs (r)) 1), .int .u64 (wd (Int.natAbs (r)) 2), .int .u64 (wd (Int.natAbs (r)) 3)]), .agg #[.bool false, .int .u64 0, .int .u64 0, .int .u64 0, .int .u64 0]] w fun e w' => e = .returned (.int .i64 (cmpZ r 0)) ∧ Below w.heap.size w w' := by
  have h := cmp_any (zs r) false r.natAbs 0 hr (by decide) w
  rw [val_zs, show val false 0 = 0 by unfold val; simp, wd_zero.1, wd_zero.2.1, wd_zero.2.2.1, wd_zero.2.2.2] at h
  exact h
theorem division_walk (s : Bool) (a : Nat) (ha : a < 2 ^ 256) (t : Bool) (b : Nat) (hb : b < 2 ^ 256) (w : World) (hT : Tabs w) :
    Calls Tryd.prog 12 #[(.agg #[.bool (s), .int .u64 (wd (a) 0), .int .u64 (wd (a) 1), .int .u64 (wd (a) 2), .int .u64 (wd (a) 3)]), (.agg #[.bool (t), .int .u64 (wd (b) 0), .int .u64 (wd (b) 1), .int .u64 (wd (b) 2), .int .u64 (wd (b) 3)])] w fun e w' => e = .returned (.bool true) ∧ Below w.heap.size w w' := by
  by_cases h0 : b = 0
  · subst h0; exact division_none s t a ha w hT
  have hy : val t b ≠ 0 := fun h => by have := abs_val t b; rw [h] at this; simp at this; omega
  have hD := div_any s t a b ha hb
  have hE : divE (val t b) = 0 := by unfold divE; rw [if_neg hy]
  rw [hE] at hD
  have hq := divQ_abs s t a b ha h0
  have hr := divL_abs s t a b hb h0
  have hM := mul_any (zs (divQ (val s a) (val t b))) t (divQ (val s a) (val t b)).natAbs b hq hb
  have hmk := div_makes (val s a) (val t b) hy
  have hp := divR_pos (val s a) (val t b)
  have hn := divR_neg (val s a) (val t b)
  rw [val_zs] at hM
  have h00 := cmp_z0 (divR (val s a) (val t b)) hr
  have h01 := cmp_any (zs (divR (val s a) (val t b))) t (divR (val s a) (val t b)).natAbs b hr hb
  rw [val_zs] at h01
  generalize divQ (val s a) (val t b) = q at *
  generalize divR (val s a) (val t b) = r at *
  have hfl : (fitZ (q * val t b)).natAbs < 2 ^ 256 := by unfold fitZ; split <;> simp_all
  have hA := add_any (zs (fitZ (q * val t b))) (zs r) (fitZ (q * val t b)).natAbs r.natAbs hfl hr
  rw [val_zs, val_zs] at hA
  have hf : fitE (q * val t b) = 21 ∨ (fitE (q * val t b) = 0 ∧ fitE (fitZ (q * val t b) + r) = 0 ∧ fitZ (fitZ (q * val t b) + r) = val s a) := by
    by_cases h : (q * val t b).natAbs < 2 ^ 256
    · refine Or.inr ⟨fitE_in h, ?_, ?_⟩
      · rw [fitZ_in h, hmk]; exact fitE_in (by rw [abs_val]; exact ha)
      · rw [fitZ_in h, hmk]; exact fitZ_in (by rw [abs_val]; exact ha)
    · exact Or.inl (fitE_out h)
  cases t
  · have hy0 : 0 < val false b := by unfold val; simp; omega
    have hp := hp hy0
    have e1 : cmpZ r (val false b) = -1 := by unfold cmpZ; rw [if_pos hp.2]
    rw [e1] at h01
    exact division_pos s a b q r _ _ _ _ _ w hT ha h0 hb hD hM hA h00 h01 (by unfold cmpZ; split; omega; split <;> simp) hf
  · have hy0 : val true b < 0 := by unfold val; simp; omega
    have hn := hn hy0
    have e1 : cmpZ r (val true b) = 1 := by unfold cmpZ; rw [if_neg (by omega), if_pos hn.2]
    rw [e1] at h01
    exact division_neg s a b q r _ _ _ _ _ w hT ha h0 hb hD hM hA h00 h01 (by unfold cmpZ; split; simp; split; omega; simp) hf
end Go.Proofs.YtnbdccobfmlhbaaDoor
