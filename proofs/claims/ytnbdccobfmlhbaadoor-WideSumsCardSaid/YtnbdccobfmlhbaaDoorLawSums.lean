/-
  The walk of shipyardlaw02.WideSums: program and reference add and subtract alike.
-/
import Derived.Test.YtnbdccobfmlhbaaDoorPlain
import Derived.Test.YtnbdccobfmlhbaaDoorRefG
namespace Go.Proofs.YtnbdccobfmlhbaaDoor
set_option linter.all false
open Go Go.RowKit Wd
set_option maxRecDepth 100000
theorem sum_fit_lt (z : Int) : (fitZ z).natAbs < 2 ^ 256 := by
  unfold fitZ
  split
  · assumption
  · exact Nat.pow_pos (by omega)
set_option maxHeartbeats 1000000 in
theorem sums_walk (s : Bool) (a : Nat) (ha : a < 2 ^ 256) (t : Bool) (b : Nat) (hb : b < 2 ^ 256) (w : World) (hT : Tabs w) :
    Calls Tryd.prog 9 #[(.agg #[.bool (s), .int .u64 (wd (a) 0), .int .u64 (wd (a) 1), .int .u64 (wd (a) 2), .int .u64 (wd (a) 3)]), (.agg #[.bool (t), .int .u64 (wd (b) 0), .int .u64 (wd (b) 1), .int .u64 (wd (b) 2), .int .u64 (wd (b) 3)])] w fun e w' => e = .returned (.bool true) ∧ Below w.heap.size w w' := by
  have k1 := add_any s t a b ha hb
  have k2 := radd_any s t a b ha hb
  have k3 := sub_any s t a b ha hb
  have k4 := rsub_any s t a b ha hb
  have q0 := eq_zz (fitZ (val s a + val t b)) (sum_fit_lt _)
  have q1 := eq_zz (fitZ (val s a - val t b)) (sum_fit_lt _)
  generalize fitZ (val s a + val t b) = nx at k1 k2 q0
  generalize fitE (val s a + val t b) = e at k1 k2
  generalize fitZ (val s a - val t b) = u at k3 k4 q1
  generalize fitE (val s a - val t b) = g at k3 k4
  have K1 := Lib.hid k1
  have K2 := Lib.hid k2
  have K3 := Lib.hid k3
  have K4 := Lib.hid k4
  have K := Lib.hid awake_any
  have HT := Lib.hid hT
  clear hT ha hb k1 k2 k3 k4
  go_enter Tryd.func9, Tryd.ntmps9
  go_wp2_with fail
  ((with_reducible refine (K1.out _).mono ?_); rintro e w1 ⟨rfl, hb1⟩)
  obtain ⟨hc1, hf1⟩ := bcell hb1
  have hz1_w_0 : w.heap.size < w1.heap.size := by have h := hb1.size; (try simp at h); omega
  have hz1_w_1 : w.heap.size + 1 < w1.heap.size := by have h := hb1.size; (try simp at h); omega
  go_upto_region 2 with (fail)
  refine wp_world (fun x => (∀ o, x.cell? ⟨w.heap.size, o, none⟩ = (#[.bool (s), .int .u64 (wd (a) 0), .int .u64 (wd (a) 1), .int .u64 (wd (a) 2), .int .u64 (wd (a) 3)] : Array Value)[o]?) ∧ (∀ o, x.cell? ⟨w.heap.size + 1, o, none⟩ = (#[.bool (t), .int .u64 (wd (b) 0), .int .u64 (wd (b) 1), .int .u64 (wd (b) 2), .int .u64 (wd (b) 3)] : Array Value)[o]?) ∧ (∀ o, x.cell? ⟨w1.heap.size, o, none⟩ = (#[.bool (zs (nx)), .int .u64 (wd (Int.natAbs (nx)) 0), .int .u64 (wd (Int.natAbs (nx)) 1), .int .u64 (wd (Int.natAbs (nx)) 2), .int .u64 (wd (Int.natAbs (nx)) 3)] : Array Value)[o]?) ∧ (∀ o, x.frozen? ⟨w.heap.size, o, none⟩ = false) ∧ (∀ o, x.frozen? ⟨w.heap.size + 1, o, none⟩ = false) ∧ (∀ o, x.frozen? ⟨w1.heap.size, o, none⟩ = false) ∧ w.heap.size < x.heap.size ∧ w.heap.size + 1 < x.heap.size ∧ w1.heap.size < x.heap.size ∧ Below w.heap.size w x) ⟨fun o => by simp [go_sem, hc1, hf1, hz1_w_0, hz1_w_1], fun o => by simp [go_sem, hc1, hf1, hz1_w_0, hz1_w_1], fun o => by simp [go_sem, hc1, hf1, hz1_w_0, hz1_w_1], fun o => by simp [go_sem, hc1, hf1, hz1_w_0, hz1_w_1], fun o => by simp [go_sem, hc1, hf1, hz1_w_0, hz1_w_1], fun o => by simp [go_sem, hc1, hf1, hz1_w_0, hz1_w_1], by (first | omega | (simp [go_sem, hc1, hf1, hz1_w_0, hz1_w_1]; done) | (simp [go_sem, hc1, hf1, hz1_w_0, hz1_w_1]; omega)), by (first | omega | (simp [go_sem, hc1, hf1, hz1_w_0, hz1_w_1]; done) | (simp [go_sem, hc1, hf1, hz1_w_0, hz1_w_1]; omega)), by (first | omega | (simp [go_sem, hc1, hf1, hz1_w_0, hz1_w_1]; done) | (simp [go_sem, hc1, hf1, hz1_w_0, hz1_w_1]; omega)), by (repeat' (first | (with_reducible exact Below.refl _ _) | (with_reducible assumption) | (with_reducible refine below_alloc ?_ _) | (with_reducible refine Below.drew ?_) | (with_reducible refine Below.setCell ?_ ?_ _) | (with_reducible refine below_after ?_ (by assumption)) | go_size))⟩ ?_
  rintro A ⟨hAc0, hAc1, hAc2, hAf0, hAf1, hAf2, hAz0, hAz1, hAz2, hAb⟩
  clear hc1 hf1
  go_wp2_with fail
  ((with_reducible refine (K2.out _).mono ?_); rintro e w2 ⟨rfl, hb2⟩)
  have hk2 : Kp A.heap.size [] A w2 := (by (repeat (first | (with_reducible assumption) | (with_reducible exact Kp.refl (Nat.le_refl _)) | (with_reducible refine Kp.drew ?_) | (with_reducible refine Kp.alloc ?_ _) | ((with_reducible refine Kp.put ?_ ?_ _); focus (first | (left; go_size; done) | (right; simp; done))) | ((with_reducible apply Kp.later); (with_reducible assumption)))))
  have h2c0 := fun o => (hk2.cell _ o hAz0 (by simp)).trans (hAc0 o)
  have h2f0 := fun o => (hk2.froz _ o hAz0).trans (hAf0 o)
  have h2z0 := Nat.lt_of_lt_of_le hAz0 hk2.size
  have h2c1 := fun o => (hk2.cell _ o hAz1 (by simp)).trans (hAc1 o)
  have h2f1 := fun o => (hk2.froz _ o hAz1).trans (hAf1 o)
  have h2z1 := Nat.lt_of_lt_of_le hAz1 hk2.size
  have h2c2 := fun o => (hk2.cell _ o hAz2 (by simp)).trans (hAc2 o)
  have h2f2 := fun o => (hk2.froz _ o hAz2).trans (hAf2 o)
  have h2z2 := Nat.lt_of_lt_of_le hAz2 hk2.size
  go_upto_region 3 with (fail)
  refine wp_world (fun x => (∀ o, x.cell? ⟨w.heap.size, o, none⟩ = (#[.bool (s), .int .u64 (wd (a) 0), .int .u64 (wd (a) 1), .int .u64 (wd (a) 2), .int .u64 (wd (a) 3)] : Array Value)[o]?) ∧ (∀ o, x.cell? ⟨w.heap.size + 1, o, none⟩ = (#[.bool (t), .int .u64 (wd (b) 0), .int .u64 (wd (b) 1), .int .u64 (wd (b) 2), .int .u64 (wd (b) 3)] : Array Value)[o]?) ∧ (∀ o, x.cell? ⟨w1.heap.size, o, none⟩ = (#[.bool (zs (nx)), .int .u64 (wd (Int.natAbs (nx)) 0), .int .u64 (wd (Int.natAbs (nx)) 1), .int .u64 (wd (Int.natAbs (nx)) 2), .int .u64 (wd (Int.natAbs (nx)) 3)] : Array Value)[o]?) ∧ (∀ o, x.cell? ⟨w2.heap.size, o, none⟩ = (#[.bool (zs (nx)), .int .u64 (wd (Int.natAbs (nx)) 0), .int .u64 (wd (Int.natAbs (nx)) 1), .int .u64 (wd (Int.natAbs (nx)) 2), .int .u64 (wd (Int.natAbs (nx)) 3)] : Array Value)[o]?) ∧ (∀ o, x.frozen? ⟨w.heap.size, o, none⟩ = false) ∧ (∀ o, x.frozen? ⟨w.heap.size + 1, o, none⟩ = false) ∧ (∀ o, x.frozen? ⟨w1.heap.size, o, none⟩ = false) ∧ (∀ o, x.frozen? ⟨w2.heap.size, o, none⟩ = false) ∧ w.heap.size < x.heap.size ∧ w.heap.size + 1 < x.heap.size ∧ w1.heap.size < x.heap.size ∧ w2.heap.size < x.heap.size ∧ Below w.heap.size w x) ⟨fun o => by simp [go_sem, h2c0, h2f0, h2z0, h2c1, h2f1, h2z1, h2c2, h2f2, h2z2], fun o => by simp [go_sem, h2c0, h2f0, h2z0, h2c1, h2f1, h2z1, h2c2, h2f2, h2z2], fun o => by simp [go_sem, h2c0, h2f0, h2z0, h2c1, h2f1, h2z1, h2c2, h2f2, h2z2], fun o => by simp [go_sem, h2c0, h2f0, h2z0, h2c1, h2f1, h2z1, h2c2, h2f2, h2z2], fun o => by simp [go_sem, h2c0, h2f0, h2z0, h2c1, h2f1, h2z1, h2c2, h2f2, h2z2], fun o => by simp [go_sem, h2c0, h2f0, h2z0, h2c1, h2f1, h2z1, h2c2, h2f2, h2z2], fun o => by simp [go_sem, h2c0, h2f0, h2z0, h2c1, h2f1, h2z1, h2c2, h2f2, h2z2], fun o => by simp [go_sem, h2c0, h2f0, h2z0, h2c1, h2f1, h2z1, h2c2, h2f2, h2z2], by (first | omega | (simp [go_sem, h2c0, h2f0, h2z0, h2c1, h2f1, h2z1, h2c2, h2f2, h2z2]; done) | (simp [go_sem, h2c0, h2f0, h2z0, h2c1, h2f1, h2z1, h2c2, h2f2, h2z2]; omega)), by (first | omega | (simp [go_sem, h2c0, h2f0, h2z0, h2c1, h2f1, h2z1, h2c2, h2f2, h2z2]; done) | (simp [go_sem, h2c0, h2f0, h2z0, h2c1, h2f1, h2z1, h2c2, h2f2, h2z2]; omega)), by (first | omega | (simp [go_sem, h2c0, h2f0, h2z0, h2c1, h2f1, h2z1, h2c2, h2f2, h2z2]; done) | (simp [go_sem, h2c0, h2f0, h2z0, h2c1, h2f1, h2z1, h2c2, h2f2, h2z2]; omega)), by (first | omega | (simp [go_sem, h2c0, h2f0, h2z0, h2c1, h2f1, h2z1, h2c2, h2f2, h2z2]; done) | (simp [go_sem, h2c0, h2f0, h2z0, h2c1, h2f1, h2z1, h2c2, h2f2, h2z2]; omega)), by (repeat' (first | (with_reducible exact Below.refl _ _) | (with_reducible assumption) | (with_reducible refine below_alloc ?_ _) | (with_reducible refine Below.drew ?_) | (with_reducible refine Below.setCell ?_ ?_ _) | (with_reducible refine below_after ?_ (by assumption)) | go_size))⟩ ?_
  rintro B ⟨hBc0, hBc1, hBc2, hBc3, hBf0, hBf1, hBf2, hBf3, hBz0, hBz1, hBz2, hBz3, hBb⟩
  go_wp2_with fail
  ((with_reducible refine (K3.out _).mono ?_); rintro e w3 ⟨rfl, hb3⟩)
  have hk3 : Kp B.heap.size [] B w3 := (by (repeat (first | (with_reducible assumption) | (with_reducible exact Kp.refl (Nat.le_refl _)) | (with_reducible refine Kp.drew ?_) | (with_reducible refine Kp.alloc ?_ _) | ((with_reducible refine Kp.put ?_ ?_ _); focus (first | (left; go_size; done) | (right; simp; done))) | ((with_reducible apply Kp.later); (with_reducible assumption)))))
  have h3c0 := fun o => (hk3.cell _ o hBz0 (by simp)).trans (hBc0 o)
  have h3f0 := fun o => (hk3.froz _ o hBz0).trans (hBf0 o)
  have h3z0 := Nat.lt_of_lt_of_le hBz0 hk3.size
  have h3c1 := fun o => (hk3.cell _ o hBz1 (by simp)).trans (hBc1 o)
  have h3f1 := fun o => (hk3.froz _ o hBz1).trans (hBf1 o)
  have h3z1 := Nat.lt_of_lt_of_le hBz1 hk3.size
  have h3c2 := fun o => (hk3.cell _ o hBz2 (by simp)).trans (hBc2 o)
  have h3f2 := fun o => (hk3.froz _ o hBz2).trans (hBf2 o)
  have h3z2 := Nat.lt_of_lt_of_le hBz2 hk3.size
  have h3c3 := fun o => (hk3.cell _ o hBz3 (by simp)).trans (hBc3 o)
  have h3f3 := fun o => (hk3.froz _ o hBz3).trans (hBf3 o)
  have h3z3 := Nat.lt_of_lt_of_le hBz3 hk3.size
  go_upto_region 4 with (fail)
  refine wp_world (fun x => (∀ o, x.cell? ⟨w.heap.size, o, none⟩ = (#[.bool (s), .int .u64 (wd (a) 0), .int .u64 (wd (a) 1), .int .u64 (wd (a) 2), .int .u64 (wd (a) 3)] : Array Value)[o]?) ∧ (∀ o, x.cell? ⟨w.heap.size + 1, o, none⟩ = (#[.bool (t), .int .u64 (wd (b) 0), .int .u64 (wd (b) 1), .int .u64 (wd (b) 2), .int .u64 (wd (b) 3)] : Array Value)[o]?) ∧ (∀ o, x.cell? ⟨w1.heap.size, o, none⟩ = (#[.bool (zs (nx)), .int .u64 (wd (Int.natAbs (nx)) 0), .int .u64 (wd (Int.natAbs (nx)) 1), .int .u64 (wd (Int.natAbs (nx)) 2), .int .u64 (wd (Int.natAbs (nx)) 3)] : Array Value)[o]?) ∧ (∀ o, x.cell? ⟨w2.heap.size, o, none⟩ = (#[.bool (zs (nx)), .int .u64 (wd (Int.natAbs (nx)) 0), .int .u64 (wd (Int.natAbs (nx)) 1), .int .u64 (wd (Int.natAbs (nx)) 2), .int .u64 (wd (Int.natAbs (nx)) 3)] : Array Value)[o]?) ∧ (∀ o, x.cell? ⟨w3.heap.size, o, none⟩ = (#[.bool (zs (u)), .int .u64 (wd (Int.natAbs (u)) 0), .int .u64 (wd (Int.natAbs (u)) 1), .int .u64 (wd (Int.natAbs (u)) 2), .int .u64 (wd (Int.natAbs (u)) 3)] : Array Value)[o]?) ∧ (∀ o, x.frozen? ⟨w.heap.size, o, none⟩ = false) ∧ (∀ o, x.frozen? ⟨w.heap.size + 1, o, none⟩ = false) ∧ (∀ o, x.frozen? ⟨w1.heap.size, o, none⟩ = false) ∧ (∀ o, x.frozen? ⟨w2.heap.size, o, none⟩ = false) ∧ (∀ o, x.frozen? ⟨w3.heap.size, o, none⟩ = false) ∧ w.heap.size < x.heap.size ∧ w.heap.size + 1 < x.heap.size ∧ w1.heap.size < x.heap.size ∧ w2.heap.size < x.heap.size ∧ w3.heap.size < x.heap.size ∧ Below w.heap.size w x) ⟨fun o => by simp [go_sem, h3c0, h3f0, h3z0, h3c1, h3f1, h3z1, h3c2, h3f2, h3z2, h3c3, h3f3, h3z3], fun o => by simp [go_sem, h3c0, h3f0, h3z0, h3c1, h3f1, h3z1, h3c2, h3f2, h3z2, h3c3, h3f3, h3z3], fun o => by simp [go_sem, h3c0, h3f0, h3z0, h3c1, h3f1, h3z1, h3c2, h3f2, h3z2, h3c3, h3f3, h3z3], fun o => by simp [go_sem, h3c0, h3f0, h3z0, h3c1, h3f1, h3z1, h3c2, h3f2, h3z2, h3c3, h3f3, h3z3], fun o => by simp [go_sem, h3c0, h3f0, h3z0, h3c1, h3f1, h3z1, h3c2, h3f2, h3z2, h3c3, h3f3, h3z3], fun o => by simp [go_sem, h3c0, h3f0, h3z0, h3c1, h3f1, h3z1, h3c2, h3f2, h3z2, h3c3, h3f3, h3z3], fun o => by simp [go_sem, h3c0, h3f0, h3z0, h3c1, h3f1, h3z1, h3c2, h3f2, h3z2, h3c3, h3f3, h3z3], fun o => by simp [go_sem, h3c0, h3f0, h3z0, h3c1, h3f1, h3z1, h3c2, h3f2, h3z2, h3c3, h3f3, h3z3], fun o => by simp [go_sem, h3c0, h3f0, h3z0, h3c1, h3f1, h3z1, h3c2, h3f2, h3z2, h3c3, h3f3, h3z3], fun o => by simp [go_sem, h3c0, h3f0, h3z0, h3c1, h3f1, h3z1, h3c2, h3f2, h3z2, h3c3, h3f3, h3z3], by (first | omega | (simp [go_sem, h3c0, h3f0, h3z0, h3c1, h3f1, h3z1, h3c2, h3f2, h3z2, h3c3, h3f3, h3z3]; done) | (simp [go_sem, h3c0, h3f0, h3z0, h3c1, h3f1, h3z1, h3c2, h3f2, h3z2, h3c3, h3f3, h3z3]; omega)), by (first | omega | (simp [go_sem, h3c0, h3f0, h3z0, h3c1, h3f1, h3z1, h3c2, h3f2, h3z2, h3c3, h3f3, h3z3]; done) | (simp [go_sem, h3c0, h3f0, h3z0, h3c1, h3f1, h3z1, h3c2, h3f2, h3z2, h3c3, h3f3, h3z3]; omega)), by (first | omega | (simp [go_sem, h3c0, h3f0, h3z0, h3c1, h3f1, h3z1, h3c2, h3f2, h3z2, h3c3, h3f3, h3z3]; done) | (simp [go_sem, h3c0, h3f0, h3z0, h3c1, h3f1, h3z1, h3c2, h3f2, h3z2, h3c3, h3f3, h3z3]; omega)), by (first | omega | (simp [go_sem, h3c0, h3f0, h3z0, h3c1, h3f1, h3z1, h3c2, h3f2, h3z2, h3c3, h3f3, h3z3]; done) | (simp [go_sem, h3c0, h3f0, h3z0, h3c1, h3f1, h3z1, h3c2, h3f2, h3z2, h3c3, h3f3, h3z3]; omega)), by (first | omega | (simp [go_sem, h3c0, h3f0, h3z0, h3c1, h3f1, h3z1, h3c2, h3f2, h3z2, h3c3, h3f3, h3z3]; done) | (simp [go_sem, h3c0, h3f0, h3z0, h3c1, h3f1, h3z1, h3c2, h3f2, h3z2, h3c3, h3f3, h3z3]; omega)), by (repeat' (first | (with_reducible exact Below.refl _ _) | (with_reducible assumption) | (with_reducible refine below_alloc ?_ _) | (with_reducible refine Below.drew ?_) | (with_reducible refine Below.setCell ?_ ?_ _) | (with_reducible refine below_after ?_ (by assumption)) | go_size))⟩ ?_
  rintro C ⟨hCc0, hCc1, hCc2, hCc3, hCc4, hCf0, hCf1, hCf2, hCf3, hCf4, hCz0, hCz1, hCz2, hCz3, hCz4, hCb⟩
  go_wp2_with fail
  ((with_reducible refine (K4.out _).mono ?_); rintro e w4 ⟨rfl, hb4⟩)
  have hk4 : Kp C.heap.size [] C w4 := (by (repeat (first | (with_reducible assumption) | (with_reducible exact Kp.refl (Nat.le_refl _)) | (with_reducible refine Kp.drew ?_) | (with_reducible refine Kp.alloc ?_ _) | ((with_reducible refine Kp.put ?_ ?_ _); focus (first | (left; go_size; done) | (right; simp; done))) | ((with_reducible apply Kp.later); (with_reducible assumption)))))
  have h4c0 := fun o => (hk4.cell _ o hCz0 (by simp)).trans (hCc0 o)
  have h4f0 := fun o => (hk4.froz _ o hCz0).trans (hCf0 o)
  have h4z0 := Nat.lt_of_lt_of_le hCz0 hk4.size
  have h4c1 := fun o => (hk4.cell _ o hCz1 (by simp)).trans (hCc1 o)
  have h4f1 := fun o => (hk4.froz _ o hCz1).trans (hCf1 o)
  have h4z1 := Nat.lt_of_lt_of_le hCz1 hk4.size
  have h4c2 := fun o => (hk4.cell _ o hCz2 (by simp)).trans (hCc2 o)
  have h4f2 := fun o => (hk4.froz _ o hCz2).trans (hCf2 o)
  have h4z2 := Nat.lt_of_lt_of_le hCz2 hk4.size
  have h4c3 := fun o => (hk4.cell _ o hCz3 (by simp)).trans (hCc3 o)
  have h4f3 := fun o => (hk4.froz _ o hCz3).trans (hCf3 o)
  have h4z3 := Nat.lt_of_lt_of_le hCz3 hk4.size
  have h4c4 := fun o => (hk4.cell _ o hCz4 (by simp)).trans (hCc4 o)
  have h4f4 := fun o => (hk4.froz _ o hCz4).trans (hCf4 o)
  have h4z4 := Nat.lt_of_lt_of_le hCz4 hk4.size
  go_upto_region 5 with (fail)
  refine wp_world (fun x => (∀ o, x.cell? ⟨w1.heap.size, o, none⟩ = (#[.bool (zs (nx)), .int .u64 (wd (Int.natAbs (nx)) 0), .int .u64 (wd (Int.natAbs (nx)) 1), .int .u64 (wd (Int.natAbs (nx)) 2), .int .u64 (wd (Int.natAbs (nx)) 3)] : Array Value)[o]?) ∧ (∀ o, x.cell? ⟨w2.heap.size, o, none⟩ = (#[.bool (zs (nx)), .int .u64 (wd (Int.natAbs (nx)) 0), .int .u64 (wd (Int.natAbs (nx)) 1), .int .u64 (wd (Int.natAbs (nx)) 2), .int .u64 (wd (Int.natAbs (nx)) 3)] : Array Value)[o]?) ∧ (∀ o, x.cell? ⟨w3.heap.size, o, none⟩ = (#[.bool (zs (u)), .int .u64 (wd (Int.natAbs (u)) 0), .int .u64 (wd (Int.natAbs (u)) 1), .int .u64 (wd (Int.natAbs (u)) 2), .int .u64 (wd (Int.natAbs (u)) 3)] : Array Value)[o]?) ∧ (∀ o, x.cell? ⟨w4.heap.size, o, none⟩ = (#[.bool (zs (u)), .int .u64 (wd (Int.natAbs (u)) 0), .int .u64 (wd (Int.natAbs (u)) 1), .int .u64 (wd (Int.natAbs (u)) 2), .int .u64 (wd (Int.natAbs (u)) 3)] : Array Value)[o]?) ∧ (∀ o, x.frozen? ⟨w1.heap.size, o, none⟩ = false) ∧ (∀ o, x.frozen? ⟨w2.heap.size, o, none⟩ = false) ∧ (∀ o, x.frozen? ⟨w3.heap.size, o, none⟩ = false) ∧ (∀ o, x.frozen? ⟨w4.heap.size, o, none⟩ = false) ∧ w1.heap.size < x.heap.size ∧ w2.heap.size < x.heap.size ∧ w3.heap.size < x.heap.size ∧ w4.heap.size < x.heap.size ∧ Below w.heap.size w x) ⟨fun o => by simp [go_sem, h4c0, h4f0, h4z0, h4c1, h4f1, h4z1, h4c2, h4f2, h4z2, h4c3, h4f3, h4z3, h4c4, h4f4, h4z4], fun o => by simp [go_sem, h4c0, h4f0, h4z0, h4c1, h4f1, h4z1, h4c2, h4f2, h4z2, h4c3, h4f3, h4z3, h4c4, h4f4, h4z4], fun o => by simp [go_sem, h4c0, h4f0, h4z0, h4c1, h4f1, h4z1, h4c2, h4f2, h4z2, h4c3, h4f3, h4z3, h4c4, h4f4, h4z4], fun o => by simp [go_sem, h4c0, h4f0, h4z0, h4c1, h4f1, h4z1, h4c2, h4f2, h4z2, h4c3, h4f3, h4z3, h4c4, h4f4, h4z4], fun o => by simp [go_sem, h4c0, h4f0, h4z0, h4c1, h4f1, h4z1, h4c2, h4f2, h4z2, h4c3, h4f3, h4z3, h4c4, h4f4, h4z4], fun o => by simp [go_sem, h4c0, h4f0, h4z0, h4c1, h4f1, h4z1, h4c2, h4f2, h4z2, h4c3, h4f3, h4z3, h4c4, h4f4, h4z4], fun o => by simp [go_sem, h4c0, h4f0, h4z0, h4c1, h4f1, h4z1, h4c2, h4f2, h4z2, h4c3, h4f3, h4z3, h4c4, h4f4, h4z4], fun o => by simp [go_sem, h4c0, h4f0, h4z0, h4c1, h4f1, h4z1, h4c2, h4f2, h4z2, h4c3, h4f3, h4z3, h4c4, h4f4, h4z4], by (first | omega | (simp [go_sem, h4c0, h4f0, h4z0, h4c1, h4f1, h4z1, h4c2, h4f2, h4z2, h4c3, h4f3, h4z3, h4c4, h4f4, h4z4]; done) | (simp [go_sem, h4c0, h4f0, h4z0, h4c1, h4f1, h4z1, h4c2, h4f2, h4z2, h4c3, h4f3, h4z3, h4c4, h4f4, h4z4]; omega)), by (first | omega | (simp [go_sem, h4c0, h4f0, h4z0, h4c1, h4f1, h4z1, h4c2, h4f2, h4z2, h4c3, h4f3, h4z3, h4c4, h4f4, h4z4]; done) | (simp [go_sem, h4c0, h4f0, h4z0, h4c1, h4f1, h4z1, h4c2, h4f2, h4z2, h4c3, h4f3, h4z3, h4c4, h4f4, h4z4]; omega)), by (first | omega | (simp [go_sem, h4c0, h4f0, h4z0, h4c1, h4f1, h4z1, h4c2, h4f2, h4z2, h4c3, h4f3, h4z3, h4c4, h4f4, h4z4]; done) | (simp [go_sem, h4c0, h4f0, h4z0, h4c1, h4f1, h4z1, h4c2, h4f2, h4z2, h4c3, h4f3, h4z3, h4c4, h4f4, h4z4]; omega)), by (first | omega | (simp [go_sem, h4c0, h4f0, h4z0, h4c1, h4f1, h4z1, h4c2, h4f2, h4z2, h4c3, h4f3, h4z3, h4c4, h4f4, h4z4]; done) | (simp [go_sem, h4c0, h4f0, h4z0, h4c1, h4f1, h4z1, h4c2, h4f2, h4z2, h4c3, h4f3, h4z3, h4c4, h4f4, h4z4]; omega)), by (repeat' (first | (with_reducible exact Below.refl _ _) | (with_reducible assumption) | (with_reducible refine below_alloc ?_ _) | (with_reducible refine Below.drew ?_) | (with_reducible refine Below.setCell ?_ ?_ _) | (with_reducible refine below_after ?_ (by assumption)) | go_size))⟩ ?_
  rintro D ⟨hDc0, hDc1, hDc2, hDc3, hDf0, hDf1, hDf2, hDf3, hDz0, hDz1, hDz2, hDz3, hDb⟩
  go_wp2_with fail
  ((with_reducible refine (K.out _ (HT.out.later (by (repeat' (first | (with_reducible exact Below.refl _ _) | (with_reducible assumption) | (with_reducible refine below_alloc ?_ _) | (with_reducible refine Below.drew ?_) | (with_reducible refine Below.setCell ?_ ?_ _) | (with_reducible refine below_after ?_ (by assumption)) | go_size))))).mono ?_); rintro e w5 ⟨rfl, hb5⟩)
  have hk5 : Kp D.heap.size [] D w5 := (by (repeat (first | (with_reducible assumption) | (with_reducible exact Kp.refl (Nat.le_refl _)) | (with_reducible refine Kp.drew ?_) | (with_reducible refine Kp.alloc ?_ _) | ((with_reducible refine Kp.put ?_ ?_ _); focus (first | (left; go_size; done) | (right; simp; done))) | ((with_reducible apply Kp.later); (with_reducible assumption)))))
  go_wp2
  go_ret
  exact ⟨rfl, by (repeat' (first | (with_reducible exact Below.refl _ _) | (with_reducible assumption) | (with_reducible refine below_alloc ?_ _) | (with_reducible refine Below.drew ?_) | (with_reducible refine Below.setCell ?_ ?_ _) | (with_reducible refine below_after ?_ (by assumption)) | go_size))⟩
end Go.Proofs.YtnbdccobfmlhbaaDoor
