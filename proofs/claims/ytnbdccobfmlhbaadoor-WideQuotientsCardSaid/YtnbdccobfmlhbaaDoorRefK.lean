/-
  What the reference's Gcd returns, for all inputs.
-/
import Derived.Test.YtnbdccobfmlhbaaDoorRefG
import Derived.Test.YtnbdccobfmlhbaaDoorGcdR
namespace Go.Proofs.YtnbdccobfmlhbaaDoor
set_option linter.all false
open Go Go.RowKit Wd
set_option maxRecDepth 100000
/-- The call's own memory: the result's block, x and y. -/
def GMem (w : World) (B1 B2 x y : Nat) (wr : World) : Prop :=
  (∀ o, wr.cell? ⟨w.heap.size + 1 + 1, o, none⟩ = (#[.bool false, .int .u64 0, .int .u64 0, .int .u64 0, .int .u64 0] : Array Value)[o]?) ∧ (∀ o, wr.cell? ⟨B1, o, none⟩ = (#[.int .u64 (hw (x) 0), .int .u64 (hw (x) 1), .int .u64 (hw (x) 2), .int .u64 (hw (x) 3), .int .u64 (hw (x) 4), .int .u64 (hw (x) 5), .int .u64 (hw (x) 6), .int .u64 (hw (x) 7)] : Array Value)[o]?) ∧ (∀ o, wr.cell? ⟨B2, o, none⟩ = (#[.int .u64 (hw (y) 0), .int .u64 (hw (y) 1), .int .u64 (hw (y) 2), .int .u64 (hw (y) 3), .int .u64 (hw (y) 4), .int .u64 (hw (y) 5), .int .u64 (hw (y) 6), .int .u64 (hw (y) 7)] : Array Value)[o]?)
  ∧ (∀ o, wr.frozen? ⟨w.heap.size + 1 + 1, o, none⟩ = false) ∧ (∀ o, wr.frozen? ⟨B1, o, none⟩ = false) ∧ (∀ o, wr.frozen? ⟨B2, o, none⟩ = false)
  ∧ w.heap.size + 1 + 1 < wr.heap.size ∧ B1 < wr.heap.size ∧ B2 < wr.heap.size ∧ w.heap.size + 1 + 1 < B1 ∧ w.heap.size + 1 + 1 < B2 ∧ B1 ≠ B2 ∧ Below w.heap.size w wr
theorem GMem.later {w wr wx : World} {B1 B2 x y : Nat} (h : GMem w B1 B2 x y wr) (hb : Below wr.heap.size wr wx) : GMem w B1 B2 x y wx := by
  obtain ⟨c0, c1, c2, f0, f1, f2, z0, z1, z2, k1, k2, k3, hB⟩ := h
  exact ⟨keep_cell hb z0 c0, keep_cell hb z1 c1, keep_cell hb z2 c2, keep_frozen hb z0 f0, keep_frozen hb z1 f1, keep_frozen hb z2 f2, Nat.lt_of_lt_of_le z0 hb.size, Nat.lt_of_lt_of_le z1 hb.size, Nat.lt_of_lt_of_le z2 hb.size, k1, k2, k3, below_after hB hb⟩
theorem GMem.setX {w wr : World} {B1 B2 x x' y : Nat} (h : GMem w B1 B2 x y wr) : GMem w B1 B2 x' y ((((((((wr.setCell ⟨B1, 0, none⟩ (.int .u64 (hw x' 0))).setCell ⟨B1, 1, none⟩ (.int .u64 (hw x' 1))).setCell ⟨B1, 2, none⟩ (.int .u64 (hw x' 2))).setCell ⟨B1, 3, none⟩ (.int .u64 (hw x' 3))).setCell ⟨B1, 4, none⟩ (.int .u64 (hw x' 4))).setCell ⟨B1, 5, none⟩ (.int .u64 (hw x' 5))).setCell ⟨B1, 6, none⟩ (.int .u64 (hw x' 6))).setCell ⟨B1, 7, none⟩ (.int .u64 (hw x' 7))) := by
  obtain ⟨c0, c1, c2, f0, f1, f2, z0, z1, z2, k1, k2, k3, hB⟩ := h
  refine ⟨set8_far (by omega) c0, set8_at c1, set8_far k3 c2, set8_froz f0, set8_froz f1, set8_froz f2, ?_, ?_, ?_, k1, k2, k3, set8_below (by omega) hB⟩
  · simpa using z0
  · simpa using z1
  · simpa using z2
theorem GMem.setY {w wr : World} {B1 B2 x y y' : Nat} (h : GMem w B1 B2 x y wr) : GMem w B1 B2 x y' ((((((((wr.setCell ⟨B2, 0, none⟩ (.int .u64 (hw y' 0))).setCell ⟨B2, 1, none⟩ (.int .u64 (hw y' 1))).setCell ⟨B2, 2, none⟩ (.int .u64 (hw y' 2))).setCell ⟨B2, 3, none⟩ (.int .u64 (hw y' 3))).setCell ⟨B2, 4, none⟩ (.int .u64 (hw y' 4))).setCell ⟨B2, 5, none⟩ (.int .u64 (hw y' 5))).setCell ⟨B2, 6, none⟩ (.int .u64 (hw y' 6))).setCell ⟨B2, 7, none⟩ (.int .u64 (hw y' 7))) := by
  obtain ⟨c0, c1, c2, f0, f1, f2, z0, z1, z2, k1, k2, k3, hB⟩ := h
  refine ⟨set8_far (by omega) c0, set8_far (Ne.symm k3) c1, set8_at c2, set8_froz f0, set8_froz f1, set8_froz f2, ?_, ?_, ?_, k1, k2, k3, set8_below (by omega) hB⟩
  · simpa using z0
  · simpa using z1
  · simpa using z2
theorem small2 (a : Nat) (ha : a < 2 ^ 256) (w : World) : Calls Tryd.prog 56 #[(.agg #[.int .u64 (hw (a) 0), .int .u64 (hw (a) 1), .int .u64 (hw (a) 2), .int .u64 (hw (a) 3), .int .u64 (hw (a) 4), .int .u64 (hw (a) 5), .int .u64 (hw (a) 6), .int .u64 (hw (a) 7)]), .int .u64 2] w fun e w' => e = .returned (.tuple #[(.agg #[.int .u64 (hw (a / 2) 0), .int .u64 (hw (a / 2) 1), .int .u64 (hw (a / 2) 2), .int .u64 (hw (a / 2) 3), .int .u64 (hw (a / 2) 4), .int .u64 (hw (a / 2) 5), .int .u64 (hw (a / 2) 6), .int .u64 (hw (a / 2) 7)]), .int .u64 ((a % 2 : Nat) : Int)]) ∧ Below w.heap.size w w' :=
  small_any a 2 ha (by omega) (by omega) w
theorem even_yes {a : Nat} (h : a % 2 = 0) (w : World) : Calls Tryd.prog 55 #[(.agg #[.int .u64 (hw (a) 0), .int .u64 (hw (a) 1), .int .u64 (hw (a) 2), .int .u64 (hw (a) 3), .int .u64 (hw (a) 4), .int .u64 (hw (a) 5), .int .u64 (hw (a) 6), .int .u64 (hw (a) 7)])] w fun e w' => e = .returned (.bool true) ∧ Below w.heap.size w w' := by
  have k := even_any a w
  rw [show eqN (a % 2) 0 = true by unfold eqN; simpa using h] at k
  exact k
theorem even_no {a : Nat} (h : ¬ a % 2 = 0) (w : World) : Calls Tryd.prog 55 #[(.agg #[.int .u64 (hw (a) 0), .int .u64 (hw (a) 1), .int .u64 (hw (a) 2), .int .u64 (hw (a) 3), .int .u64 (hw (a) 4), .int .u64 (hw (a) 5), .int .u64 (hw (a) 6), .int .u64 (hw (a) 7)])] w fun e w' => e = .returned (.bool false) ∧ Below w.heap.size w w' := by
  have k := even_any a w
  rw [show eqN (a % 2) 0 = false by unfold eqN; simpa using h] at k
  exact k
theorem zero_yes (w : World) : Calls Tryd.prog 48 #[(.agg #[.int .u64 (hw (0) 0), .int .u64 (hw (0) 1), .int .u64 (hw (0) 2), .int .u64 (hw (0) 3), .int .u64 (hw (0) 4), .int .u64 (hw (0) 5), .int .u64 (hw (0) 6), .int .u64 (hw (0) 7)])] w fun e w' => e = .returned (.bool true) ∧ Below w.heap.size w w' := by
  have k := zero_any 0 (Nat.pow_pos (by omega)) w
  rw [show eqN 0 0 = true by unfold eqN; rfl] at k
  exact k
theorem zero_no {a : Nat} (ha : a < 2 ^ 256) (h : a ≠ 0) (w : World) : Calls Tryd.prog 48 #[(.agg #[.int .u64 (hw (a) 0), .int .u64 (hw (a) 1), .int .u64 (hw (a) 2), .int .u64 (hw (a) 3), .int .u64 (hw (a) 4), .int .u64 (hw (a) 5), .int .u64 (hw (a) 6), .int .u64 (hw (a) 7)])] w fun e w' => e = .returned (.bool false) ∧ Below w.heap.size w w' := by
  have k := zero_any a ha w
  rw [show eqN a 0 = false by unfold eqN; simpa using h] at k
  exact k
set_option maxHeartbeats 16000000 in
theorem rgcd_any (s t : Bool) (a b : Nat) (ha : a < 2 ^ 256) (hb : b < 2 ^ 256) (w : World) :
    Calls Tryd.prog 19 #[(.agg #[.bool (s), .int .u64 (wd (a) 0), .int .u64 (wd (a) 1), .int .u64 (wd (a) 2), .int .u64 (wd (a) 3)]), (.agg #[.bool (t), .int .u64 (wd (b) 0), .int .u64 (wd (b) 1), .int .u64 (wd (b) 2), .int .u64 (wd (b) 3)])] w fun e w' => e = .returned (.agg #[.bool (zs (val false (Nat.gcd a b))), .int .u64 (wd (Int.natAbs (val false (Nat.gcd a b))) 0), .int .u64 (wd (Int.natAbs (val false (Nat.gcd a b))) 1), .int .u64 (wd (Int.natAbs (val false (Nat.gcd a b))) 2), .int .u64 (wd (Int.natAbs (val false (Nat.gcd a b))) 3)]) ∧ Below w.heap.size w w' := by
  have S1 := Lib.hid (split_any s a)
  have S2 := Lib.hid (split_any t b)
  have HA := Lib.hid ha
  have HB := Lib.hid hb
  clear ha hb
  go_enter Tryd.func19, Tryd.ntmps19
  go_wp2_with fail
  refine wp_world (fun x => (∀ o, x.cell? ⟨w.heap.size, o, none⟩ = (#[.bool (s), .int .u64 (wd (a) 0), .int .u64 (wd (a) 1), .int .u64 (wd (a) 2), .int .u64 (wd (a) 3)] : Array Value)[o]?) ∧ (∀ o, x.cell? ⟨w.heap.size + 1, o, none⟩ = (#[.bool (t), .int .u64 (wd (b) 0), .int .u64 (wd (b) 1), .int .u64 (wd (b) 2), .int .u64 (wd (b) 3)] : Array Value)[o]?) ∧ (∀ o, x.cell? ⟨w.heap.size + 1 + 1, o, none⟩ = (#[.bool false, .int .u64 0, .int .u64 0, .int .u64 0, .int .u64 0] : Array Value)[o]?) ∧ (∀ o, x.frozen? ⟨w.heap.size, o, none⟩ = false) ∧ (∀ o, x.frozen? ⟨w.heap.size + 1, o, none⟩ = false) ∧ (∀ o, x.frozen? ⟨w.heap.size + 1 + 1, o, none⟩ = false) ∧ w.heap.size < x.heap.size ∧ w.heap.size + 1 < x.heap.size ∧ w.heap.size + 1 + 1 < x.heap.size ∧ Below w.heap.size w x) ⟨fun o => by simp [go_sem], fun o => by simp [go_sem], fun o => by simp [go_sem], fun o => by simp [go_sem], fun o => by simp [go_sem], fun o => by simp [go_sem], by (first | omega | (simp [go_sem]; done) | (simp [go_sem]; omega)), by (first | omega | (simp [go_sem]; done) | (simp [go_sem]; omega)), by (first | omega | (simp [go_sem]; done) | (simp [go_sem]; omega)), by (repeat' (first | (with_reducible exact Below.refl _ _) | (with_reducible assumption) | (with_reducible refine below_alloc ?_ _) | (with_reducible refine Below.drew ?_) | (with_reducible refine Below.setCell ?_ ?_ _) | (with_reducible refine below_after ?_ (by assumption)) | go_size))⟩ ?_
  rintro A ⟨hAc0, hAc1, hAc2, hAf0, hAf1, hAf2, hAz0, hAz1, hAz2, hAb⟩
  go_cut [5, 6] (fun v6 v7 wx => ∃ B1 B2 : Nat, v6 = .pointer (some ⟨B1, 0, none⟩) ∧ v7 = .pointer (some ⟨B2, 0, none⟩) ∧ B1 ≠ B2 ∧ New A.heap.size B1 #[.int .u64 (hw (a) 0), .int .u64 (hw (a) 1), .int .u64 (hw (a) 2), .int .u64 (hw (a) 3), .int .u64 (hw (a) 4), .int .u64 (hw (a) 5), .int .u64 (hw (a) 6), .int .u64 (hw (a) 7)] wx ∧ New A.heap.size B2 #[.int .u64 (hw (b) 0), .int .u64 (hw (b) 1), .int .u64 (hw (b) 2), .int .u64 (hw (b) 3), .int .u64 (hw (b) 4), .int .u64 (hw (b) 5), .int .u64 (hw (b) 6), .int .u64 (hw (b) 7)] wx ∧ Below A.heap.size A wx)
  case first =>
    refine wp_world (fun x => (∀ o, x.cell? ⟨w.heap.size, o, none⟩ = (#[.bool (s), .int .u64 (wd (a) 0), .int .u64 (wd (a) 1), .int .u64 (wd (a) 2), .int .u64 (wd (a) 3)] : Array Value)[o]?) ∧ (∀ o, x.cell? ⟨w.heap.size + 1, o, none⟩ = (#[.bool (t), .int .u64 (wd (b) 0), .int .u64 (wd (b) 1), .int .u64 (wd (b) 2), .int .u64 (wd (b) 3)] : Array Value)[o]?) ∧ w.heap.size < x.heap.size ∧ w.heap.size + 1 < x.heap.size ∧ Below A.heap.size A x) ⟨fun o => by first | (simp [go_sem, hAc0, hAc1, hAz0, hAz1]; done) | (rcases o with _ | _ | _ | _ | _ | o <;> simp [go_sem, hAc0, hAc1, hAz0, hAz1]), fun o => by first | (simp [go_sem, hAc0, hAc1, hAz0, hAz1]; done) | (rcases o with _ | _ | _ | _ | _ | o <;> simp [go_sem, hAc0, hAc1, hAz0, hAz1]), by (first | omega | (simp [go_sem, hAc0, hAc1, hAz0, hAz1]; done) | (simp [go_sem, hAc0, hAc1, hAz0, hAz1]; omega)), by (first | omega | (simp [go_sem, hAc0, hAc1, hAz0, hAz1]; done) | (simp [go_sem, hAc0, hAc1, hAz0, hAz1]; omega)), by (repeat' (first | (with_reducible exact Below.refl _ _) | (with_reducible assumption) | (with_reducible refine below_alloc ?_ _) | (with_reducible refine Below.drew ?_) | (with_reducible refine Below.setCell ?_ ?_ _) | (with_reducible refine below_after ?_ (by assumption)) | go_size))⟩ ?_
    rintro E ⟨hEc0, hEc1, hEz0, hEz1, hEb⟩
    have hEK := Lib.hid (show ∀ x : World, Kp E.heap.size [] E x → ((∀ o, x.cell? ⟨w.heap.size, o, none⟩ = (#[.bool (s), .int .u64 (wd (a) 0), .int .u64 (wd (a) 1), .int .u64 (wd (a) 2), .int .u64 (wd (a) 3)] : Array Value)[o]?) ∧ (∀ o, x.cell? ⟨w.heap.size + 1, o, none⟩ = (#[.bool (t), .int .u64 (wd (b) 0), .int .u64 (wd (b) 1), .int .u64 (wd (b) 2), .int .u64 (wd (b) 3)] : Array Value)[o]?) ∧ w.heap.size < x.heap.size ∧ w.heap.size + 1 < x.heap.size ∧ E.heap.size ≤ x.heap.size) from fun x k => ⟨fun o => (k.cell _ o hEz0 (by first | (simp; done) | (simp; omega))).trans (hEc0 o), fun o => (k.cell _ o hEz1 (by first | (simp; done) | (simp; omega))).trans (hEc1 o), Nat.lt_of_lt_of_le hEz0 k.size, Nat.lt_of_lt_of_le hEz1 k.size, k.size⟩)
    go_region_held3 (fun x => (∀ o, x.cell? ⟨w.heap.size, o, none⟩ = (#[.bool (s), .int .u64 (wd (a) 0), .int .u64 (wd (a) 1), .int .u64 (wd (a) 2), .int .u64 (wd (a) 3)] : Array Value)[o]?) ∧ (∀ o, x.cell? ⟨w.heap.size + 1, o, none⟩ = (#[.bool (t), .int .u64 (wd (b) 0), .int .u64 (wd (b) 1), .int .u64 (wd (b) 2), .int .u64 (wd (b) 3)] : Array Value)[o]?) ∧ w.heap.size < x.heap.size ∧ w.heap.size + 1 < x.heap.size ∧ E.heap.size ≤ x.heap.size) ((refine hEK.out _ ?_; (repeat (first | (with_reducible assumption) | (with_reducible exact Kp.refl (Nat.le_refl _)) | (with_reducible refine Kp.drew ?_) | (with_reducible refine Kp.alloc ?_ _) | ((with_reducible refine Kp.put ?_ ?_ _); focus (first | (left; go_size; done) | (right; simp; done))) | ((with_reducible apply Kp.later); (with_reducible assumption)))))) ((first | (go_at_call 43; (with_reducible refine (S1.out _).mono ?_); rintro e E_1 ⟨rfl, hbE_1⟩; have hkE_1 : Kp E.heap.size [] E E_1 := (by (repeat (first | (with_reducible assumption) | (with_reducible exact Kp.refl (Nat.le_refl _)) | (with_reducible refine Kp.drew ?_) | (with_reducible refine Kp.alloc ?_ _) | ((with_reducible refine Kp.put ?_ ?_ _); focus (first | (left; go_size; done) | (right; simp; done))) | ((with_reducible apply Kp.later); (with_reducible assumption))))); obtain ⟨hE_1k, hE_1g⟩ := bcell hbE_1; have hE_1r := hkE_1.size; have hE_1s := hbE_1.size; (try simp at hE_1s); have hE_1z : E.heap.size ≤ E_1.heap.size := (by (first | exact hE_1s | exact Nat.le_of_lt hE_1s | exact Nat.le_of_lt (Nat.lt_of_succ_lt hE_1s))); (try (have hE_1t00 : E.heap.size < E_1.heap.size := (by (first | exact hE_1s | exact Nat.lt_of_succ_lt hE_1s)))); (try (have hE_1t01 : E.heap.size + 1 < E_1.heap.size := (by exact hE_1s)))) | (go_at_call 43; (with_reducible refine (S2.out _).mono ?_); rintro e E_2 ⟨rfl, hbE_2⟩; have hkE_2 : Kp E.heap.size [] E E_2 := (by (repeat (first | (with_reducible assumption) | (with_reducible exact Kp.refl (Nat.le_refl _)) | (with_reducible refine Kp.drew ?_) | (with_reducible refine Kp.alloc ?_ _) | ((with_reducible refine Kp.put ?_ ?_ _); focus (first | (left; go_size; done) | (right; simp; done))) | ((with_reducible apply Kp.later); (with_reducible assumption))))); obtain ⟨hE_2k, hE_2g⟩ := bcell hbE_2; have hE_2r := hkE_2.size; have hE_2s := hbE_2.size; (try simp at hE_2s); have hE_2z : E_1.heap.size ≤ E_2.heap.size := (by (first | exact hE_2s | exact Nat.le_of_lt hE_2s | exact Nat.le_of_lt (Nat.lt_of_succ_lt hE_2s))); (try (have hE_2t10 : E_1.heap.size < E_2.heap.size := (by (first | exact hE_2s | exact Nat.lt_of_succ_lt hE_2s)))); (try (have hE_2t11 : E_1.heap.size + 1 < E_2.heap.size := (by exact hE_2s))); (try (have hE_2t00 : E.heap.size < E_2.heap.size := Nat.lt_of_lt_of_le hE_1t00 hE_2z)); (try (have hE_2t01 : E.heap.size + 1 < E_2.heap.size := Nat.lt_of_lt_of_le hE_1t01 hE_2z)))))
    all_goals
      go_wp2
      go_meet
      case rel =>
        (repeat (rename_i hjunk; clear hjunk)); have hwsE := hEb.size; skip
        refine ⟨_, _, rfl, rfl, ?_, ⟨?_, ?_, ?_, ?_⟩, ⟨?_, ?_, ?_, ?_⟩, by (repeat' (first | (with_reducible exact Below.refl _ _) | (with_reducible assumption) | (with_reducible refine below_alloc ?_ _) | (with_reducible refine Below.drew ?_) | (with_reducible refine Below.setCell ?_ ?_ _) | (with_reducible refine below_after ?_ (by assumption)) | go_size))⟩
        · (first | (with_reducible refine Nat.ne_of_lt ?_; with_reducible assumption) | (with_reducible refine Nat.ne_of_gt ?_; with_reducible assumption) | (with_reducible exact Nat.ne_of_lt (Nat.lt_add_one _)) | (with_reducible exact Nat.ne_of_gt (Nat.lt_add_one _)) | omega)
        · (first | (with_reducible assumption) | omega | (simp; omega))
        · ((try simp only [World.size_alloc, World.size_drew, World.size_setCell]); (first | (with_reducible assumption) | (with_reducible exact Nat.lt_add_one _) | (with_reducible exact Nat.lt_add_one_of_lt (Nat.lt_add_one _)) | (with_reducible refine Nat.lt_add_one_of_lt ?_; with_reducible assumption) | (with_reducible refine Nat.lt_add_one_of_lt (Nat.lt_add_one_of_lt ?_); with_reducible assumption) | omega))
        · (repeat (first | (with_reducible assumption) | (with_reducible exact new_cells _ _ _) | (with_reducible exact new_cells2 _ _ _ _) | (with_reducible refine keep_drew ?_) | (with_reducible apply set8_at) | (with_reducible apply set5_at) | ((with_reducible refine new_cells_at ?_ _ _); (focus ((simp only [World.size_alloc, World.size_drew, World.size_setCell]; done)))) | ((with_reducible refine set8_far ?_ ?_); (focus ((first | (with_reducible refine Nat.ne_of_lt ?_; with_reducible assumption) | (with_reducible refine Nat.ne_of_gt ?_; with_reducible assumption) | (with_reducible exact Nat.ne_of_lt (Nat.lt_add_one _)) | (with_reducible exact Nat.ne_of_gt (Nat.lt_add_one _)) | omega)))) | ((with_reducible refine set5_far ?_ ?_); (focus ((first | (with_reducible refine Nat.ne_of_lt ?_; with_reducible assumption) | (with_reducible refine Nat.ne_of_gt ?_; with_reducible assumption) | (with_reducible exact Nat.ne_of_lt (Nat.lt_add_one _)) | (with_reducible exact Nat.ne_of_gt (Nat.lt_add_one _)) | omega)))) | ((with_reducible refine keep_cell_a ?_ ?_); (focus (((try simp only [World.size_alloc, World.size_drew, World.size_setCell]); (first | (with_reducible assumption) | (with_reducible exact Nat.lt_add_one _) | (with_reducible exact Nat.lt_add_one_of_lt (Nat.lt_add_one _)) | (with_reducible refine Nat.lt_add_one_of_lt ?_; with_reducible assumption) | (with_reducible refine Nat.lt_add_one_of_lt (Nat.lt_add_one_of_lt ?_); with_reducible assumption) | omega))))) | ((with_reducible refine keep_cell hbE_2 ?_ ?_); (focus (((try simp only [World.size_alloc, World.size_drew, World.size_setCell]); (first | (with_reducible assumption) | (with_reducible exact Nat.lt_add_one _) | (with_reducible exact Nat.lt_add_one_of_lt (Nat.lt_add_one _)) | (with_reducible refine Nat.lt_add_one_of_lt ?_; with_reducible assumption) | (with_reducible refine Nat.lt_add_one_of_lt (Nat.lt_add_one_of_lt ?_); with_reducible assumption) | omega))))) | ((with_reducible refine keep_cell hbE_1 ?_ ?_); (focus (((try simp only [World.size_alloc, World.size_drew, World.size_setCell]); (first | (with_reducible assumption) | (with_reducible exact Nat.lt_add_one _) | (with_reducible exact Nat.lt_add_one_of_lt (Nat.lt_add_one _)) | (with_reducible refine Nat.lt_add_one_of_lt ?_; with_reducible assumption) | (with_reducible refine Nat.lt_add_one_of_lt (Nat.lt_add_one_of_lt ?_); with_reducible assumption) | omega)))))))
        · (repeat (first | (with_reducible assumption) | (with_reducible exact new_frozen _ _ _) | (with_reducible exact new_frozen2 _ _ _ _) | (with_reducible refine keep_frozen_drew ?_) | (with_reducible refine keep_frozen_c ?_) | ((with_reducible refine new_frozen_at ?_ _ _); (focus ((simp only [World.size_alloc, World.size_drew, World.size_setCell]; done)))) | ((with_reducible refine keep_frozen_a ?_ ?_); (focus (((try simp only [World.size_alloc, World.size_drew, World.size_setCell]); (first | (with_reducible assumption) | (with_reducible exact Nat.lt_add_one _) | (with_reducible exact Nat.lt_add_one_of_lt (Nat.lt_add_one _)) | (with_reducible refine Nat.lt_add_one_of_lt ?_; with_reducible assumption) | (with_reducible refine Nat.lt_add_one_of_lt (Nat.lt_add_one_of_lt ?_); with_reducible assumption) | omega))))) | ((with_reducible refine keep_frozen hbE_2 ?_ ?_); (focus (((try simp only [World.size_alloc, World.size_drew, World.size_setCell]); (first | (with_reducible assumption) | (with_reducible exact Nat.lt_add_one _) | (with_reducible exact Nat.lt_add_one_of_lt (Nat.lt_add_one _)) | (with_reducible refine Nat.lt_add_one_of_lt ?_; with_reducible assumption) | (with_reducible refine Nat.lt_add_one_of_lt (Nat.lt_add_one_of_lt ?_); with_reducible assumption) | omega))))) | ((with_reducible refine keep_frozen hbE_1 ?_ ?_); (focus (((try simp only [World.size_alloc, World.size_drew, World.size_setCell]); (first | (with_reducible assumption) | (with_reducible exact Nat.lt_add_one _) | (with_reducible exact Nat.lt_add_one_of_lt (Nat.lt_add_one _)) | (with_reducible refine Nat.lt_add_one_of_lt ?_; with_reducible assumption) | (with_reducible refine Nat.lt_add_one_of_lt (Nat.lt_add_one_of_lt ?_); with_reducible assumption) | omega)))))))
        · (first | (with_reducible assumption) | omega | (simp; omega))
        · ((try simp only [World.size_alloc, World.size_drew, World.size_setCell]); (first | (with_reducible assumption) | (with_reducible exact Nat.lt_add_one _) | (with_reducible exact Nat.lt_add_one_of_lt (Nat.lt_add_one _)) | (with_reducible refine Nat.lt_add_one_of_lt ?_; with_reducible assumption) | (with_reducible refine Nat.lt_add_one_of_lt (Nat.lt_add_one_of_lt ?_); with_reducible assumption) | omega))
        · (repeat (first | (with_reducible assumption) | (with_reducible exact new_cells _ _ _) | (with_reducible exact new_cells2 _ _ _ _) | (with_reducible refine keep_drew ?_) | (with_reducible apply set8_at) | (with_reducible apply set5_at) | ((with_reducible refine new_cells_at ?_ _ _); (focus ((simp only [World.size_alloc, World.size_drew, World.size_setCell]; done)))) | ((with_reducible refine set8_far ?_ ?_); (focus ((first | (with_reducible refine Nat.ne_of_lt ?_; with_reducible assumption) | (with_reducible refine Nat.ne_of_gt ?_; with_reducible assumption) | (with_reducible exact Nat.ne_of_lt (Nat.lt_add_one _)) | (with_reducible exact Nat.ne_of_gt (Nat.lt_add_one _)) | omega)))) | ((with_reducible refine set5_far ?_ ?_); (focus ((first | (with_reducible refine Nat.ne_of_lt ?_; with_reducible assumption) | (with_reducible refine Nat.ne_of_gt ?_; with_reducible assumption) | (with_reducible exact Nat.ne_of_lt (Nat.lt_add_one _)) | (with_reducible exact Nat.ne_of_gt (Nat.lt_add_one _)) | omega)))) | ((with_reducible refine keep_cell_a ?_ ?_); (focus (((try simp only [World.size_alloc, World.size_drew, World.size_setCell]); (first | (with_reducible assumption) | (with_reducible exact Nat.lt_add_one _) | (with_reducible exact Nat.lt_add_one_of_lt (Nat.lt_add_one _)) | (with_reducible refine Nat.lt_add_one_of_lt ?_; with_reducible assumption) | (with_reducible refine Nat.lt_add_one_of_lt (Nat.lt_add_one_of_lt ?_); with_reducible assumption) | omega))))) | ((with_reducible refine keep_cell hbE_2 ?_ ?_); (focus (((try simp only [World.size_alloc, World.size_drew, World.size_setCell]); (first | (with_reducible assumption) | (with_reducible exact Nat.lt_add_one _) | (with_reducible exact Nat.lt_add_one_of_lt (Nat.lt_add_one _)) | (with_reducible refine Nat.lt_add_one_of_lt ?_; with_reducible assumption) | (with_reducible refine Nat.lt_add_one_of_lt (Nat.lt_add_one_of_lt ?_); with_reducible assumption) | omega))))) | ((with_reducible refine keep_cell hbE_1 ?_ ?_); (focus (((try simp only [World.size_alloc, World.size_drew, World.size_setCell]); (first | (with_reducible assumption) | (with_reducible exact Nat.lt_add_one _) | (with_reducible exact Nat.lt_add_one_of_lt (Nat.lt_add_one _)) | (with_reducible refine Nat.lt_add_one_of_lt ?_; with_reducible assumption) | (with_reducible refine Nat.lt_add_one_of_lt (Nat.lt_add_one_of_lt ?_); with_reducible assumption) | omega)))))))
        · (repeat (first | (with_reducible assumption) | (with_reducible exact new_frozen _ _ _) | (with_reducible exact new_frozen2 _ _ _ _) | (with_reducible refine keep_frozen_drew ?_) | (with_reducible refine keep_frozen_c ?_) | ((with_reducible refine new_frozen_at ?_ _ _); (focus ((simp only [World.size_alloc, World.size_drew, World.size_setCell]; done)))) | ((with_reducible refine keep_frozen_a ?_ ?_); (focus (((try simp only [World.size_alloc, World.size_drew, World.size_setCell]); (first | (with_reducible assumption) | (with_reducible exact Nat.lt_add_one _) | (with_reducible exact Nat.lt_add_one_of_lt (Nat.lt_add_one _)) | (with_reducible refine Nat.lt_add_one_of_lt ?_; with_reducible assumption) | (with_reducible refine Nat.lt_add_one_of_lt (Nat.lt_add_one_of_lt ?_); with_reducible assumption) | omega))))) | ((with_reducible refine keep_frozen hbE_2 ?_ ?_); (focus (((try simp only [World.size_alloc, World.size_drew, World.size_setCell]); (first | (with_reducible assumption) | (with_reducible exact Nat.lt_add_one _) | (with_reducible exact Nat.lt_add_one_of_lt (Nat.lt_add_one _)) | (with_reducible refine Nat.lt_add_one_of_lt ?_; with_reducible assumption) | (with_reducible refine Nat.lt_add_one_of_lt (Nat.lt_add_one_of_lt ?_); with_reducible assumption) | omega))))) | ((with_reducible refine keep_frozen hbE_1 ?_ ?_); (focus (((try simp only [World.size_alloc, World.size_drew, World.size_setCell]); (first | (with_reducible assumption) | (with_reducible exact Nat.lt_add_one _) | (with_reducible exact Nat.lt_add_one_of_lt (Nat.lt_add_one _)) | (with_reducible refine Nat.lt_add_one_of_lt ?_; with_reducible assumption) | (with_reducible refine Nat.lt_add_one_of_lt (Nat.lt_add_one_of_lt ?_); with_reducible assumption) | omega)))))))
  case rest =>
    obtain ⟨B1, B2, rfl, rfl, hne, N1, N2, hB⟩ := hcut
    go_upto_region 2 with (fail)
    refine wp_world (GMem w B1 B2 a b) ⟨keep_cell hB hAz2 hAc2, N1.cell, N2.cell, keep_frozen hB hAz2 hAf2, N1.froz, N2.froz, Nat.lt_of_lt_of_le hAz2 hB.size, N1.lt, N2.lt, Nat.lt_of_lt_of_le hAz2 N1.from_, Nat.lt_of_lt_of_le hAz2 N2.from_, hne, below_after hAb hB⟩ ?_
    intro G HM
    clear N1 N2 hB hne hAc0 hAc1 hAc2 hAf0 hAf1 hAf2 hAz0 hAz1 hAz2 hAb
    clear S1 S2
    have HM0 := Lib.hid HM
    obtain ⟨c0, c1, c2, f0, f1, f2, z0, z1, z2, k1, k2, k3, hbb⟩ := HM
    by_cases ha0 : a = 0
    · subst ha0
      have J := Lib.hid (join_any false b HB.out)
      go_wp2_with fail
      ((with_reducible refine (zero_yes _).mono ?_); rintro e w1 ⟨rfl, hb1⟩)
      obtain ⟨hc1, hf1⟩ := bcell hb1
      have hz1_w_0 : w.heap.size < w1.heap.size := by have h := hb1.size; (try simp at h); omega
      have hz1_w_1 : w.heap.size + 1 < w1.heap.size := by have h := hb1.size; (try simp at h); omega
      have hz1_w_2 : w.heap.size + 1 + 1 < w1.heap.size := by have h := hb1.size; (try simp at h); omega
      have hz1a := Nat.lt_of_lt_of_le z0 hb1.size
      have hz1b := Nat.lt_of_lt_of_le z1 hb1.size
      have hz1c := Nat.lt_of_lt_of_le z2 hb1.size
      go_wp2_with fail
      ((with_reducible refine (J.out _).mono ?_); rintro e w2 ⟨rfl, hb2⟩)
      obtain ⟨hc2, hf2⟩ := bcell hb2
      have hz2_w_0 : w.heap.size < w2.heap.size := by have h := hb2.size; (try simp at h); omega
      have hz2_w_1 : w.heap.size + 1 < w2.heap.size := by have h := hb2.size; (try simp at h); omega
      have hz2_w_2 : w.heap.size + 1 + 1 < w2.heap.size := by have h := hb2.size; (try simp at h); omega
      go_wp2_with ((with_reducible show bodyPost _ _ _ _ _ _); refine bodyPost_ret (by simp [results, Tryd.results19, go_sem, hc1, hf1, hz1_w_0, hz1_w_1, hz1_w_2, hc2, hf2, hz2_w_0, hz2_w_1, hz2_w_2, c0, f0, z0, hz1a]; try rfl) rfl ?_; exact ⟨by rw [Nat.gcd_zero_left], by (repeat' (first | (with_reducible exact Below.refl _ _) | (with_reducible assumption) | (with_reducible refine below_alloc ?_ _) | (with_reducible refine Below.drew ?_) | (with_reducible refine Below.setCell ?_ ?_ _) | (with_reducible refine below_after ?_ (by assumption)) | go_size))⟩)
    have ZA := Lib.hid (zero_no HA.out ha0)
    have A0 := Lib.hid (Nat.pos_of_ne_zero ha0)
    clear ha0
    go_wp2_with fail
    ((with_reducible refine (ZA.out _).mono ?_); rintro e w1 ⟨rfl, hb1⟩)
    obtain ⟨hc1, hf1⟩ := bcell hb1
    have hz1_w_0 : w.heap.size < w1.heap.size := by have h := hb1.size; (try simp at h); omega
    have hz1_w_1 : w.heap.size + 1 < w1.heap.size := by have h := hb1.size; (try simp at h); omega
    have hz1_w_2 : w.heap.size + 1 + 1 < w1.heap.size := by have h := hb1.size; (try simp at h); omega
    have hz1a := Nat.lt_of_lt_of_le z0 hb1.size
    have hz1b := Nat.lt_of_lt_of_le z1 hb1.size
    have hz1c := Nat.lt_of_lt_of_le z2 hb1.size
    by_cases hb0 : b = 0
    · subst hb0
      have J := Lib.hid (join_any false a HA.out)
      go_wp2_with fail
      ((with_reducible refine (zero_yes _).mono ?_); rintro e w2 ⟨rfl, hb2⟩)
      obtain ⟨hc2, hf2⟩ := bcell hb2
      have hz2_w_0 : w.heap.size < w2.heap.size := by have h := hb2.size; (try simp at h); omega
      have hz2_w_1 : w.heap.size + 1 < w2.heap.size := by have h := hb2.size; (try simp at h); omega
      have hz2_w_2 : w.heap.size + 1 + 1 < w2.heap.size := by have h := hb2.size; (try simp at h); omega
      have hz2a := Nat.lt_of_lt_of_le hz1a hb2.size
      have hz2b := Nat.lt_of_lt_of_le hz1b hb2.size
      have hz2c := Nat.lt_of_lt_of_le hz1c hb2.size
      go_wp2_with fail
      ((with_reducible refine (J.out _).mono ?_); rintro e w3 ⟨rfl, hb3⟩)
      obtain ⟨hc3, hf3⟩ := bcell hb3
      have hz3_w_0 : w.heap.size < w3.heap.size := by have h := hb3.size; (try simp at h); omega
      have hz3_w_1 : w.heap.size + 1 < w3.heap.size := by have h := hb3.size; (try simp at h); omega
      have hz3_w_2 : w.heap.size + 1 + 1 < w3.heap.size := by have h := hb3.size; (try simp at h); omega
      go_wp2_with ((with_reducible show bodyPost _ _ _ _ _ _); refine bodyPost_ret (by simp [results, Tryd.results19, go_sem, hc1, hf1, hz1_w_0, hz1_w_1, hz1_w_2, hc2, hf2, hz2_w_0, hz2_w_1, hz2_w_2, hc3, hf3, hz3_w_0, hz3_w_1, hz3_w_2, c0, f0, z0, hz1a, hz2a]; try rfl) rfl ?_; exact ⟨by rw [Nat.gcd_zero_right], by (repeat' (first | (with_reducible exact Below.refl _ _) | (with_reducible assumption) | (with_reducible refine below_alloc ?_ _) | (with_reducible refine Below.drew ?_) | (with_reducible refine Below.setCell ?_ ?_ _) | (with_reducible refine below_after ?_ (by assumption)) | go_size))⟩)
    have ZB := Lib.hid (zero_no HB.out hb0)
    have B0 := Lib.hid (Nat.pos_of_ne_zero hb0)
    clear hb0
    go_wp2_with fail
    ((with_reducible refine (ZB.out _).mono ?_); rintro e w2 ⟨rfl, hb2⟩)
    obtain ⟨hc2, hf2⟩ := bcell hb2
    have hz2_w_0 : w.heap.size < w2.heap.size := by have h := hb2.size; (try simp at h); omega
    have hz2_w_1 : w.heap.size + 1 < w2.heap.size := by have h := hb2.size; (try simp at h); omega
    have hz2_w_2 : w.heap.size + 1 + 1 < w2.heap.size := by have h := hb2.size; (try simp at h); omega
    go_wp2
    have M2 := (HM0.out.later hb1).later hb2
    have HM2 := Lib.hid M2
    clear M2 c0 c1 c2 f0 f1 f2 z0 z1 z2 hc1 hf1 hc2 hf2
    go_loopg [7] a (fun g v wr => ∃ c x y : Nat, v = .int .i64 c ∧ g = x ∧ Com a b c x y ∧ GMem w B1 B2 x y wr)
    case atStart => exact ⟨0, a, b, rfl, rfl, Com.start A0.out B0.out, HM2.out⟩
    case round =>
      obtain ⟨c, x, y, rfl, rfl, HC, HM⟩ := hrel
      have L := HC.lt HA.out HB.out
      have hc256 : (c : Int) ≤ 256 := by have := L.1; omega
      have SX := Lib.hid (small2 gk L.2.1)
      have SY := Lib.hid (small2 y L.2.2.1)
      have HC' := Lib.hid HC
      have HL := Lib.hid L
      clear HM2 HM0 ZA ZB HC L
      have HM0 := Lib.hid HM
      obtain ⟨c0, c1, c2, f0, f1, f2, z0, z1, z2, k1, k2, k3, hbb⟩ := HM
      by_cases hxy : gk % 2 = 0 ∧ y % 2 = 0
      · have EX := Lib.hid (even_yes hxy.1)
        have EY := Lib.hid (even_yes hxy.2)
        have NX := Lib.hid (HC'.out.next hxy.1 hxy.2)
        clear hxy
        go_wp2_with fail
        ((with_reducible refine (EX.out _).mono ?_); rintro e w1 ⟨rfl, hb1⟩)
        obtain ⟨hc1, hf1⟩ := bcell hb1
        have hz1_w_0 : w.heap.size < w1.heap.size := by have h := hb1.size; (try simp at h); omega
        have hz1_w_1 : w.heap.size + 1 < w1.heap.size := by have h := hb1.size; (try simp at h); omega
        have hz1_w_2 : w.heap.size + 1 + 1 < w1.heap.size := by have h := hb1.size; (try simp at h); omega
        have hz1a := Nat.lt_of_lt_of_le z0 hb1.size
        have hz1b := Nat.lt_of_lt_of_le z1 hb1.size
        have hz1c := Nat.lt_of_lt_of_le z2 hb1.size
        go_wp2_with fail
        ((with_reducible refine (EY.out _).mono ?_); rintro e w2 ⟨rfl, hb2⟩)
        obtain ⟨hc2, hf2⟩ := bcell hb2
        have hz2_w_0 : w.heap.size < w2.heap.size := by have h := hb2.size; (try simp at h); omega
        have hz2_w_1 : w.heap.size + 1 < w2.heap.size := by have h := hb2.size; (try simp at h); omega
        have hz2_w_2 : w.heap.size + 1 + 1 < w2.heap.size := by have h := hb2.size; (try simp at h); omega
        have hz2a := Nat.lt_of_lt_of_le hz1a hb2.size
        have hz2b := Nat.lt_of_lt_of_le hz1b hb2.size
        have hz2c := Nat.lt_of_lt_of_le hz1c hb2.size
        go_wp2_with fail
        ((with_reducible refine (SX.out _).mono ?_); rintro e w3 ⟨rfl, hb3⟩)
        obtain ⟨hc3, hf3⟩ := bcell hb3
        have hz3_w_0 : w.heap.size < w3.heap.size := by have h := hb3.size; (try simp at h); omega
        have hz3_w_1 : w.heap.size + 1 < w3.heap.size := by have h := hb3.size; (try simp at h); omega
        have hz3_w_2 : w.heap.size + 1 + 1 < w3.heap.size := by have h := hb3.size; (try simp at h); omega
        have hz3a := Nat.lt_of_lt_of_le hz2a hb3.size
        have hz3b := Nat.lt_of_lt_of_le hz2b hb3.size
        have hz3c := Nat.lt_of_lt_of_le hz2c hb3.size
        go_upto_region 9 with (fail)
        refine wp_world (GMem w B1 B2 (gk / 2) y) ((((HM0.out.later hb1).later hb2).later hb3).setX) ?_
        clear c0 c1 c2 f0 f1 f2 z0 z1 z2 hc1 hf1 hc2 hf2 hc3 hf3 HM0
        intro V HM
        have HM0 := Lib.hid HM
        obtain ⟨c0, c1, c2, f0, f1, f2, z0, z1, z2, k1, k2, k3, hbb⟩ := HM
        go_wp2_with fail
        ((with_reducible refine (SY.out _).mono ?_); rintro e w4 ⟨rfl, hb4⟩)
        obtain ⟨hc4, hf4⟩ := bcell hb4
        have hz4_w_0 : w.heap.size < w4.heap.size := by have h := hb4.size; (try simp at h); omega
        have hz4_w_1 : w.heap.size + 1 < w4.heap.size := by have h := hb4.size; (try simp at h); omega
        have hz4_w_2 : w.heap.size + 1 + 1 < w4.heap.size := by have h := hb4.size; (try simp at h); omega
        have hz4a := Nat.lt_of_lt_of_le z0 hb4.size
        have hz4b := Nat.lt_of_lt_of_le z1 hb4.size
        have hz4c := Nat.lt_of_lt_of_le z2 hb4.size
        have M4 := Lib.hid ((HM0.out.later hb4).setY (y' := y / 2))
        go_wp2
        go_roundg (gk / 2)
        case measure => exact NX.out.2
        case rel => exact ⟨c + 1, gk / 2, y / 2, by go_num, rfl, NX.out.1, M4.out⟩
      · have hG := gcd_odd hxy
        have hD := HC'.out.done
        have hS := OddDiv.start gk y
        generalize Nat.gcd gk y = G at hG hD hS
        have HG := Lib.hid hG
        have HD := Lib.hid hD
        have HS := Lib.hid (show GIn G gk y (gk + y) by unfold GIn; exact ⟨hS, HL.out.2.2.2.2, HL.out.2.1, HL.out.2.2.1, fun h => absurd h (by have := HL.out.2.2.2.1; omega), Nat.le_refl _⟩)
        clear hG hD hS
        obtain ⟨x, rfl⟩ : ∃ x, x = gk := ⟨_, rfl⟩
        have hloop : ∀ (V : World), GMem w B1 B2 x y V → Below wr.heap.size wr V → True := fun _ _ _ => trivial
        clear hloop
        by_cases hx : x % 2 = 0
        · have EX := Lib.hid (even_yes hx)
          have EY := Lib.hid (even_no (fun h => hxy ⟨hx, h⟩))
          clear hxy hx
          go_wp2_with fail
          ((with_reducible refine (EX.out _).mono ?_); rintro e w1 ⟨rfl, hb1⟩)
          obtain ⟨hc1, hf1⟩ := bcell hb1
          have hz1_w_0 : w.heap.size < w1.heap.size := by have h := hb1.size; (try simp at h); omega
          have hz1_w_1 : w.heap.size + 1 < w1.heap.size := by have h := hb1.size; (try simp at h); omega
          have hz1_w_2 : w.heap.size + 1 + 1 < w1.heap.size := by have h := hb1.size; (try simp at h); omega
          have hz1a := Nat.lt_of_lt_of_le z0 hb1.size
          have hz1b := Nat.lt_of_lt_of_le z1 hb1.size
          have hz1c := Nat.lt_of_lt_of_le z2 hb1.size
          go_wp2_with fail
          ((with_reducible refine (EY.out _).mono ?_); rintro e w2 ⟨rfl, hb2⟩)
          obtain ⟨hc2, hf2⟩ := bcell hb2
          have hz2_w_0 : w.heap.size < w2.heap.size := by have h := hb2.size; (try simp at h); omega
          have hz2_w_1 : w.heap.size + 1 < w2.heap.size := by have h := hb2.size; (try simp at h); omega
          have hz2_w_2 : w.heap.size + 1 + 1 < w2.heap.size := by have h := hb2.size; (try simp at h); omega
          go_wp2
          refine wp_world (GMem w B1 B2 x y) ((HM0.out.later hb1).later hb2) ?_
          clear c0 c1 c2 f0 f1 f2 z0 z1 z2 hc1 hf1 hc2 hf2 HM0 hz1a hz1b hz1c
          intro V HM
          have HMV := Lib.hid HM
          clear HM
          go_loopg [39] (x + y) (fun g _ wr => ∃ x1 y1 : Nat, GIn G x1 y1 g ∧ GMem w B1 B2 x1 y1 wr)
          case atStart => exact ⟨x, y, HS.out, HMV.out⟩
          case round =>
            obtain ⟨x1, y1, HI, HM⟩ := hrel
            clear HMV
            obtain ⟨n1, rfl⟩ : ∃ n1, n1 = gk := ⟨_, rfl⟩
            obtain ⟨wo, rfl⟩ : ∃ wo : World, wo = wr := ⟨_, rfl⟩
            have HI' := Lib.hid HI
            clear HI
            have HM0 := Lib.hid HM
            obtain ⟨c0, c1, c2, f0, f1, f2, z0, z1, z2, k1, k2, k3, hbb⟩ := HM
            by_cases hx0 : x1 = 0
            · subst hx0
              have hy := HI'.out.done HG.out
              subst hy
              go_wp2_with fail
              ((with_reducible refine (zero_yes _).mono ?_); rintro e w1 ⟨rfl, hb1⟩)
              obtain ⟨hc1, hf1⟩ := bcell hb1
              have hz1_w_0 : w.heap.size < w1.heap.size := by have h := hb1.size; (try simp at h); omega
              have hz1_w_1 : w.heap.size + 1 < w1.heap.size := by have h := hb1.size; (try simp at h); omega
              have hz1_w_2 : w.heap.size + 1 + 1 < w1.heap.size := by have h := hb1.size; (try simp at h); omega
              go_wp2
              have MM := Lib.hid (HM0.out.later hb1)
              clear c0 c1 c2 f0 f1 f2 z0 z1 z2 hc1 hf1 HM0
              have PL := Lib.hid (show pwx c y1 < 2 ^ 256 by rw [HD.out]; exact gcd_lt A0.out HA.out)
              go_loopw [8] (fun i wr => ∃ k : Nat, k ≤ c ∧ i = .int .i64 k ∧ GMem w B1 B2 0 (pwx k y1) wr) (fun i _ => c - (intOf i).toNat)
              case atStart => exact ⟨0, by omega, by rfl, by rw [pwx_zero]; exact MM.out⟩
              case round =>
                obtain ⟨k, hk, rfl, HM⟩ := hrel
                clear MM
                have HM0 := Lib.hid HM
                obtain ⟨c0, c1, c2, f0, f1, f2, z0, z1, z2, k1, k2, k3, hbb⟩ := HM
                by_cases hlt : k < c
                · obtain ⟨p1, p2⟩ := pwx_next (x := y1) hlt PL.out
                  have K6 := rplus_any (pwx k y1) (pwx k y1) p1 p1
                  rw [sm_twice, p2] at K6
                  have H6 := Lib.hid K6
                  clear p1 p2 K6
                  go_wp2_with fail
                  ((with_reducible refine (H6.out _).mono ?_); rintro e w6 ⟨rfl, hb6⟩)
                  obtain ⟨hc6, hf6⟩ := bcell hb6
                  have hz6_w_0 : w.heap.size < w6.heap.size := by have h := hb6.size; (try simp at h); omega
                  have hz6_w_1 : w.heap.size + 1 < w6.heap.size := by have h := hb6.size; (try simp at h); omega
                  have hz6_w_2 : w.heap.size + 1 + 1 < w6.heap.size := by have h := hb6.size; (try simp at h); omega
                  have hz6a := Nat.lt_of_lt_of_le z0 hb6.size
                  have hz6b := Nat.lt_of_lt_of_le z1 hb6.size
                  have hz6c := Nat.lt_of_lt_of_le z2 hb6.size
                  have DM := Lib.hid ((HM0.out.later hb6).setY (y' := pwx (k + 1) y1))
                  go_wp2
                  go_roundw
                  case rel => exact ⟨k + 1, by omega, by go_num, DM.out⟩
                  case measure => simp [intOf]; omega
                · obtain rfl : k = c := by omega
                  have K6 := join_any false (pwx k y1) PL.out
                  have H6 := Lib.hid K6
                  clear K6
                  go_wp2_with fail
                  ((with_reducible refine (H6.out _).mono ?_); rintro e w6 ⟨rfl, hb6⟩)
                  obtain ⟨hc6, hf6⟩ := bcell hb6
                  have hz6_w_0 : w.heap.size < w6.heap.size := by have h := hb6.size; (try simp at h); omega
                  have hz6_w_1 : w.heap.size + 1 < w6.heap.size := by have h := hb6.size; (try simp at h); omega
                  have hz6_w_2 : w.heap.size + 1 + 1 < w6.heap.size := by have h := hb6.size; (try simp at h); omega
                  have hz6a := Nat.lt_of_lt_of_le z0 hb6.size
                  have hz6b := Nat.lt_of_lt_of_le z1 hb6.size
                  have hz6c := Nat.lt_of_lt_of_le z2 hb6.size
                  go_wp2_with ((with_reducible show bodyPost _ _ _ _ _ _); refine bodyPost_ret (by simp [results, Tryd.results19, go_sem, hc6, hf6, hz6_w_0, hz6_w_1, hz6_w_2, c0, f0, z0, hz6a]; try rfl) rfl ?_; exact ⟨by rw [HD.out], by (repeat' (first | (with_reducible exact Below.refl _ _) | (with_reducible assumption) | (with_reducible refine below_alloc ?_ _) | (with_reducible refine Below.drew ?_) | (with_reducible refine Below.setCell ?_ ?_ _) | (with_reducible refine below_after ?_ (by assumption)) | go_size))⟩)
            · have Z1 := Lib.hid (zero_no HI'.out.lt.1 hx0)
              have HI2 := Lib.hid (HI'.out.mid hx0)
              clear hx0
              go_wp2_with fail
              ((with_reducible refine (Z1.out _).mono ?_); rintro e w1 ⟨rfl, hb1⟩)
              obtain ⟨hc1, hf1⟩ := bcell hb1
              have hz1_w_0 : w.heap.size < w1.heap.size := by have h := hb1.size; (try simp at h); omega
              have hz1_w_1 : w.heap.size + 1 < w1.heap.size := by have h := hb1.size; (try simp at h); omega
              have hz1_w_2 : w.heap.size + 1 + 1 < w1.heap.size := by have h := hb1.size; (try simp at h); omega
              go_wp2
              have MM := Lib.hid (HM0.out.later hb1)
              clear c0 c1 c2 f0 f1 f2 z0 z1 z2 hc1 hf1 HM0
              go_loopg [42] x1 (fun g _ wr => GMid G g y1 n1 ∧ GMem w B1 B2 g y1 wr)
              case atStart => exact ⟨HI2.out, MM.out⟩
              case round =>
                obtain ⟨HX, HM⟩ := hrel
                clear MM HI2 HI'
                obtain ⟨x2, rfl⟩ : ∃ x2, x2 = gk := ⟨_, rfl⟩
                obtain ⟨wp, rfl⟩ : ∃ wp : World, wp = wr := ⟨_, rfl⟩
                have HX' := Lib.hid HX
                have SX := Lib.hid (small2 x2 HX.lt.1)
                clear HX
                have HM0 := Lib.hid HM
                obtain ⟨c0, c1, c2, f0, f1, f2, z0, z1, z2, k1, k2, k3, hbb⟩ := HM
                by_cases hx : x2 % 2 = 0
                · have EX := Lib.hid (even_yes hx)
                  have NX := Lib.hid (HX'.out.halfX hx)
                  clear hx
                  go_wp2_with fail
                  ((with_reducible refine (EX.out _).mono ?_); rintro e w2 ⟨rfl, hb2⟩)
                  obtain ⟨hc2, hf2⟩ := bcell hb2
                  have hz2_w_0 : w.heap.size < w2.heap.size := by have h := hb2.size; (try simp at h); omega
                  have hz2_w_1 : w.heap.size + 1 < w2.heap.size := by have h := hb2.size; (try simp at h); omega
                  have hz2_w_2 : w.heap.size + 1 + 1 < w2.heap.size := by have h := hb2.size; (try simp at h); omega
                  have hz2a := Nat.lt_of_lt_of_le z0 hb2.size
                  have hz2b := Nat.lt_of_lt_of_le z1 hb2.size
                  have hz2c := Nat.lt_of_lt_of_le z2 hb2.size
                  go_wp2_with fail
                  ((with_reducible refine (SX.out _).mono ?_); rintro e w3 ⟨rfl, hb3⟩)
                  obtain ⟨hc3, hf3⟩ := bcell hb3
                  have hz3_w_0 : w.heap.size < w3.heap.size := by have h := hb3.size; (try simp at h); omega
                  have hz3_w_1 : w.heap.size + 1 < w3.heap.size := by have h := hb3.size; (try simp at h); omega
                  have hz3_w_2 : w.heap.size + 1 + 1 < w3.heap.size := by have h := hb3.size; (try simp at h); omega
                  have hz3a := Nat.lt_of_lt_of_le hz2a hb3.size
                  have hz3b := Nat.lt_of_lt_of_le hz2b hb3.size
                  have hz3c := Nat.lt_of_lt_of_le hz2c hb3.size
                  have M3 := Lib.hid (((HM0.out.later hb2).later hb3).setX (x' := x2 / 2))
                  go_wp2
                  go_roundg (x2 / 2)
                  case measure => exact NX.out.2
                  case rel => exact ⟨NX.out.1, M3.out⟩
                · have EX := Lib.hid (even_no hx)
                  have HXO := Lib.hid (show x2 % 2 = 1 by omega)
                  clear hx
                  go_wp2_with fail
                  ((with_reducible refine (EX.out _).mono ?_); rintro e w2 ⟨rfl, hb2⟩)
                  obtain ⟨hc2, hf2⟩ := bcell hb2
                  have hz2_w_0 : w.heap.size < w2.heap.size := by have h := hb2.size; (try simp at h); omega
                  have hz2_w_1 : w.heap.size + 1 < w2.heap.size := by have h := hb2.size; (try simp at h); omega
                  have hz2_w_2 : w.heap.size + 1 + 1 < w2.heap.size := by have h := hb2.size; (try simp at h); omega
                  go_wp2
                  have MM := Lib.hid (HM0.out.later hb2)
                  clear c0 c1 c2 f0 f1 f2 z0 z1 z2 hc2 hf2 HM0
                  go_loopg [49] y1 (fun g _ wr => GMid G x2 g n1 ∧ GMem w B1 B2 x2 g wr)
                  case atStart => exact ⟨HX'.out, MM.out⟩
                  case round =>
                    obtain ⟨HY, HM⟩ := hrel
                    clear MM HX'
                    obtain ⟨y2, rfl⟩ : ∃ y2, y2 = gk := ⟨_, rfl⟩
                    have HY' := Lib.hid HY
                    have SY := Lib.hid (small2 y2 HY.lt.2.1)
                    clear HY
                    have HM0 := Lib.hid HM
                    obtain ⟨c0, c1, c2, f0, f1, f2, z0, z1, z2, k1, k2, k3, hbb⟩ := HM
                    by_cases hy : y2 % 2 = 0
                    · have EY := Lib.hid (even_yes hy)
                      have NY := Lib.hid (HY'.out.halfY hy)
                      clear hy
                      go_wp2_with fail
                      ((with_reducible refine (EY.out _).mono ?_); rintro e w3 ⟨rfl, hb3⟩)
                      obtain ⟨hc3, hf3⟩ := bcell hb3
                      have hz3_w_0 : w.heap.size < w3.heap.size := by have h := hb3.size; (try simp at h); omega
                      have hz3_w_1 : w.heap.size + 1 < w3.heap.size := by have h := hb3.size; (try simp at h); omega
                      have hz3_w_2 : w.heap.size + 1 + 1 < w3.heap.size := by have h := hb3.size; (try simp at h); omega
                      have hz3a := Nat.lt_of_lt_of_le z0 hb3.size
                      have hz3b := Nat.lt_of_lt_of_le z1 hb3.size
                      have hz3c := Nat.lt_of_lt_of_le z2 hb3.size
                      go_wp2_with fail
                      ((with_reducible refine (SY.out _).mono ?_); rintro e w4 ⟨rfl, hb4⟩)
                      obtain ⟨hc4, hf4⟩ := bcell hb4
                      have hz4_w_0 : w.heap.size < w4.heap.size := by have h := hb4.size; (try simp at h); omega
                      have hz4_w_1 : w.heap.size + 1 < w4.heap.size := by have h := hb4.size; (try simp at h); omega
                      have hz4_w_2 : w.heap.size + 1 + 1 < w4.heap.size := by have h := hb4.size; (try simp at h); omega
                      have hz4a := Nat.lt_of_lt_of_le hz3a hb4.size
                      have hz4b := Nat.lt_of_lt_of_le hz3b hb4.size
                      have hz4c := Nat.lt_of_lt_of_le hz3c hb4.size
                      have M3 := Lib.hid (((HM0.out.later hb3).later hb4).setY (y' := y2 / 2))
                      go_wp2
                      go_roundg (y2 / 2)
                      case measure => exact NY.out.2
                      case rel => exact ⟨NY.out.1, M3.out⟩
                    · have EY := Lib.hid (even_no hy)
                      have HODD := Lib.hid (show y2 % 2 = 1 by omega)
                      have C1 := rcompare_any x2 y2 HY'.out.lt.1 HY'.out.lt.2.1
                      have M1 := Lib.hid (rminus_any x2 y2 (by have := HY'.out.lt; omega))
                      have M2 := Lib.hid (rminus_any y2 x2 (by have := HY'.out.lt; omega))
                      clear hy
                      by_cases hlt : x2 < y2
                      · rw [show cmpN x2 y2 = -1 by unfold cmpN; rw [if_pos hlt]] at C1
                        have C := Lib.hid C1
                        have HLT := Lib.hid hlt
                        have NN := Lib.hid (HY'.out.swap.next (Nat.le_of_lt hlt) HXO.out)
                        have m2 := M2.out
                        rw [df_eq HY'.out.lt.2.1 (Nat.le_of_lt hlt)] at m2
                        have MM2 := Lib.hid m2
                        clear C1 hlt m2 M1 M2
                        go_wp2_with fail
                        ((with_reducible refine (EY.out _).mono ?_); rintro e w3 ⟨rfl, hb3⟩)
                        obtain ⟨hc3, hf3⟩ := bcell hb3
                        have hz3_w_0 : w.heap.size < w3.heap.size := by have h := hb3.size; (try simp at h); omega
                        have hz3_w_1 : w.heap.size + 1 < w3.heap.size := by have h := hb3.size; (try simp at h); omega
                        have hz3_w_2 : w.heap.size + 1 + 1 < w3.heap.size := by have h := hb3.size; (try simp at h); omega
                        have hz3a := Nat.lt_of_lt_of_le z0 hb3.size
                        have hz3b := Nat.lt_of_lt_of_le z1 hb3.size
                        have hz3c := Nat.lt_of_lt_of_le z2 hb3.size
                        go_wp2_with fail
                        ((with_reducible refine (C.out _).mono ?_); rintro e w4 ⟨rfl, hb4⟩)
                        obtain ⟨hc4, hf4⟩ := bcell hb4
                        have hz4_w_0 : w.heap.size < w4.heap.size := by have h := hb4.size; (try simp at h); omega
                        have hz4_w_1 : w.heap.size + 1 < w4.heap.size := by have h := hb4.size; (try simp at h); omega
                        have hz4_w_2 : w.heap.size + 1 + 1 < w4.heap.size := by have h := hb4.size; (try simp at h); omega
                        have hz4a := Nat.lt_of_lt_of_le hz3a hb4.size
                        have hz4b := Nat.lt_of_lt_of_le hz3b hb4.size
                        have hz4c := Nat.lt_of_lt_of_le hz3c hb4.size
                        go_upto_region 18 with (fail)
                        refine wp_world (GMem w B1 B2 y2 x2) ((((HM0.out.later hb3).later hb4).setX).setY) ?_
                        clear c0 c1 c2 f0 f1 f2 z0 z1 z2 hc3 hf3 hc4 hf4 HM0
                        intro V HM
                        have HM0 := Lib.hid HM
                        obtain ⟨c0, c1, c2, f0, f1, f2, z0, z1, z2, k1, k2, k3, hbb⟩ := HM
                        go_wp2_with fail
                        ((with_reducible refine (MM2.out _).mono ?_); rintro e w5 ⟨rfl, hb5⟩)
                        obtain ⟨hc5, hf5⟩ := bcell hb5
                        have hz5_w_0 : w.heap.size < w5.heap.size := by have h := hb5.size; (try simp at h); omega
                        have hz5_w_1 : w.heap.size + 1 < w5.heap.size := by have h := hb5.size; (try simp at h); omega
                        have hz5_w_2 : w.heap.size + 1 + 1 < w5.heap.size := by have h := hb5.size; (try simp at h); omega
                        have hz5a := Nat.lt_of_lt_of_le z0 hb5.size
                        have hz5b := Nat.lt_of_lt_of_le z1 hb5.size
                        have hz5c := Nat.lt_of_lt_of_le z2 hb5.size
                        have M5 := Lib.hid ((HM0.out.later hb5).setX (x' := y2 - x2))
                        go_wp2
                        go_roundg (y2 - x2 + x2)
                        case measure => exact NN.out.2
                        case rel => exact ⟨y2 - x2, x2, NN.out.1, M5.out⟩
                      · have hc : cmpN x2 y2 = 0 ∨ cmpN x2 y2 = 1 := by unfold cmpN; rw [if_neg hlt]; split <;> simp
                        have NN := Lib.hid (HY'.out.next (by omega) HODD.out)
                        have m1 := M1.out
                        rw [df_eq HY'.out.lt.1 (by omega)] at m1
                        have MM1 := Lib.hid m1
                        clear hlt m1 M1 M2
                        rcases hc with hc | hc
                        all_goals
                          rw [hc] at C1
                          have C := Lib.hid C1
                          clear C1 hc
                          go_wp2_with fail
                          ((with_reducible refine (EY.out _).mono ?_); rintro e w3 ⟨rfl, hb3⟩)
                          obtain ⟨hc3, hf3⟩ := bcell hb3
                          have hz3_w_0 : w.heap.size < w3.heap.size := by have h := hb3.size; (try simp at h); omega
                          have hz3_w_1 : w.heap.size + 1 < w3.heap.size := by have h := hb3.size; (try simp at h); omega
                          have hz3_w_2 : w.heap.size + 1 + 1 < w3.heap.size := by have h := hb3.size; (try simp at h); omega
                          have hz3a := Nat.lt_of_lt_of_le z0 hb3.size
                          have hz3b := Nat.lt_of_lt_of_le z1 hb3.size
                          have hz3c := Nat.lt_of_lt_of_le z2 hb3.size
                          go_wp2_with fail
                          ((with_reducible refine (C.out _).mono ?_); rintro e w4 ⟨rfl, hb4⟩)
                          obtain ⟨hc4, hf4⟩ := bcell hb4
                          have hz4_w_0 : w.heap.size < w4.heap.size := by have h := hb4.size; (try simp at h); omega
                          have hz4_w_1 : w.heap.size + 1 < w4.heap.size := by have h := hb4.size; (try simp at h); omega
                          have hz4_w_2 : w.heap.size + 1 + 1 < w4.heap.size := by have h := hb4.size; (try simp at h); omega
                          have hz4a := Nat.lt_of_lt_of_le hz3a hb4.size
                          have hz4b := Nat.lt_of_lt_of_le hz3b hb4.size
                          have hz4c := Nat.lt_of_lt_of_le hz3c hb4.size
                          go_wp2_with fail
                          ((with_reducible refine (MM1.out _).mono ?_); rintro e w5 ⟨rfl, hb5⟩)
                          obtain ⟨hc5, hf5⟩ := bcell hb5
                          have hz5_w_0 : w.heap.size < w5.heap.size := by have h := hb5.size; (try simp at h); omega
                          have hz5_w_1 : w.heap.size + 1 < w5.heap.size := by have h := hb5.size; (try simp at h); omega
                          have hz5_w_2 : w.heap.size + 1 + 1 < w5.heap.size := by have h := hb5.size; (try simp at h); omega
                          have hz5a := Nat.lt_of_lt_of_le hz4a hb5.size
                          have hz5b := Nat.lt_of_lt_of_le hz4b hb5.size
                          have hz5c := Nat.lt_of_lt_of_le hz4c hb5.size
                          have M5 := Lib.hid ((((HM0.out.later hb3).later hb4).later hb5).setX (x' := x2 - y2))
                          go_wp2
                          go_roundg (x2 - y2 + y2)
                          case measure => exact NN.out.2
                          case rel => exact ⟨x2 - y2, y2, NN.out.1, M5.out⟩
        · have EX := Lib.hid (even_no hx)
          clear hxy hx
          go_wp2_with fail
          ((with_reducible refine (EX.out _).mono ?_); rintro e w1 ⟨rfl, hb1⟩)
          obtain ⟨hc1, hf1⟩ := bcell hb1
          have hz1_w_0 : w.heap.size < w1.heap.size := by have h := hb1.size; (try simp at h); omega
          have hz1_w_1 : w.heap.size + 1 < w1.heap.size := by have h := hb1.size; (try simp at h); omega
          have hz1_w_2 : w.heap.size + 1 + 1 < w1.heap.size := by have h := hb1.size; (try simp at h); omega
          go_wp2
          refine wp_world (GMem w B1 B2 x y) (HM0.out.later hb1) ?_
          clear c0 c1 c2 f0 f1 f2 z0 z1 z2 hc1 hf1 HM0
          intro V HM
          have HMV := Lib.hid HM
          clear HM
          go_loopg [39] (x + y) (fun g _ wr => ∃ x1 y1 : Nat, GIn G x1 y1 g ∧ GMem w B1 B2 x1 y1 wr)
          case atStart => exact ⟨x, y, HS.out, HMV.out⟩
          case round =>
            obtain ⟨x1, y1, HI, HM⟩ := hrel
            clear HMV
            obtain ⟨n1, rfl⟩ : ∃ n1, n1 = gk := ⟨_, rfl⟩
            obtain ⟨wo, rfl⟩ : ∃ wo : World, wo = wr := ⟨_, rfl⟩
            have HI' := Lib.hid HI
            clear HI
            have HM0 := Lib.hid HM
            obtain ⟨c0, c1, c2, f0, f1, f2, z0, z1, z2, k1, k2, k3, hbb⟩ := HM
            by_cases hx0 : x1 = 0
            · subst hx0
              have hy := HI'.out.done HG.out
              subst hy
              go_wp2_with fail
              ((with_reducible refine (zero_yes _).mono ?_); rintro e w1 ⟨rfl, hb1⟩)
              obtain ⟨hc1, hf1⟩ := bcell hb1
              have hz1_w_0 : w.heap.size < w1.heap.size := by have h := hb1.size; (try simp at h); omega
              have hz1_w_1 : w.heap.size + 1 < w1.heap.size := by have h := hb1.size; (try simp at h); omega
              have hz1_w_2 : w.heap.size + 1 + 1 < w1.heap.size := by have h := hb1.size; (try simp at h); omega
              go_wp2
              have MM := Lib.hid (HM0.out.later hb1)
              clear c0 c1 c2 f0 f1 f2 z0 z1 z2 hc1 hf1 HM0
              have PL := Lib.hid (show pwx c y1 < 2 ^ 256 by rw [HD.out]; exact gcd_lt A0.out HA.out)
              go_loopw [8] (fun i wr => ∃ k : Nat, k ≤ c ∧ i = .int .i64 k ∧ GMem w B1 B2 0 (pwx k y1) wr) (fun i _ => c - (intOf i).toNat)
              case atStart => exact ⟨0, by omega, by rfl, by rw [pwx_zero]; exact MM.out⟩
              case round =>
                obtain ⟨k, hk, rfl, HM⟩ := hrel
                clear MM
                have HM0 := Lib.hid HM
                obtain ⟨c0, c1, c2, f0, f1, f2, z0, z1, z2, k1, k2, k3, hbb⟩ := HM
                by_cases hlt : k < c
                · obtain ⟨p1, p2⟩ := pwx_next (x := y1) hlt PL.out
                  have K6 := rplus_any (pwx k y1) (pwx k y1) p1 p1
                  rw [sm_twice, p2] at K6
                  have H6 := Lib.hid K6
                  clear p1 p2 K6
                  go_wp2_with fail
                  ((with_reducible refine (H6.out _).mono ?_); rintro e w6 ⟨rfl, hb6⟩)
                  obtain ⟨hc6, hf6⟩ := bcell hb6
                  have hz6_w_0 : w.heap.size < w6.heap.size := by have h := hb6.size; (try simp at h); omega
                  have hz6_w_1 : w.heap.size + 1 < w6.heap.size := by have h := hb6.size; (try simp at h); omega
                  have hz6_w_2 : w.heap.size + 1 + 1 < w6.heap.size := by have h := hb6.size; (try simp at h); omega
                  have hz6a := Nat.lt_of_lt_of_le z0 hb6.size
                  have hz6b := Nat.lt_of_lt_of_le z1 hb6.size
                  have hz6c := Nat.lt_of_lt_of_le z2 hb6.size
                  have DM := Lib.hid ((HM0.out.later hb6).setY (y' := pwx (k + 1) y1))
                  go_wp2
                  go_roundw
                  case rel => exact ⟨k + 1, by omega, by go_num, DM.out⟩
                  case measure => simp [intOf]; omega
                · obtain rfl : k = c := by omega
                  have K6 := join_any false (pwx k y1) PL.out
                  have H6 := Lib.hid K6
                  clear K6
                  go_wp2_with fail
                  ((with_reducible refine (H6.out _).mono ?_); rintro e w6 ⟨rfl, hb6⟩)
                  obtain ⟨hc6, hf6⟩ := bcell hb6
                  have hz6_w_0 : w.heap.size < w6.heap.size := by have h := hb6.size; (try simp at h); omega
                  have hz6_w_1 : w.heap.size + 1 < w6.heap.size := by have h := hb6.size; (try simp at h); omega
                  have hz6_w_2 : w.heap.size + 1 + 1 < w6.heap.size := by have h := hb6.size; (try simp at h); omega
                  have hz6a := Nat.lt_of_lt_of_le z0 hb6.size
                  have hz6b := Nat.lt_of_lt_of_le z1 hb6.size
                  have hz6c := Nat.lt_of_lt_of_le z2 hb6.size
                  go_wp2_with ((with_reducible show bodyPost _ _ _ _ _ _); refine bodyPost_ret (by simp [results, Tryd.results19, go_sem, hc6, hf6, hz6_w_0, hz6_w_1, hz6_w_2, c0, f0, z0, hz6a]; try rfl) rfl ?_; exact ⟨by rw [HD.out], by (repeat' (first | (with_reducible exact Below.refl _ _) | (with_reducible assumption) | (with_reducible refine below_alloc ?_ _) | (with_reducible refine Below.drew ?_) | (with_reducible refine Below.setCell ?_ ?_ _) | (with_reducible refine below_after ?_ (by assumption)) | go_size))⟩)
            · have Z1 := Lib.hid (zero_no HI'.out.lt.1 hx0)
              have HI2 := Lib.hid (HI'.out.mid hx0)
              clear hx0
              go_wp2_with fail
              ((with_reducible refine (Z1.out _).mono ?_); rintro e w1 ⟨rfl, hb1⟩)
              obtain ⟨hc1, hf1⟩ := bcell hb1
              have hz1_w_0 : w.heap.size < w1.heap.size := by have h := hb1.size; (try simp at h); omega
              have hz1_w_1 : w.heap.size + 1 < w1.heap.size := by have h := hb1.size; (try simp at h); omega
              have hz1_w_2 : w.heap.size + 1 + 1 < w1.heap.size := by have h := hb1.size; (try simp at h); omega
              go_wp2
              have MM := Lib.hid (HM0.out.later hb1)
              clear c0 c1 c2 f0 f1 f2 z0 z1 z2 hc1 hf1 HM0
              go_loopg [42] x1 (fun g _ wr => GMid G g y1 n1 ∧ GMem w B1 B2 g y1 wr)
              case atStart => exact ⟨HI2.out, MM.out⟩
              case round =>
                obtain ⟨HX, HM⟩ := hrel
                clear MM HI2 HI'
                obtain ⟨x2, rfl⟩ : ∃ x2, x2 = gk := ⟨_, rfl⟩
                obtain ⟨wp, rfl⟩ : ∃ wp : World, wp = wr := ⟨_, rfl⟩
                have HX' := Lib.hid HX
                have SX := Lib.hid (small2 x2 HX.lt.1)
                clear HX
                have HM0 := Lib.hid HM
                obtain ⟨c0, c1, c2, f0, f1, f2, z0, z1, z2, k1, k2, k3, hbb⟩ := HM
                by_cases hx : x2 % 2 = 0
                · have EX := Lib.hid (even_yes hx)
                  have NX := Lib.hid (HX'.out.halfX hx)
                  clear hx
                  go_wp2_with fail
                  ((with_reducible refine (EX.out _).mono ?_); rintro e w2 ⟨rfl, hb2⟩)
                  obtain ⟨hc2, hf2⟩ := bcell hb2
                  have hz2_w_0 : w.heap.size < w2.heap.size := by have h := hb2.size; (try simp at h); omega
                  have hz2_w_1 : w.heap.size + 1 < w2.heap.size := by have h := hb2.size; (try simp at h); omega
                  have hz2_w_2 : w.heap.size + 1 + 1 < w2.heap.size := by have h := hb2.size; (try simp at h); omega
                  have hz2a := Nat.lt_of_lt_of_le z0 hb2.size
                  have hz2b := Nat.lt_of_lt_of_le z1 hb2.size
                  have hz2c := Nat.lt_of_lt_of_le z2 hb2.size
                  go_wp2_with fail
                  ((with_reducible refine (SX.out _).mono ?_); rintro e w3 ⟨rfl, hb3⟩)
                  obtain ⟨hc3, hf3⟩ := bcell hb3
                  have hz3_w_0 : w.heap.size < w3.heap.size := by have h := hb3.size; (try simp at h); omega
                  have hz3_w_1 : w.heap.size + 1 < w3.heap.size := by have h := hb3.size; (try simp at h); omega
                  have hz3_w_2 : w.heap.size + 1 + 1 < w3.heap.size := by have h := hb3.size; (try simp at h); omega
                  have hz3a := Nat.lt_of_lt_of_le hz2a hb3.size
                  have hz3b := Nat.lt_of_lt_of_le hz2b hb3.size
                  have hz3c := Nat.lt_of_lt_of_le hz2c hb3.size
                  have M3 := Lib.hid (((HM0.out.later hb2).later hb3).setX (x' := x2 / 2))
                  go_wp2
                  go_roundg (x2 / 2)
                  case measure => exact NX.out.2
                  case rel => exact ⟨NX.out.1, M3.out⟩
                · have EX := Lib.hid (even_no hx)
                  have HXO := Lib.hid (show x2 % 2 = 1 by omega)
                  clear hx
                  go_wp2_with fail
                  ((with_reducible refine (EX.out _).mono ?_); rintro e w2 ⟨rfl, hb2⟩)
                  obtain ⟨hc2, hf2⟩ := bcell hb2
                  have hz2_w_0 : w.heap.size < w2.heap.size := by have h := hb2.size; (try simp at h); omega
                  have hz2_w_1 : w.heap.size + 1 < w2.heap.size := by have h := hb2.size; (try simp at h); omega
                  have hz2_w_2 : w.heap.size + 1 + 1 < w2.heap.size := by have h := hb2.size; (try simp at h); omega
                  go_wp2
                  have MM := Lib.hid (HM0.out.later hb2)
                  clear c0 c1 c2 f0 f1 f2 z0 z1 z2 hc2 hf2 HM0
                  go_loopg [49] y1 (fun g _ wr => GMid G x2 g n1 ∧ GMem w B1 B2 x2 g wr)
                  case atStart => exact ⟨HX'.out, MM.out⟩
                  case round =>
                    obtain ⟨HY, HM⟩ := hrel
                    clear MM HX'
                    obtain ⟨y2, rfl⟩ : ∃ y2, y2 = gk := ⟨_, rfl⟩
                    have HY' := Lib.hid HY
                    have SY := Lib.hid (small2 y2 HY.lt.2.1)
                    clear HY
                    have HM0 := Lib.hid HM
                    obtain ⟨c0, c1, c2, f0, f1, f2, z0, z1, z2, k1, k2, k3, hbb⟩ := HM
                    by_cases hy : y2 % 2 = 0
                    · have EY := Lib.hid (even_yes hy)
                      have NY := Lib.hid (HY'.out.halfY hy)
                      clear hy
                      go_wp2_with fail
                      ((with_reducible refine (EY.out _).mono ?_); rintro e w3 ⟨rfl, hb3⟩)
                      obtain ⟨hc3, hf3⟩ := bcell hb3
                      have hz3_w_0 : w.heap.size < w3.heap.size := by have h := hb3.size; (try simp at h); omega
                      have hz3_w_1 : w.heap.size + 1 < w3.heap.size := by have h := hb3.size; (try simp at h); omega
                      have hz3_w_2 : w.heap.size + 1 + 1 < w3.heap.size := by have h := hb3.size; (try simp at h); omega
                      have hz3a := Nat.lt_of_lt_of_le z0 hb3.size
                      have hz3b := Nat.lt_of_lt_of_le z1 hb3.size
                      have hz3c := Nat.lt_of_lt_of_le z2 hb3.size
                      go_wp2_with fail
                      ((with_reducible refine (SY.out _).mono ?_); rintro e w4 ⟨rfl, hb4⟩)
                      obtain ⟨hc4, hf4⟩ := bcell hb4
                      have hz4_w_0 : w.heap.size < w4.heap.size := by have h := hb4.size; (try simp at h); omega
                      have hz4_w_1 : w.heap.size + 1 < w4.heap.size := by have h := hb4.size; (try simp at h); omega
                      have hz4_w_2 : w.heap.size + 1 + 1 < w4.heap.size := by have h := hb4.size; (try simp at h); omega
                      have hz4a := Nat.lt_of_lt_of_le hz3a hb4.size
                      have hz4b := Nat.lt_of_lt_of_le hz3b hb4.size
                      have hz4c := Nat.lt_of_lt_of_le hz3c hb4.size
                      have M3 := Lib.hid (((HM0.out.later hb3).later hb4).setY (y' := y2 / 2))
                      go_wp2
                      go_roundg (y2 / 2)
                      case measure => exact NY.out.2
                      case rel => exact ⟨NY.out.1, M3.out⟩
                    · have EY := Lib.hid (even_no hy)
                      have HODD := Lib.hid (show y2 % 2 = 1 by omega)
                      have C1 := rcompare_any x2 y2 HY'.out.lt.1 HY'.out.lt.2.1
                      have M1 := Lib.hid (rminus_any x2 y2 (by have := HY'.out.lt; omega))
                      have M2 := Lib.hid (rminus_any y2 x2 (by have := HY'.out.lt; omega))
                      clear hy
                      by_cases hlt : x2 < y2
                      · rw [show cmpN x2 y2 = -1 by unfold cmpN; rw [if_pos hlt]] at C1
                        have C := Lib.hid C1
                        have HLT := Lib.hid hlt
                        have NN := Lib.hid (HY'.out.swap.next (Nat.le_of_lt hlt) HXO.out)
                        have m2 := M2.out
                        rw [df_eq HY'.out.lt.2.1 (Nat.le_of_lt hlt)] at m2
                        have MM2 := Lib.hid m2
                        clear C1 hlt m2 M1 M2
                        go_wp2_with fail
                        ((with_reducible refine (EY.out _).mono ?_); rintro e w3 ⟨rfl, hb3⟩)
                        obtain ⟨hc3, hf3⟩ := bcell hb3
                        have hz3_w_0 : w.heap.size < w3.heap.size := by have h := hb3.size; (try simp at h); omega
                        have hz3_w_1 : w.heap.size + 1 < w3.heap.size := by have h := hb3.size; (try simp at h); omega
                        have hz3_w_2 : w.heap.size + 1 + 1 < w3.heap.size := by have h := hb3.size; (try simp at h); omega
                        have hz3a := Nat.lt_of_lt_of_le z0 hb3.size
                        have hz3b := Nat.lt_of_lt_of_le z1 hb3.size
                        have hz3c := Nat.lt_of_lt_of_le z2 hb3.size
                        go_wp2_with fail
                        ((with_reducible refine (C.out _).mono ?_); rintro e w4 ⟨rfl, hb4⟩)
                        obtain ⟨hc4, hf4⟩ := bcell hb4
                        have hz4_w_0 : w.heap.size < w4.heap.size := by have h := hb4.size; (try simp at h); omega
                        have hz4_w_1 : w.heap.size + 1 < w4.heap.size := by have h := hb4.size; (try simp at h); omega
                        have hz4_w_2 : w.heap.size + 1 + 1 < w4.heap.size := by have h := hb4.size; (try simp at h); omega
                        have hz4a := Nat.lt_of_lt_of_le hz3a hb4.size
                        have hz4b := Nat.lt_of_lt_of_le hz3b hb4.size
                        have hz4c := Nat.lt_of_lt_of_le hz3c hb4.size
                        go_upto_region 18 with (fail)
                        refine wp_world (GMem w B1 B2 y2 x2) ((((HM0.out.later hb3).later hb4).setX).setY) ?_
                        clear c0 c1 c2 f0 f1 f2 z0 z1 z2 hc3 hf3 hc4 hf4 HM0
                        intro V HM
                        have HM0 := Lib.hid HM
                        obtain ⟨c0, c1, c2, f0, f1, f2, z0, z1, z2, k1, k2, k3, hbb⟩ := HM
                        go_wp2_with fail
                        ((with_reducible refine (MM2.out _).mono ?_); rintro e w5 ⟨rfl, hb5⟩)
                        obtain ⟨hc5, hf5⟩ := bcell hb5
                        have hz5_w_0 : w.heap.size < w5.heap.size := by have h := hb5.size; (try simp at h); omega
                        have hz5_w_1 : w.heap.size + 1 < w5.heap.size := by have h := hb5.size; (try simp at h); omega
                        have hz5_w_2 : w.heap.size + 1 + 1 < w5.heap.size := by have h := hb5.size; (try simp at h); omega
                        have hz5a := Nat.lt_of_lt_of_le z0 hb5.size
                        have hz5b := Nat.lt_of_lt_of_le z1 hb5.size
                        have hz5c := Nat.lt_of_lt_of_le z2 hb5.size
                        have M5 := Lib.hid ((HM0.out.later hb5).setX (x' := y2 - x2))
                        go_wp2
                        go_roundg (y2 - x2 + x2)
                        case measure => exact NN.out.2
                        case rel => exact ⟨y2 - x2, x2, NN.out.1, M5.out⟩
                      · have hc : cmpN x2 y2 = 0 ∨ cmpN x2 y2 = 1 := by unfold cmpN; rw [if_neg hlt]; split <;> simp
                        have NN := Lib.hid (HY'.out.next (by omega) HODD.out)
                        have m1 := M1.out
                        rw [df_eq HY'.out.lt.1 (by omega)] at m1
                        have MM1 := Lib.hid m1
                        clear hlt m1 M1 M2
                        rcases hc with hc | hc
                        all_goals
                          rw [hc] at C1
                          have C := Lib.hid C1
                          clear C1 hc
                          go_wp2_with fail
                          ((with_reducible refine (EY.out _).mono ?_); rintro e w3 ⟨rfl, hb3⟩)
                          obtain ⟨hc3, hf3⟩ := bcell hb3
                          have hz3_w_0 : w.heap.size < w3.heap.size := by have h := hb3.size; (try simp at h); omega
                          have hz3_w_1 : w.heap.size + 1 < w3.heap.size := by have h := hb3.size; (try simp at h); omega
                          have hz3_w_2 : w.heap.size + 1 + 1 < w3.heap.size := by have h := hb3.size; (try simp at h); omega
                          have hz3a := Nat.lt_of_lt_of_le z0 hb3.size
                          have hz3b := Nat.lt_of_lt_of_le z1 hb3.size
                          have hz3c := Nat.lt_of_lt_of_le z2 hb3.size
                          go_wp2_with fail
                          ((with_reducible refine (C.out _).mono ?_); rintro e w4 ⟨rfl, hb4⟩)
                          obtain ⟨hc4, hf4⟩ := bcell hb4
                          have hz4_w_0 : w.heap.size < w4.heap.size := by have h := hb4.size; (try simp at h); omega
                          have hz4_w_1 : w.heap.size + 1 < w4.heap.size := by have h := hb4.size; (try simp at h); omega
                          have hz4_w_2 : w.heap.size + 1 + 1 < w4.heap.size := by have h := hb4.size; (try simp at h); omega
                          have hz4a := Nat.lt_of_lt_of_le hz3a hb4.size
                          have hz4b := Nat.lt_of_lt_of_le hz3b hb4.size
                          have hz4c := Nat.lt_of_lt_of_le hz3c hb4.size
                          go_wp2_with fail
                          ((with_reducible refine (MM1.out _).mono ?_); rintro e w5 ⟨rfl, hb5⟩)
                          obtain ⟨hc5, hf5⟩ := bcell hb5
                          have hz5_w_0 : w.heap.size < w5.heap.size := by have h := hb5.size; (try simp at h); omega
                          have hz5_w_1 : w.heap.size + 1 < w5.heap.size := by have h := hb5.size; (try simp at h); omega
                          have hz5_w_2 : w.heap.size + 1 + 1 < w5.heap.size := by have h := hb5.size; (try simp at h); omega
                          have hz5a := Nat.lt_of_lt_of_le hz4a hb5.size
                          have hz5b := Nat.lt_of_lt_of_le hz4b hb5.size
                          have hz5c := Nat.lt_of_lt_of_le hz4c hb5.size
                          have M5 := Lib.hid ((((HM0.out.later hb3).later hb4).later hb5).setX (x' := x2 - y2))
                          go_wp2
                          go_roundg (x2 - y2 + y2)
                          case measure => exact NN.out.2
                          case rel => exact ⟨x2 - y2, y2, NN.out.1, M5.out⟩
end Go.Proofs.YtnbdccobfmlhbaaDoor
