/-
  What Gcd of package wide returns, for all inputs: the greatest common divisor.
  (Written by wip/pack.py out of XFWideH.)
-/
import Derived.Test.YthikaimhmpenhaaDoorK05
import Derived.Test.YthikaimhmpenhaaDoorK09

namespace Go.Proofs.YthikaimhmpenhaaDoor
set_option linter.all false
open Go Go.RowKit Wd
set_option maxRecDepth 100000
theorem gcd_none (s t : Bool) (a b : Nat) (ha : a < 2 ^ 256) (hb : b < 2 ^ 256) (h : a = 0 ∨ b = 0) (w : World) :
    Calls Tryd.prog 72 #[(.agg #[.bool (s), .int .u64 (wd (a) 0), .int .u64 (wd (a) 1), .int .u64 (wd (a) 2), .int .u64 (wd (a) 3)]), (.agg #[.bool (t), .int .u64 (wd (b) 0), .int .u64 (wd (b) 1), .int .u64 (wd (b) 2), .int .u64 (wd (b) 3)])] w fun e w' => e = .returned (.agg #[.bool (zs (val false (Nat.gcd a b))), .int .u64 (wd (Int.natAbs (val false (Nat.gcd a b))) 0), .int .u64 (wd (Int.natAbs (val false (Nat.gcd a b))) 1), .int .u64 (wd (Int.natAbs (val false (Nat.gcd a b))) 2), .int .u64 (wd (Int.natAbs (val false (Nat.gcd a b))) 3)]) ∧ Below w.heap.size w w' := by
  have hs : sm a b = Nat.gcd a b := by
    rcases h with rfl | rfl
    · rw [sm_eq (by omega)]; simp
    · rw [sm_eq (by omega)]; simp
  have ha0 := eq_mag0 a ha
  have hb0 := eq_mag0 b hb
  have hc : eqN a 0 = true ∨ (eqN a 0 = false ∧ eqN b 0 = true) := by
    unfold eqN; by_cases h1 : a = 0
    · exact Or.inl (by simp [h1])
    · exact Or.inr ⟨by simp [h1], by simp; omega⟩
  have H1 := plus_any a b
  rw [hs] at H1
  have K1 := Lib.hid H1
  have H2 := Lib.hid (signed_any false (Nat.gcd a b) (by rw [← hs]; exact sm_lt a b))
  clear ha hb h hs H1
  generalize Nat.gcd a b = g at *
  rcases hc with hc | ⟨hc, hd⟩
  · rw [hc] at ha0
    clear hc
    go_enter Tryd.func72, Tryd.ntmps72
    go_wp2_with fail
    ((with_reducible refine (K1.out _).mono ?_); rintro e w1 ⟨rfl, hb1⟩)
    obtain ⟨hc1, hf1⟩ := bcell hb1
    have hz1_w_0 : w.heap.size < w1.heap.size := by have h := hb1.size; (try simp at h); omega
    have hz1_w_1 : w.heap.size + 1 < w1.heap.size := by have h := hb1.size; (try simp at h); omega
    have hz1_w_2 : w.heap.size + 1 + 1 < w1.heap.size := by have h := hb1.size; (try simp at h); omega
    go_wp2_with fail
    ((with_reducible refine (H2.out _).mono ?_); rintro e w2 ⟨rfl, hb2⟩)
    obtain ⟨hc2, hf2⟩ := bcell hb2
    have hz2_w_0 : w.heap.size < w2.heap.size := by have h := hb2.size; (try simp at h); omega
    have hz2_w_1 : w.heap.size + 1 < w2.heap.size := by have h := hb2.size; (try simp at h); omega
    have hz2_w_2 : w.heap.size + 1 + 1 < w2.heap.size := by have h := hb2.size; (try simp at h); omega
    go_wp2_with ((with_reducible show bodyPost _ _ _ _ _ _); refine bodyPost_ret (by simp [results, Tryd.results72, go_sem, hc1, hf1, hz1_w_0, hz1_w_1, hz1_w_2, hc2, hf2, hz2_w_0, hz2_w_1, hz2_w_2]; try rfl) rfl ?_; exact ⟨rfl, by (repeat' first | (with_reducible first | exact Bq0 | assumption | refine Bq1 ?_ | refine Bq2 ?_ | refine Bq3 ?_ ?_ | refine Bq4 ?_ (by assumption)) | go_size)⟩)
  · rw [hc] at ha0
    rw [hd] at hb0
    clear hc hd
    go_enter Tryd.func72, Tryd.ntmps72
    go_wp2_with fail
    ((with_reducible refine (K1.out _).mono ?_); rintro e w1 ⟨rfl, hb1⟩)
    obtain ⟨hc1, hf1⟩ := bcell hb1
    have hz1_w_0 : w.heap.size < w1.heap.size := by have h := hb1.size; (try simp at h); omega
    have hz1_w_1 : w.heap.size + 1 < w1.heap.size := by have h := hb1.size; (try simp at h); omega
    have hz1_w_2 : w.heap.size + 1 + 1 < w1.heap.size := by have h := hb1.size; (try simp at h); omega
    go_wp2_with fail
    ((with_reducible refine (H2.out _).mono ?_); rintro e w2 ⟨rfl, hb2⟩)
    obtain ⟨hc2, hf2⟩ := bcell hb2
    have hz2_w_0 : w.heap.size < w2.heap.size := by have h := hb2.size; (try simp at h); omega
    have hz2_w_1 : w.heap.size + 1 < w2.heap.size := by have h := hb2.size; (try simp at h); omega
    have hz2_w_2 : w.heap.size + 1 + 1 < w2.heap.size := by have h := hb2.size; (try simp at h); omega
    go_wp2_with ((with_reducible show bodyPost _ _ _ _ _ _); refine bodyPost_ret (by simp [results, Tryd.results72, go_sem, hc1, hf1, hz1_w_0, hz1_w_1, hz1_w_2, hc2, hf2, hz2_w_0, hz2_w_1, hz2_w_2]; try rfl) rfl ?_; exact ⟨rfl, by (repeat' first | (with_reducible first | exact Bq0 | assumption | refine Bq1 ?_ | refine Bq2 ?_ | refine Bq3 ?_ ?_ | refine Bq4 ?_ (by assumption)) | go_size)⟩)
def GcdMem (w : World) (B7 B9 x y : Nat) (wr : World) : Prop :=
  (∀ o, wr.cell? ⟨w.heap.size + 1 + 1, o, none⟩ = (#[.bool false, .int .u64 0, .int .u64 0, .int .u64 0, .int .u64 0] : Array Value)[o]?)
  ∧ (∀ o, wr.cell? ⟨B7, o, none⟩ = (#[.int .u64 (wd (x) 0), .int .u64 (wd (x) 1), .int .u64 (wd (x) 2), .int .u64 (wd (x) 3)] : Array Value)[o]?) ∧ (∀ o, wr.cell? ⟨B9, o, none⟩ = (#[.int .u64 (wd (y) 0), .int .u64 (wd (y) 1), .int .u64 (wd (y) 2), .int .u64 (wd (y) 3)] : Array Value)[o]?)
  ∧ (∀ o, wr.frozen? ⟨w.heap.size + 1 + 1, o, none⟩ = false) ∧ (∀ o, wr.frozen? ⟨B7, o, none⟩ = false) ∧ (∀ o, wr.frozen? ⟨B9, o, none⟩ = false)
  ∧ w.heap.size + 1 + 1 < wr.heap.size ∧ B7 < wr.heap.size ∧ B9 < wr.heap.size ∧ Below w.heap.size w wr
theorem GcdMem.later {w wr wx : World} {B7 B9 x y : Nat} (h : GcdMem w B7 B9 x y wr) (hb : Below wr.heap.size wr wx) : GcdMem w B7 B9 x y wx := by
  obtain ⟨c0, c1, c2, f0, f1, f2, z0, z1, z2, hB⟩ := h
  exact ⟨keep_cell hb z0 c0, keep_cell hb z1 c1, keep_cell hb z2 c2, keep_frozen hb z0 f0, keep_frozen hb z1 f1, keep_frozen hb z2 f2, keep_lt hb z0, keep_lt hb z1, keep_lt hb z2, below_after hB hb⟩
theorem GcdMem.setX {w wr : World} {B7 B9 x y x' : Nat} (hw : w.heap.size + 1 + 1 < B7) (hB : B7 < B9) (h : GcdMem w B7 B9 x y wr) :
    GcdMem w B7 B9 x' y ((((wr.setCell ⟨B7, 0, none⟩ (.int .u64 (wd x' 0))).setCell ⟨B7, 1, none⟩ (.int .u64 (wd x' 1))).setCell ⟨B7, 2, none⟩ (.int .u64 (wd x' 2))).setCell ⟨B7, 3, none⟩ (.int .u64 (wd x' 3))) := by
  obtain ⟨c0, c1, c2, f0, f1, f2, z0, z1, z2, hb⟩ := h
  refine ⟨set_far (by omega) (set_far (by omega) (set_far (by omega) (set_far (by omega) c0))), set_at (set_at (set_at (set_at c1))), set_far (by omega) (set_far (by omega) (set_far (by omega) (set_far (by omega) c2))), fun o => ?_, fun o => ?_, fun o => ?_, by simpa using z0, by simpa using z1, by simpa using z2, ?_⟩
  · simp only [World.frozen?_setCell]; exact f0 o
  · simp only [World.frozen?_setCell]; exact f1 o
  · simp only [World.frozen?_setCell]; exact f2 o
  · exact (((hb.setCell (by simp; omega) _).setCell (by simp; omega) _).setCell (by simp; omega) _).setCell (by simp; omega) _
theorem GcdMem.setY {w wr : World} {B7 B9 x y y' : Nat} (hw : w.heap.size + 1 + 1 < B7) (hB : B7 < B9) (h : GcdMem w B7 B9 x y wr) :
    GcdMem w B7 B9 x y' ((((wr.setCell ⟨B9, 0, none⟩ (.int .u64 (wd y' 0))).setCell ⟨B9, 1, none⟩ (.int .u64 (wd y' 1))).setCell ⟨B9, 2, none⟩ (.int .u64 (wd y' 2))).setCell ⟨B9, 3, none⟩ (.int .u64 (wd y' 3))) := by
  obtain ⟨c0, c1, c2, f0, f1, f2, z0, z1, z2, hb⟩ := h
  refine ⟨set_far (by omega) (set_far (by omega) (set_far (by omega) (set_far (by omega) c0))), set_far (by omega) (set_far (by omega) (set_far (by omega) (set_far (by omega) c1))), set_at (set_at (set_at (set_at c2))), fun o => ?_, fun o => ?_, fun o => ?_, by simpa using z0, by simpa using z1, by simpa using z2, ?_⟩
  · simp only [World.frozen?_setCell]; exact f0 o
  · simp only [World.frozen?_setCell]; exact f1 o
  · simp only [World.frozen?_setCell]; exact f2 o
  · exact (((hb.setCell (by simp; omega) _).setCell (by simp; omega) _).setCell (by simp; omega) _).setCell (by simp; omega) _
theorem GcdMem.alloc {w wr : World} {B7 B9 x y : Nat} (h : GcdMem w B7 B9 x y wr) (O : Obj) : GcdMem w B7 B9 x y (wr.alloc O) := h.later ((Below.refl _ _).alloc (Nat.le_refl _) O)
set_option maxHeartbeats 2000000 in
theorem gcd_some (s t : Bool) (a b : Nat) (ha : a < 2 ^ 256) (hb : b < 2 ^ 256) (ha0 : 0 < a) (hb0 : 0 < b) (w : World) (hT : Tab64 w) :
    Calls Tryd.prog 72 #[(.agg #[.bool (s), .int .u64 (wd (a) 0), .int .u64 (wd (a) 1), .int .u64 (wd (a) 2), .int .u64 (wd (a) 3)]), (.agg #[.bool (t), .int .u64 (wd (b) 0), .int .u64 (wd (b) 1), .int .u64 (wd (b) 2), .int .u64 (wd (b) 3)])] w fun e w' => e = .returned (.agg #[.bool (zs (val false (Nat.gcd a b))), .int .u64 (wd (Int.natAbs (val false (Nat.gcd a b))) 0), .int .u64 (wd (Int.natAbs (val false (Nat.gcd a b))) 1), .int .u64 (wd (Int.natAbs (val false (Nat.gcd a b))) 2), .int .u64 (wd (Int.natAbs (val false (Nat.gcd a b))) 3)]) ∧ Below w.heap.size w w' := by
  have h0 := eq_mag0 a ha
  have h1 := eq_mag0 b hb
  have e0 : eqN a 0 = false := by unfold eqN; simp; omega
  have e1 : eqN b 0 = false := by unfold eqN; simp; omega
  rw [e0] at h0
  rw [e1] at h1
  have HA := Lib.hid ha
  have HB := Lib.hid hb
  have HA0 := Lib.hid ha0
  have HB0 := Lib.hid hb0
  have HT := Lib.hid hT
  have H1 := Lib.hid (odd_any a ha0 ha)
  have H2 := Lib.hid (odd_any b hb0 hb)
  have H3 := Lib.hid (signed_any false (Nat.gcd a b) (gcd_lt ha0 ha))
  have n1 := (twos_spec ha0 ha).2.2
  have n2 := (twos_spec hb0 hb).2.2
  clear e0 e1 ha hb ha0 hb0 hT
  go_enter Tryd.func72, Tryd.ntmps72
  go_upto_region 4 with (fail)
  refine wp_world (fun x => (∀ o, x.cell? ⟨w.heap.size, o, none⟩ = (#[.bool (s), .int .u64 (wd (a) 0), .int .u64 (wd (a) 1), .int .u64 (wd (a) 2), .int .u64 (wd (a) 3)] : Array Value)[o]?) ∧ (∀ o, x.cell? ⟨w.heap.size + 1, o, none⟩ = (#[.bool (t), .int .u64 (wd (b) 0), .int .u64 (wd (b) 1), .int .u64 (wd (b) 2), .int .u64 (wd (b) 3)] : Array Value)[o]?) ∧ (∀ o, x.cell? ⟨w.heap.size + 1 + 1, o, none⟩ = (#[.bool false, .int .u64 0, .int .u64 0, .int .u64 0, .int .u64 0] : Array Value)[o]?) ∧ (∀ o, x.frozen? ⟨w.heap.size, o, none⟩ = false) ∧ (∀ o, x.frozen? ⟨w.heap.size + 1, o, none⟩ = false) ∧ (∀ o, x.frozen? ⟨w.heap.size + 1 + 1, o, none⟩ = false) ∧ w.heap.size < x.heap.size ∧ w.heap.size + 1 < x.heap.size ∧ w.heap.size + 1 + 1 < x.heap.size ∧ Below w.heap.size w x) (by (repeat' apply And.intro) <;> first | (intro o; simp [go_sem]; done) | ((repeat' first | (with_reducible first | exact Bq0 | assumption | refine Bq1 ?_ | refine Bq2 ?_ | refine Bq3 ?_ ?_ | refine Bq4 ?_ (by assumption)) | go_size); done) | omega | (simp [go_sem]; done) | (simp [go_sem]; omega)) ?_
  rintro A ⟨hAc0, hAc1, hAc2, hAf0, hAf1, hAf2, hAz0, hAz1, hAz2, hAb⟩
  go_wp2_with fail
  ((with_reducible refine (H1.out _ (HT.out.later (by (repeat' first | (with_reducible first | exact Bq0 | assumption | refine Bq1 ?_ | refine Bq2 ?_ | refine Bq3 ?_ ?_ | refine Bq4 ?_ (by assumption)) | go_size)))).mono ?_); rintro e w1 ⟨rfl, hb1⟩)
  have hk1 : Kp A.heap.size [] A w1 := (by (repeat first | (with_reducible first | assumption | exact Kq0 | refine Kq1 ?_ | refine Kq2 ?_) | ((with_reducible refine Kq3 ?_ ?_); focus first | (left; go_size; done) | (right; simp; done)) | (with_reducible apply Kp.later; assumption)))
  have h1c0 := fun o => (hk1.cell _ o hAz0 (by simp)).trans (hAc0 o)
  have h1f0 := fun o => (hk1.froz _ o hAz0).trans (hAf0 o)
  have h1z0 := Nat.lt_of_lt_of_le hAz0 hk1.size
  have h1c1 := fun o => (hk1.cell _ o hAz1 (by simp)).trans (hAc1 o)
  have h1f1 := fun o => (hk1.froz _ o hAz1).trans (hAf1 o)
  have h1z1 := Nat.lt_of_lt_of_le hAz1 hk1.size
  have h1c2 := fun o => (hk1.cell _ o hAz2 (by simp)).trans (hAc2 o)
  have h1f2 := fun o => (hk1.froz _ o hAz2).trans (hAf2 o)
  have h1z2 := Nat.lt_of_lt_of_le hAz2 hk1.size
  go_upto_region 5 with (fail)
  refine wp_world (fun x => (∀ o, x.cell? ⟨w.heap.size + 1, o, none⟩ = (#[.bool (t), .int .u64 (wd (b) 0), .int .u64 (wd (b) 1), .int .u64 (wd (b) 2), .int .u64 (wd (b) 3)] : Array Value)[o]?) ∧ (∀ o, x.cell? ⟨w.heap.size + 1 + 1, o, none⟩ = (#[.bool false, .int .u64 0, .int .u64 0, .int .u64 0, .int .u64 0] : Array Value)[o]?) ∧ (∀ o, x.cell? ⟨w1.heap.size, o, none⟩ = (#[.int .u64 (wd (oddP a) 0), .int .u64 (wd (oddP a) 1), .int .u64 (wd (oddP a) 2), .int .u64 (wd (oddP a) 3)] : Array Value)[o]?) ∧ (∀ o, x.frozen? ⟨w.heap.size + 1, o, none⟩ = false) ∧ (∀ o, x.frozen? ⟨w.heap.size + 1 + 1, o, none⟩ = false) ∧ (∀ o, x.frozen? ⟨w1.heap.size, o, none⟩ = false) ∧ w.heap.size + 1 < x.heap.size ∧ w.heap.size + 1 + 1 < x.heap.size ∧ w1.heap.size < x.heap.size ∧ Below w.heap.size w x) (by (repeat' apply And.intro) <;> first | (intro o; simp [go_sem, h1c0, h1f0, h1z0, h1c1, h1f1, h1z1, h1c2, h1f2, h1z2]; done) | ((repeat' first | (with_reducible first | exact Bq0 | assumption | refine Bq1 ?_ | refine Bq2 ?_ | refine Bq3 ?_ ?_ | refine Bq4 ?_ (by assumption)) | go_size); done) | omega | (simp [go_sem, h1c0, h1f0, h1z0, h1c1, h1f1, h1z1, h1c2, h1f2, h1z2]; done) | (simp [go_sem, h1c0, h1f0, h1z0, h1c1, h1f1, h1z1, h1c2, h1f2, h1z2]; omega)) ?_
  rintro B ⟨hBc0, hBc1, hBc2, hBf0, hBf1, hBf2, hBz0, hBz1, hBz2, hBb⟩
  go_wp2_with fail
  ((with_reducible refine (H2.out _ (HT.out.later (by (repeat' first | (with_reducible first | exact Bq0 | assumption | refine Bq1 ?_ | refine Bq2 ?_ | refine Bq3 ?_ ?_ | refine Bq4 ?_ (by assumption)) | go_size)))).mono ?_); rintro e w2 ⟨rfl, hb2⟩)
  have hk2 : Kp B.heap.size [] B w2 := (by (repeat first | (with_reducible first | assumption | exact Kq0 | refine Kq1 ?_ | refine Kq2 ?_) | ((with_reducible refine Kq3 ?_ ?_); focus first | (left; go_size; done) | (right; simp; done)) | (with_reducible apply Kp.later; assumption)))
  have h2c0 := fun o => (hk2.cell _ o hBz0 (by simp)).trans (hBc0 o)
  have h2f0 := fun o => (hk2.froz _ o hBz0).trans (hBf0 o)
  have h2z0 := Nat.lt_of_lt_of_le hBz0 hk2.size
  have h2c1 := fun o => (hk2.cell _ o hBz1 (by simp)).trans (hBc1 o)
  have h2f1 := fun o => (hk2.froz _ o hBz1).trans (hBf1 o)
  have h2z1 := Nat.lt_of_lt_of_le hBz1 hk2.size
  have h2c2 := fun o => (hk2.cell _ o hBz2 (by simp)).trans (hBc2 o)
  have h2f2 := fun o => (hk2.froz _ o hBz2).trans (hBf2 o)
  have h2z2 := Nat.lt_of_lt_of_le hBz2 hk2.size
  go_wp2_with fail
  have hw1 : w.heap.size + 1 + 1 < w1.heap.size := h1z2
  have hw2 : w1.heap.size < w2.heap.size := h2z2
  have M0 : GcdMem w w1.heap.size w2.heap.size (oddP a) (oddP b) (w2.alloc (Obj.cells #[.int .u64 (wd (oddP b) 0), .int .u64 (wd (oddP b) 1), .int .u64 (wd (oddP b) 2), .int .u64 (wd (oddP b) 3)] 35)) :=
    ⟨fun o => by simp [go_sem, h2c1, h2z1], fun o => by simp [go_sem, h2c2, h2z2], fun o => by simp [go_sem], fun o => by simp [go_sem, h2f1, h2z1], fun o => by simp [go_sem, h2f2, h2z2], fun o => by simp [go_sem], by simp; omega, by simp; omega, by simp, by (repeat' first | (with_reducible first | exact Bq0 | assumption | refine Bq1 ?_ | refine Bq2 ?_ | refine Bq3 ?_ ?_ | refine Bq4 ?_ (by assumption)) | go_size)⟩
  clear h1c0 h1c1 h1c2 h1f0 h1f1 h1f2 h1z0 h1z1 h1z2 h2c0 h2c1 h2c2 h2f0 h2f1 h2f2 h2z0 h2z1 h2z2 hAc0 hAc1 hAc2 hAf0 hAf1 hAf2 hAz0 hAz1 hAz2 hBc0 hBc1 hBc2 hBf0 hBf1 hBf2 hBz0 hBz1 hBz2
  go_loopg [12] (oddP a + oddP b) (fun g _ wr => ∃ x y, GcdIn a b x y g ∧ GcdMem w w1.heap.size w2.heap.size x y wr)
  case atStart => exact ⟨_, _, GcdIn.start HA0.out HA.out HB0.out HB.out, M0⟩
  case round =>
    clear M0
    obtain ⟨x, y, HI, HM⟩ := hrel
    have hq := eq_mag x y HI.lt.1 HI.lt.2
    have HM0 := Lib.hid HM
    obtain ⟨c0, c1, c2, f0, f1, f2, z0, z1, z2, hb⟩ := HM
    by_cases hxy : x = y
    · subst hxy
      have e1 : eqN x x = true := by unfold eqN; simp
      rw [e1] at hq
      have P1 := HI.pwx HA0.out HA.out HB0.out HB.out
      have P2 : pwx (min (twos a) (twos b)) x < 2 ^ 256 := by rw [P1]; exact gcd_lt HA0.out HA.out
      have PP1 := Lib.hid P1
      have PP2 := Lib.hid P2
      have hlx := Lib.hid HI.lt.1
      clear e1 P1 P2 HI
      have g1 : min (twos a : Int) (twos b) = ((min (twos a) (twos b) : Nat) : Int) := by omega
      have g2 : min (twos a) (twos b) < 256 := by omega
      generalize min (twos a) (twos b) = n at *
      go_wp2
      go_loopw [68] (fun i wr => ∃ k : Nat, k ≤ n ∧ i = .int .i64 k ∧ GcdMem w w1.heap.size w2.heap.size (pwx k x) x wr) (fun i _ => n - (intOf i).toNat)
      case atStart => exact ⟨0, by omega, by rfl, by rw [pwx_zero]; exact HM0.out⟩
      case round =>
        obtain ⟨k, hk, rfl, HN⟩ := hrel
        clear c0 c1 c2 f0 f1 f2 z0 z1 z2 hb
        have HN0 := Lib.hid HN
        obtain ⟨c0, c1, c2, f0, f1, f2, z0, z1, z2, hb⟩ := HN
        by_cases hlt : k < n
        · obtain ⟨p1, p2⟩ := pwx_next (x := x) hlt PP2.out
          have K6 := twice_any (pwx k x) 0 p1 (by omega)
          rw [p2, show ((0 : Nat) : Int) = 0 from rfl] at K6
          have H6 := Lib.hid K6
          clear p1 p2 K6
          go_wp2_with fail
          ((with_reducible refine (H6.out _).mono ?_); rintro e w6 ⟨rfl, hb6⟩)
          obtain ⟨hc6, hf6⟩ := bcell hb6
          have hz6_w_0 : w.heap.size < w6.heap.size := by have h := hb6.size; (try simp at h); omega
          have hz6_w_1 : w.heap.size + 1 < w6.heap.size := by have h := hb6.size; (try simp at h); omega
          have hz6_w_2 : w.heap.size + 1 + 1 < w6.heap.size := by have h := hb6.size; (try simp at h); omega
          have hz6_w1_0 : w1.heap.size < w6.heap.size := by have h := hb6.size; (try simp at h); omega
          have hz6_w2_0 : w2.heap.size < w6.heap.size := by have h := hb6.size; (try simp at h); omega
          have DM := Lib.hid ((HN0.out.later hb6).setX (x' := pwx (k + 1) x) hw1 hw2)
          go_wp2
          go_roundw
          case rel => exact ⟨k + 1, by omega, by go_num, DM.out⟩
          case measure => simp [intOf]; omega
        · obtain rfl : k = n := by omega
          have H6 := H3.out
          rw [← PP1.out] at H6
          have K6 := Lib.hid H6
          clear H6
          go_wp2_with fail
          ((with_reducible refine (K6.out _).mono ?_); rintro e w6 ⟨rfl, hb6⟩)
          obtain ⟨hc6, hf6⟩ := bcell hb6
          have hz6_w_0 : w.heap.size < w6.heap.size := by have h := hb6.size; (try simp at h); omega
          have hz6_w_1 : w.heap.size + 1 < w6.heap.size := by have h := hb6.size; (try simp at h); omega
          have hz6_w_2 : w.heap.size + 1 + 1 < w6.heap.size := by have h := hb6.size; (try simp at h); omega
          have hz6_w1_0 : w1.heap.size < w6.heap.size := by have h := hb6.size; (try simp at h); omega
          have hz6_w2_0 : w2.heap.size < w6.heap.size := by have h := hb6.size; (try simp at h); omega
          go_wp2_with ((with_reducible show bodyPost _ _ _ _ _ _); refine bodyPost_ret (by simp [results, Tryd.results72, go_sem, hc6, hf6, hz6_w_0, hz6_w_1, hz6_w_2, hz6_w1_0, hz6_w2_0, c0, f0, z0]; try rfl) rfl ?_; exact ⟨by rw [← PP1.out], by (repeat' first | (with_reducible first | exact Bq0 | assumption | refine Bq1 ?_ | refine Bq2 ?_ | refine Bq3 ?_ ?_ | refine Bq4 ?_ (by assumption)) | go_size)⟩)
    · have e1 : eqN x y = false := by unfold eqN; simpa using hxy
      rw [e1] at hq
      have K5 := compare_any x y HI.lt.1 HI.lt.2
      rcases Nat.lt_or_gt_of_ne hxy with hl0 | hl0
      · have e2 : cmpN x y = -1 := by unfold cmpN; rw [if_pos hl0]
        rw [e2] at K5
        have H5 := Lib.hid K5
        have hl := Lib.hid hl0
        have HI' := Lib.hid HI.swap
        clear e1 e2 K5 hxy hl0 HI
        go_wp2_with fail
        ((with_reducible refine (H5.out _).mono ?_); rintro e w5 ⟨rfl, hb5⟩)
        obtain ⟨hc5, hf5⟩ := bcell hb5
        have hz5_w_0 : w.heap.size < w5.heap.size := by have h := hb5.size; (try simp at h); omega
        have hz5_w_1 : w.heap.size + 1 < w5.heap.size := by have h := hb5.size; (try simp at h); omega
        have hz5_w_2 : w.heap.size + 1 + 1 < w5.heap.size := by have h := hb5.size; (try simp at h); omega
        have hz5_w1_0 : w1.heap.size < w5.heap.size := by have h := hb5.size; (try simp at h); omega
        have hz5_w2_0 : w2.heap.size < w5.heap.size := by have h := hb5.size; (try simp at h); omega
        go_upto_region 9 with (fail)
        refine wp_world (GcdMem w w1.heap.size w2.heap.size y x) (((HM0.out.later hb5).setX hw1 hw2).setY hw1 hw2) ?_
        clear c0 c1 c2 f0 f1 f2 z0 z1 z2 hc5 hf5
        obtain ⟨N1, N2, N3, N4⟩ := HI'.out.next hl.out
        have K6 := minus_any y x (Nat.le_trans (Nat.le_of_lt HI'.out.lt.2) (Nat.le_add_left _ _))
        rw [df_eq HI'.out.lt.1 (Nat.le_of_lt hl.out)] at K6
        have H6 := Lib.hid K6
        have H7 := Lib.hid (odd_any (y - x) N3 N4)
        have NN1 := Lib.hid N1
        have NN2 := Lib.hid N2
        clear N1 N2 N3 N4 K6
        generalize y - x = d at *
        intro W HW0
        have HW := Lib.hid HW0
        obtain ⟨c0, c1, c2, f0, f1, f2, z0, z1, z2, hW⟩ := HW0
        go_wp2_with fail
        ((with_reducible refine (H6.out _).mono ?_); rintro e w6 ⟨rfl, hb6⟩)
        obtain ⟨hc6, hf6⟩ := bcell hb6
        have hz6_w_0 : w.heap.size < w6.heap.size := by have h := hb6.size; (try simp at h); omega
        have hz6_w_1 : w.heap.size + 1 < w6.heap.size := by have h := hb6.size; (try simp at h); omega
        have hz6_w_2 : w.heap.size + 1 + 1 < w6.heap.size := by have h := hb6.size; (try simp at h); omega
        have hz6_w1_0 : w1.heap.size < w6.heap.size := by have h := hb6.size; (try simp at h); omega
        have hz6_w2_0 : w2.heap.size < w6.heap.size := by have h := hb6.size; (try simp at h); omega
        go_wp2_with fail
        ((with_reducible refine (H7.out _ (HT.out.later (by (repeat' first | (with_reducible first | exact Bq0 | assumption | refine Bq1 ?_ | refine Bq2 ?_ | refine Bq3 ?_ ?_ | refine Bq4 ?_ (by assumption)) | go_size)))).mono ?_); rintro e w7 ⟨rfl, hb7⟩)
        obtain ⟨hc7, hf7⟩ := bcell hb7
        have hz7 : w1.heap.size < w7.heap.size := by have h := hb7.size; simp at h; omega
        have DM := Lib.hid ((((HW.out.later hb6).alloc _).later hb7).setX (x' := oddP d) hw1 hw2)
        clear HM0
        go_wp2
        go_roundg (oddP d + x)
        case measure => exact NN2.out
        case rel => exact ⟨_, _, NN1.out, DM.out⟩
      · have e2 : cmpN x y = 1 := by unfold cmpN; rw [if_neg (by omega), if_pos hl0]
        rw [e2] at K5
        have H5 := Lib.hid K5
        have hl := Lib.hid hl0
        have HI' := Lib.hid HI
        clear e1 e2 K5 hxy hl0 HI
        go_wp2_with fail
        ((with_reducible refine (H5.out _).mono ?_); rintro e w5 ⟨rfl, hb5⟩)
        obtain ⟨hc5, hf5⟩ := bcell hb5
        have hz5_w_0 : w.heap.size < w5.heap.size := by have h := hb5.size; (try simp at h); omega
        have hz5_w_1 : w.heap.size + 1 < w5.heap.size := by have h := hb5.size; (try simp at h); omega
        have hz5_w_2 : w.heap.size + 1 + 1 < w5.heap.size := by have h := hb5.size; (try simp at h); omega
        have hz5_w1_0 : w1.heap.size < w5.heap.size := by have h := hb5.size; (try simp at h); omega
        have hz5_w2_0 : w2.heap.size < w5.heap.size := by have h := hb5.size; (try simp at h); omega
        go_upto_region 9 with (fail)
        refine wp_world (GcdMem w w1.heap.size w2.heap.size x y) (HM0.out.later hb5) ?_
        clear c0 c1 c2 f0 f1 f2 z0 z1 z2 hc5 hf5
        obtain ⟨N1, N2, N3, N4⟩ := HI'.out.next hl.out
        have K6 := minus_any x y (Nat.le_trans (Nat.le_of_lt HI'.out.lt.2) (Nat.le_add_left _ _))
        rw [df_eq HI'.out.lt.1 (Nat.le_of_lt hl.out)] at K6
        have H6 := Lib.hid K6
        have H7 := Lib.hid (odd_any (x - y) N3 N4)
        have NN1 := Lib.hid N1
        have NN2 := Lib.hid N2
        clear N1 N2 N3 N4 K6
        generalize x - y = d at *
        intro W HW0
        have HW := Lib.hid HW0
        obtain ⟨c0, c1, c2, f0, f1, f2, z0, z1, z2, hW⟩ := HW0
        go_wp2_with fail
        ((with_reducible refine (H6.out _).mono ?_); rintro e w6 ⟨rfl, hb6⟩)
        obtain ⟨hc6, hf6⟩ := bcell hb6
        have hz6_w_0 : w.heap.size < w6.heap.size := by have h := hb6.size; (try simp at h); omega
        have hz6_w_1 : w.heap.size + 1 < w6.heap.size := by have h := hb6.size; (try simp at h); omega
        have hz6_w_2 : w.heap.size + 1 + 1 < w6.heap.size := by have h := hb6.size; (try simp at h); omega
        have hz6_w1_0 : w1.heap.size < w6.heap.size := by have h := hb6.size; (try simp at h); omega
        have hz6_w2_0 : w2.heap.size < w6.heap.size := by have h := hb6.size; (try simp at h); omega
        go_wp2_with fail
        ((with_reducible refine (H7.out _ (HT.out.later (by (repeat' first | (with_reducible first | exact Bq0 | assumption | refine Bq1 ?_ | refine Bq2 ?_ | refine Bq3 ?_ ?_ | refine Bq4 ?_ (by assumption)) | go_size)))).mono ?_); rintro e w7 ⟨rfl, hb7⟩)
        obtain ⟨hc7, hf7⟩ := bcell hb7
        have hz7 : w1.heap.size < w7.heap.size := by have h := hb7.size; simp at h; omega
        have DM := Lib.hid ((((HW.out.later hb6).alloc _).later hb7).setX (x' := oddP d) hw1 hw2)
        clear HM0
        go_wp2
        go_roundg (oddP d + y)
        case measure => exact NN2.out
        case rel => exact ⟨_, _, NN1.out, DM.out⟩
theorem gcd_any (s t : Bool) (a b : Nat) (ha : a < 2 ^ 256) (hb : b < 2 ^ 256) (w : World) (hT : Tab64 w) :
    Calls Tryd.prog 72 #[(.agg #[.bool (s), .int .u64 (wd (a) 0), .int .u64 (wd (a) 1), .int .u64 (wd (a) 2), .int .u64 (wd (a) 3)]), (.agg #[.bool (t), .int .u64 (wd (b) 0), .int .u64 (wd (b) 1), .int .u64 (wd (b) 2), .int .u64 (wd (b) 3)])] w fun e w' => e = .returned (.agg #[.bool (zs (val false (Nat.gcd a b))), .int .u64 (wd (Int.natAbs (val false (Nat.gcd a b))) 0), .int .u64 (wd (Int.natAbs (val false (Nat.gcd a b))) 1), .int .u64 (wd (Int.natAbs (val false (Nat.gcd a b))) 2), .int .u64 (wd (Int.natAbs (val false (Nat.gcd a b))) 3)]) ∧ Below w.heap.size w w' := by
  by_cases h : a = 0 ∨ b = 0
  · exact gcd_none s t a b ha hb h w
  · exact gcd_some s t a b ha hb (by omega) (by omega) w hT
end Go.Proofs.YthikaimhmpenhaaDoor
