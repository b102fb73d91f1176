/-
  What Add, Sub, Cmp, Of and Int of package wide return, for all inputs.
  Plain arithmetic of the schoolbook product of words, and of setting one word of a number; no program in sight.
  What Mul of package wide returns, for all inputs: the exact product, or the error.
  What Int, twice and divide of package wide return, for all inputs.
  Plain arithmetic of a division bit by bit; no program in sight.
  (Written by wip/pack.py out of XFWideB, XFMulM, XFWideC, XFWideD, XFDivM.)
-/
import Derived.Test.YthikaimhmpenhaaDoorK01
import Derived.Test.YthikaimhmpenhaaDoorShelf

namespace Go.Proofs.YthikaimhmpenhaaDoor
set_option linter.all false
open Go Go.RowKit Wd
set_option maxRecDepth 100000
theorem cmp_nn_any (s t : Bool) (a b : Nat) (ha : a < 2 ^ 256) (hb : b < 2 ^ 256) (hx : zs (val s a) = true) (hy : zs (val t b) = true) (w : World) :
    Calls Tryd.prog 86 #[(.agg #[.bool (s), .int .u64 (wd (a) 0), .int .u64 (wd (a) 1), .int .u64 (wd (a) 2), .int .u64 (wd (a) 3)]), (.agg #[.bool (t), .int .u64 (wd (b) 0), .int .u64 (wd (b) 1), .int .u64 (wd (b) 2), .int .u64 (wd (b) 3)])] w fun e w' => e = .returned (.int .i64 (cmpZ (val s a) (val t b))) ∧ Below w.heap.size w w' := by
  rw [cmp_nn hx hy]
  have H1 := Lib.hid (negative_any s a ha)
  have H2 := Lib.hid (negative_any t b hb)
  rw [hx] at H1
  rw [hy] at H2
  have H3 := Lib.hid (compare_any b a hb ha)
  clear ha hb hx hy
  go_enter Tryd.func86, Tryd.ntmps86
  go_wp2_with fail
  refine wp_world (fun x => (∀ o, x.cell? ⟨w.heap.size, o, none⟩ = (#[.bool (s), .int .u64 (wd (a) 0), .int .u64 (wd (a) 1), .int .u64 (wd (a) 2), .int .u64 (wd (a) 3)] : Array Value)[o]?) ∧ (∀ o, x.cell? ⟨w.heap.size + 1, o, none⟩ = (#[.bool (t), .int .u64 (wd (b) 0), .int .u64 (wd (b) 1), .int .u64 (wd (b) 2), .int .u64 (wd (b) 3)] : Array Value)[o]?) ∧ w.heap.size < x.heap.size ∧ w.heap.size + 1 < x.heap.size ∧ Below w.heap.size w x) (by (repeat' apply And.intro) <;> first | (intro o; simp [go_sem]; done) | (simp [go_sem]; done) | (intro o; rcases o with _ | _ | _ | _ | _ | o <;> simp [go_sem]; done) | ((repeat' first | (with_reducible first | exact Bq0 | assumption | refine Bq1 ?_ | refine Bq2 ?_ | refine Bq3 ?_ ?_ | refine Bq4 ?_ (by assumption)) | go_size); done) | omega | (simp [go_sem]; omega)) ?_
  rintro W ⟨hWc0, hWc1, hWz0, hWz1, hWb⟩
  have hWK := Lib.hid (show ∀ x : World, Kp W.heap.size [] W x → ((∀ o, x.cell? ⟨w.heap.size, o, none⟩ = (#[.bool (s), .int .u64 (wd (a) 0), .int .u64 (wd (a) 1), .int .u64 (wd (a) 2), .int .u64 (wd (a) 3)] : Array Value)[o]?) ∧ (∀ o, x.cell? ⟨w.heap.size + 1, o, none⟩ = (#[.bool (t), .int .u64 (wd (b) 0), .int .u64 (wd (b) 1), .int .u64 (wd (b) 2), .int .u64 (wd (b) 3)] : Array Value)[o]?) ∧ w.heap.size < x.heap.size ∧ w.heap.size + 1 < x.heap.size ∧ W.heap.size ≤ x.heap.size) from fun x k => ⟨fun o => (k.cell _ o hWz0 (by first | (simp; done) | (simp; omega))).trans (hWc0 o), fun o => (k.cell _ o hWz1 (by first | (simp; done) | (simp; omega))).trans (hWc1 o), Nat.lt_of_lt_of_le hWz0 k.size, Nat.lt_of_lt_of_le hWz1 k.size, k.size⟩)
  go_region_held3 (fun x => (∀ o, x.cell? ⟨w.heap.size, o, none⟩ = (#[.bool (s), .int .u64 (wd (a) 0), .int .u64 (wd (a) 1), .int .u64 (wd (a) 2), .int .u64 (wd (a) 3)] : Array Value)[o]?) ∧ (∀ o, x.cell? ⟨w.heap.size + 1, o, none⟩ = (#[.bool (t), .int .u64 (wd (b) 0), .int .u64 (wd (b) 1), .int .u64 (wd (b) 2), .int .u64 (wd (b) 3)] : Array Value)[o]?) ∧ w.heap.size < x.heap.size ∧ w.heap.size + 1 < x.heap.size ∧ W.heap.size ≤ x.heap.size) ((refine hWK.out _ ?_; (repeat first | (with_reducible first | assumption | exact Kq0 | refine Kq1 ?_ | refine Kq2 ?_) | ((with_reducible refine Kq3 ?_ ?_); focus first | (left; go_size; done) | (right; simp; done)) | (with_reducible apply Kp.later; assumption)))) ((first | (go_at_call 97; (with_reducible refine (H1.out _).mono ?_); rintro e W_1 ⟨rfl, hbW_1⟩; have hkW_1 : Kp W.heap.size [] W W_1 := (by (repeat first | (with_reducible first | assumption | exact Kq0 | refine Kq1 ?_ | refine Kq2 ?_) | ((with_reducible refine Kq3 ?_ ?_); focus first | (left; go_size; done) | (right; simp; done)) | (with_reducible apply Kp.later; assumption)))) | (go_at_call 97; (with_reducible refine (H2.out _).mono ?_); rintro e W_2 ⟨rfl, hbW_2⟩; have hkW_2 : Kp W.heap.size [] W W_2 := (by (repeat first | (with_reducible first | assumption | exact Kq0 | refine Kq1 ?_ | refine Kq2 ?_) | ((with_reducible refine Kq3 ?_ ?_); focus first | (left; go_size; done) | (right; simp; done)) | (with_reducible apply Kp.later; assumption))))))
  go_wp2_with fail
  ((with_reducible refine (H3.out _).mono ?_); rintro e w3 ⟨rfl, hb3⟩)
  obtain ⟨hc3, hf3⟩ := bcell hb3
  go_wp2
  go_returns
  exact ⟨rfl, by (repeat' first | (with_reducible first | exact Bq0 | assumption | refine Bq1 ?_ | refine Bq2 ?_ | refine Bq3 ?_ ?_ | refine Bq4 ?_ (by assumption)) | go_size)⟩
theorem cmp_np_any (s t : Bool) (a b : Nat) (ha : a < 2 ^ 256) (hb : b < 2 ^ 256) (hx : zs (val s a) = true) (hy : zs (val t b) = false) (w : World) :
    Calls Tryd.prog 86 #[(.agg #[.bool (s), .int .u64 (wd (a) 0), .int .u64 (wd (a) 1), .int .u64 (wd (a) 2), .int .u64 (wd (a) 3)]), (.agg #[.bool (t), .int .u64 (wd (b) 0), .int .u64 (wd (b) 1), .int .u64 (wd (b) 2), .int .u64 (wd (b) 3)])] w fun e w' => e = .returned (.int .i64 (cmpZ (val s a) (val t b))) ∧ Below w.heap.size w w' := by
  rw [cmp_np hx hy]
  have H1 := Lib.hid (negative_any s a ha)
  have H2 := Lib.hid (negative_any t b hb)
  rw [hx] at H1
  rw [hy] at H2
  have H3 := Lib.hid (compare_any a b ha hb)
  clear ha hb hx hy
  go_enter Tryd.func86, Tryd.ntmps86
  go_wp2_with fail
  refine wp_world (fun x => (∀ o, x.cell? ⟨w.heap.size, o, none⟩ = (#[.bool (s), .int .u64 (wd (a) 0), .int .u64 (wd (a) 1), .int .u64 (wd (a) 2), .int .u64 (wd (a) 3)] : Array Value)[o]?) ∧ (∀ o, x.cell? ⟨w.heap.size + 1, o, none⟩ = (#[.bool (t), .int .u64 (wd (b) 0), .int .u64 (wd (b) 1), .int .u64 (wd (b) 2), .int .u64 (wd (b) 3)] : Array Value)[o]?) ∧ w.heap.size < x.heap.size ∧ w.heap.size + 1 < x.heap.size ∧ Below w.heap.size w x) (by (repeat' apply And.intro) <;> first | (intro o; simp [go_sem]; done) | (simp [go_sem]; done) | (intro o; rcases o with _ | _ | _ | _ | _ | o <;> simp [go_sem]; done) | ((repeat' first | (with_reducible first | exact Bq0 | assumption | refine Bq1 ?_ | refine Bq2 ?_ | refine Bq3 ?_ ?_ | refine Bq4 ?_ (by assumption)) | go_size); done) | omega | (simp [go_sem]; omega)) ?_
  rintro W ⟨hWc0, hWc1, hWz0, hWz1, hWb⟩
  have hWK := Lib.hid (show ∀ x : World, Kp W.heap.size [] W x → ((∀ o, x.cell? ⟨w.heap.size, o, none⟩ = (#[.bool (s), .int .u64 (wd (a) 0), .int .u64 (wd (a) 1), .int .u64 (wd (a) 2), .int .u64 (wd (a) 3)] : Array Value)[o]?) ∧ (∀ o, x.cell? ⟨w.heap.size + 1, o, none⟩ = (#[.bool (t), .int .u64 (wd (b) 0), .int .u64 (wd (b) 1), .int .u64 (wd (b) 2), .int .u64 (wd (b) 3)] : Array Value)[o]?) ∧ w.heap.size < x.heap.size ∧ w.heap.size + 1 < x.heap.size ∧ W.heap.size ≤ x.heap.size) from fun x k => ⟨fun o => (k.cell _ o hWz0 (by first | (simp; done) | (simp; omega))).trans (hWc0 o), fun o => (k.cell _ o hWz1 (by first | (simp; done) | (simp; omega))).trans (hWc1 o), Nat.lt_of_lt_of_le hWz0 k.size, Nat.lt_of_lt_of_le hWz1 k.size, k.size⟩)
  go_region_held3 (fun x => (∀ o, x.cell? ⟨w.heap.size, o, none⟩ = (#[.bool (s), .int .u64 (wd (a) 0), .int .u64 (wd (a) 1), .int .u64 (wd (a) 2), .int .u64 (wd (a) 3)] : Array Value)[o]?) ∧ (∀ o, x.cell? ⟨w.heap.size + 1, o, none⟩ = (#[.bool (t), .int .u64 (wd (b) 0), .int .u64 (wd (b) 1), .int .u64 (wd (b) 2), .int .u64 (wd (b) 3)] : Array Value)[o]?) ∧ w.heap.size < x.heap.size ∧ w.heap.size + 1 < x.heap.size ∧ W.heap.size ≤ x.heap.size) ((refine hWK.out _ ?_; (repeat first | (with_reducible first | assumption | exact Kq0 | refine Kq1 ?_ | refine Kq2 ?_) | ((with_reducible refine Kq3 ?_ ?_); focus first | (left; go_size; done) | (right; simp; done)) | (with_reducible apply Kp.later; assumption)))) ((first | (go_at_call 97; (with_reducible refine (H1.out _).mono ?_); rintro e W_1 ⟨rfl, hbW_1⟩; have hkW_1 : Kp W.heap.size [] W W_1 := (by (repeat first | (with_reducible first | assumption | exact Kq0 | refine Kq1 ?_ | refine Kq2 ?_) | ((with_reducible refine Kq3 ?_ ?_); focus first | (left; go_size; done) | (right; simp; done)) | (with_reducible apply Kp.later; assumption)))) | (go_at_call 97; (with_reducible refine (H2.out _).mono ?_); rintro e W_2 ⟨rfl, hbW_2⟩; have hkW_2 : Kp W.heap.size [] W W_2 := (by (repeat first | (with_reducible first | assumption | exact Kq0 | refine Kq1 ?_ | refine Kq2 ?_) | ((with_reducible refine Kq3 ?_ ?_); focus first | (left; go_size; done) | (right; simp; done)) | (with_reducible apply Kp.later; assumption))))))
  go_wp2
  go_returns
  exact ⟨rfl, by (repeat' first | (with_reducible first | exact Bq0 | assumption | refine Bq1 ?_ | refine Bq2 ?_ | refine Bq3 ?_ ?_ | refine Bq4 ?_ (by assumption)) | go_size)⟩
theorem cmp_pn_any (s t : Bool) (a b : Nat) (ha : a < 2 ^ 256) (hb : b < 2 ^ 256) (hx : zs (val s a) = false) (hy : zs (val t b) = true) (w : World) :
    Calls Tryd.prog 86 #[(.agg #[.bool (s), .int .u64 (wd (a) 0), .int .u64 (wd (a) 1), .int .u64 (wd (a) 2), .int .u64 (wd (a) 3)]), (.agg #[.bool (t), .int .u64 (wd (b) 0), .int .u64 (wd (b) 1), .int .u64 (wd (b) 2), .int .u64 (wd (b) 3)])] w fun e w' => e = .returned (.int .i64 (cmpZ (val s a) (val t b))) ∧ Below w.heap.size w w' := by
  rw [cmp_pn hx hy]
  have H1 := Lib.hid (negative_any s a ha)
  have H2 := Lib.hid (negative_any t b hb)
  rw [hx] at H1
  rw [hy] at H2
  have H3 := Lib.hid (compare_any a b ha hb)
  clear ha hb hx hy
  go_enter Tryd.func86, Tryd.ntmps86
  go_wp2_with fail
  refine wp_world (fun x => (∀ o, x.cell? ⟨w.heap.size, o, none⟩ = (#[.bool (s), .int .u64 (wd (a) 0), .int .u64 (wd (a) 1), .int .u64 (wd (a) 2), .int .u64 (wd (a) 3)] : Array Value)[o]?) ∧ (∀ o, x.cell? ⟨w.heap.size + 1, o, none⟩ = (#[.bool (t), .int .u64 (wd (b) 0), .int .u64 (wd (b) 1), .int .u64 (wd (b) 2), .int .u64 (wd (b) 3)] : Array Value)[o]?) ∧ w.heap.size < x.heap.size ∧ w.heap.size + 1 < x.heap.size ∧ Below w.heap.size w x) (by (repeat' apply And.intro) <;> first | (intro o; simp [go_sem]; done) | (simp [go_sem]; done) | (intro o; rcases o with _ | _ | _ | _ | _ | o <;> simp [go_sem]; done) | ((repeat' first | (with_reducible first | exact Bq0 | assumption | refine Bq1 ?_ | refine Bq2 ?_ | refine Bq3 ?_ ?_ | refine Bq4 ?_ (by assumption)) | go_size); done) | omega | (simp [go_sem]; omega)) ?_
  rintro W ⟨hWc0, hWc1, hWz0, hWz1, hWb⟩
  have hWK := Lib.hid (show ∀ x : World, Kp W.heap.size [] W x → ((∀ o, x.cell? ⟨w.heap.size, o, none⟩ = (#[.bool (s), .int .u64 (wd (a) 0), .int .u64 (wd (a) 1), .int .u64 (wd (a) 2), .int .u64 (wd (a) 3)] : Array Value)[o]?) ∧ (∀ o, x.cell? ⟨w.heap.size + 1, o, none⟩ = (#[.bool (t), .int .u64 (wd (b) 0), .int .u64 (wd (b) 1), .int .u64 (wd (b) 2), .int .u64 (wd (b) 3)] : Array Value)[o]?) ∧ w.heap.size < x.heap.size ∧ w.heap.size + 1 < x.heap.size ∧ W.heap.size ≤ x.heap.size) from fun x k => ⟨fun o => (k.cell _ o hWz0 (by first | (simp; done) | (simp; omega))).trans (hWc0 o), fun o => (k.cell _ o hWz1 (by first | (simp; done) | (simp; omega))).trans (hWc1 o), Nat.lt_of_lt_of_le hWz0 k.size, Nat.lt_of_lt_of_le hWz1 k.size, k.size⟩)
  go_region_held3 (fun x => (∀ o, x.cell? ⟨w.heap.size, o, none⟩ = (#[.bool (s), .int .u64 (wd (a) 0), .int .u64 (wd (a) 1), .int .u64 (wd (a) 2), .int .u64 (wd (a) 3)] : Array Value)[o]?) ∧ (∀ o, x.cell? ⟨w.heap.size + 1, o, none⟩ = (#[.bool (t), .int .u64 (wd (b) 0), .int .u64 (wd (b) 1), .int .u64 (wd (b) 2), .int .u64 (wd (b) 3)] : Array Value)[o]?) ∧ w.heap.size < x.heap.size ∧ w.heap.size + 1 < x.heap.size ∧ W.heap.size ≤ x.heap.size) ((refine hWK.out _ ?_; (repeat first | (with_reducible first | assumption | exact Kq0 | refine Kq1 ?_ | refine Kq2 ?_) | ((with_reducible refine Kq3 ?_ ?_); focus first | (left; go_size; done) | (right; simp; done)) | (with_reducible apply Kp.later; assumption)))) ((first | (go_at_call 97; (with_reducible refine (H1.out _).mono ?_); rintro e W_1 ⟨rfl, hbW_1⟩; have hkW_1 : Kp W.heap.size [] W W_1 := (by (repeat first | (with_reducible first | assumption | exact Kq0 | refine Kq1 ?_ | refine Kq2 ?_) | ((with_reducible refine Kq3 ?_ ?_); focus first | (left; go_size; done) | (right; simp; done)) | (with_reducible apply Kp.later; assumption)))) | (go_at_call 97; (with_reducible refine (H2.out _).mono ?_); rintro e W_2 ⟨rfl, hbW_2⟩; have hkW_2 : Kp W.heap.size [] W W_2 := (by (repeat first | (with_reducible first | assumption | exact Kq0 | refine Kq1 ?_ | refine Kq2 ?_) | ((with_reducible refine Kq3 ?_ ?_); focus first | (left; go_size; done) | (right; simp; done)) | (with_reducible apply Kp.later; assumption))))))
  go_wp2
  go_returns
  exact ⟨rfl, by (repeat' first | (with_reducible first | exact Bq0 | assumption | refine Bq1 ?_ | refine Bq2 ?_ | refine Bq3 ?_ ?_ | refine Bq4 ?_ (by assumption)) | go_size)⟩
theorem cmp_pp_any (s t : Bool) (a b : Nat) (ha : a < 2 ^ 256) (hb : b < 2 ^ 256) (hx : zs (val s a) = false) (hy : zs (val t b) = false) (w : World) :
    Calls Tryd.prog 86 #[(.agg #[.bool (s), .int .u64 (wd (a) 0), .int .u64 (wd (a) 1), .int .u64 (wd (a) 2), .int .u64 (wd (a) 3)]), (.agg #[.bool (t), .int .u64 (wd (b) 0), .int .u64 (wd (b) 1), .int .u64 (wd (b) 2), .int .u64 (wd (b) 3)])] w fun e w' => e = .returned (.int .i64 (cmpZ (val s a) (val t b))) ∧ Below w.heap.size w w' := by
  rw [cmp_pp hx hy]
  have H1 := Lib.hid (negative_any s a ha)
  have H2 := Lib.hid (negative_any t b hb)
  rw [hx] at H1
  rw [hy] at H2
  have H3 := Lib.hid (compare_any a b ha hb)
  clear ha hb hx hy
  go_enter Tryd.func86, Tryd.ntmps86
  go_wp2_with fail
  refine wp_world (fun x => (∀ o, x.cell? ⟨w.heap.size, o, none⟩ = (#[.bool (s), .int .u64 (wd (a) 0), .int .u64 (wd (a) 1), .int .u64 (wd (a) 2), .int .u64 (wd (a) 3)] : Array Value)[o]?) ∧ (∀ o, x.cell? ⟨w.heap.size + 1, o, none⟩ = (#[.bool (t), .int .u64 (wd (b) 0), .int .u64 (wd (b) 1), .int .u64 (wd (b) 2), .int .u64 (wd (b) 3)] : Array Value)[o]?) ∧ w.heap.size < x.heap.size ∧ w.heap.size + 1 < x.heap.size ∧ Below w.heap.size w x) (by (repeat' apply And.intro) <;> first | (intro o; simp [go_sem]; done) | (simp [go_sem]; done) | (intro o; rcases o with _ | _ | _ | _ | _ | o <;> simp [go_sem]; done) | ((repeat' first | (with_reducible first | exact Bq0 | assumption | refine Bq1 ?_ | refine Bq2 ?_ | refine Bq3 ?_ ?_ | refine Bq4 ?_ (by assumption)) | go_size); done) | omega | (simp [go_sem]; omega)) ?_
  rintro W ⟨hWc0, hWc1, hWz0, hWz1, hWb⟩
  have hWK := Lib.hid (show ∀ x : World, Kp W.heap.size [] W x → ((∀ o, x.cell? ⟨w.heap.size, o, none⟩ = (#[.bool (s), .int .u64 (wd (a) 0), .int .u64 (wd (a) 1), .int .u64 (wd (a) 2), .int .u64 (wd (a) 3)] : Array Value)[o]?) ∧ (∀ o, x.cell? ⟨w.heap.size + 1, o, none⟩ = (#[.bool (t), .int .u64 (wd (b) 0), .int .u64 (wd (b) 1), .int .u64 (wd (b) 2), .int .u64 (wd (b) 3)] : Array Value)[o]?) ∧ w.heap.size < x.heap.size ∧ w.heap.size + 1 < x.heap.size ∧ W.heap.size ≤ x.heap.size) from fun x k => ⟨fun o => (k.cell _ o hWz0 (by first | (simp; done) | (simp; omega))).trans (hWc0 o), fun o => (k.cell _ o hWz1 (by first | (simp; done) | (simp; omega))).trans (hWc1 o), Nat.lt_of_lt_of_le hWz0 k.size, Nat.lt_of_lt_of_le hWz1 k.size, k.size⟩)
  go_region_held3 (fun x => (∀ o, x.cell? ⟨w.heap.size, o, none⟩ = (#[.bool (s), .int .u64 (wd (a) 0), .int .u64 (wd (a) 1), .int .u64 (wd (a) 2), .int .u64 (wd (a) 3)] : Array Value)[o]?) ∧ (∀ o, x.cell? ⟨w.heap.size + 1, o, none⟩ = (#[.bool (t), .int .u64 (wd (b) 0), .int .u64 (wd (b) 1), .int .u64 (wd (b) 2), .int .u64 (wd (b) 3)] : Array Value)[o]?) ∧ w.heap.size < x.heap.size ∧ w.heap.size + 1 < x.heap.size ∧ W.heap.size ≤ x.heap.size) ((refine hWK.out _ ?_; (repeat first | (with_reducible first | assumption | exact Kq0 | refine Kq1 ?_ | refine Kq2 ?_) | ((with_reducible refine Kq3 ?_ ?_); focus first | (left; go_size; done) | (right; simp; done)) | (with_reducible apply Kp.later; assumption)))) ((first | (go_at_call 97; (with_reducible refine (H1.out _).mono ?_); rintro e W_1 ⟨rfl, hbW_1⟩; have hkW_1 : Kp W.heap.size [] W W_1 := (by (repeat first | (with_reducible first | assumption | exact Kq0 | refine Kq1 ?_ | refine Kq2 ?_) | ((with_reducible refine Kq3 ?_ ?_); focus first | (left; go_size; done) | (right; simp; done)) | (with_reducible apply Kp.later; assumption)))) | (go_at_call 97; (with_reducible refine (H2.out _).mono ?_); rintro e W_2 ⟨rfl, hbW_2⟩; have hkW_2 : Kp W.heap.size [] W W_2 := (by (repeat first | (with_reducible first | assumption | exact Kq0 | refine Kq1 ?_ | refine Kq2 ?_) | ((with_reducible refine Kq3 ?_ ?_); focus first | (left; go_size; done) | (right; simp; done)) | (with_reducible apply Kp.later; assumption))))))
  go_wp2_with fail
  ((with_reducible refine (H3.out _).mono ?_); rintro e w3 ⟨rfl, hb3⟩)
  obtain ⟨hc3, hf3⟩ := bcell hb3
  go_wp2
  go_returns
  exact ⟨rfl, by (repeat' first | (with_reducible first | exact Bq0 | assumption | refine Bq1 ?_ | refine Bq2 ?_ | refine Bq3 ?_ ?_ | refine Bq4 ?_ (by assumption)) | go_size)⟩
theorem cmp_any (s t : Bool) (a b : Nat) (ha : a < 2 ^ 256) (hb : b < 2 ^ 256) (w : World) :
    Calls Tryd.prog 86 #[(.agg #[.bool (s), .int .u64 (wd (a) 0), .int .u64 (wd (a) 1), .int .u64 (wd (a) 2), .int .u64 (wd (a) 3)]), (.agg #[.bool (t), .int .u64 (wd (b) 0), .int .u64 (wd (b) 1), .int .u64 (wd (b) 2), .int .u64 (wd (b) 3)])] w fun e w' => e = .returned (.int .i64 (cmpZ (val s a) (val t b))) ∧ Below w.heap.size w w' := by
  cases hx : zs (val s a) <;> cases hy : zs (val t b)
  · exact cmp_pp_any s t a b ha hb hx hy w
  · exact cmp_pn_any s t a b ha hb hx hy w
  · exact cmp_np_any s t a b ha hb hx hy w
  · exact cmp_nn_any s t a b ha hb hx hy w
theorem of_neg_any (n : Int) (h : n < 0) (h' : -9223372036854775808 ≤ n) (w : World) :
    Calls Tryd.prog 67 #[.int .i64 n] w fun e w' => e = .returned (.agg #[.bool (zs (n)), .int .u64 (wd (Int.natAbs (n)) 0), .int .u64 (wd (Int.natAbs (n)) 1), .int .u64 (wd (Int.natAbs (n)) 2), .int .u64 (wd (Int.natAbs (n)) 3)]) ∧ Below w.heap.size w w' := by
  have hn : n.natAbs < 18446744073709551616 := by omega
  have H := signed_any true n.natAbs (by omega)
  have e0 : wd n.natAbs 0 = IntKind.u64.wrap (-IntKind.u64.wrap n) := by rw [(wd_small hn).1, IntKind.wrap_u64, IntKind.wrap_u64]; omega
  have hv : val true n.natAbs = n := by unfold val; simp; omega
  rw [hv, e0, (wd_small hn).2.1, (wd_small hn).2.2.1, (wd_small hn).2.2.2] at H
  rw [e0, (wd_small hn).2.1, (wd_small hn).2.2.1, (wd_small hn).2.2.2]
  have H1 := Lib.hid H
  have hd : decide (n < 0) = true := by simpa using h
  clear H hn hv e0
  go_enter Tryd.func67, Tryd.ntmps67
  go_wp2_with fail
  ((with_reducible refine (H1.out _).mono ?_); rintro e w1 ⟨rfl, hb1⟩)
  obtain ⟨hc1, hf1⟩ := bcell hb1
  have hz1_w_0 : w.heap.size < w1.heap.size := by have h := hb1.size; (try simp at h); omega
  go_wp2_with ((with_reducible show bodyPost _ _ _ _ _ _); refine bodyPost_ret (by simp [results, Tryd.results67, go_sem, hc1, hf1, hz1_w_0]; try rfl) rfl ?_; exact ⟨rfl, by (repeat' first | (with_reducible first | exact Bq0 | assumption | refine Bq1 ?_ | refine Bq2 ?_ | refine Bq3 ?_ ?_ | refine Bq4 ?_ (by assumption)) | go_size)⟩)
theorem of_pos_any (n : Int) (h : 0 ≤ n) (h' : n ≤ 9223372036854775807) (w : World) :
    Calls Tryd.prog 67 #[.int .i64 n] w fun e w' => e = .returned (.agg #[.bool (zs (n)), .int .u64 (wd (Int.natAbs (n)) 0), .int .u64 (wd (Int.natAbs (n)) 1), .int .u64 (wd (Int.natAbs (n)) 2), .int .u64 (wd (Int.natAbs (n)) 3)]) ∧ Below w.heap.size w w' := by
  have hn : n.natAbs < 18446744073709551616 := by omega
  have H := signed_any false n.natAbs (by omega)
  have e0 : wd n.natAbs 0 = n := by rw [(wd_small hn).1]; omega
  have hv : val false n.natAbs = n := by unfold val; simp; omega
  rw [hv, e0, (wd_small hn).2.1, (wd_small hn).2.2.1, (wd_small hn).2.2.2] at H
  rw [e0, (wd_small hn).2.1, (wd_small hn).2.2.1, (wd_small hn).2.2.2]
  have H1 := Lib.hid H
  have hd : decide (n < 0) = false := by simpa using h
  clear H hn hv e0
  go_enter Tryd.func67, Tryd.ntmps67
  go_wp2_with fail
  ((with_reducible refine (H1.out _).mono ?_); rintro e w1 ⟨rfl, hb1⟩)
  obtain ⟨hc1, hf1⟩ := bcell hb1
  have hz1_w_0 : w.heap.size < w1.heap.size := by have h := hb1.size; (try simp at h); omega
  go_wp2_with ((with_reducible show bodyPost _ _ _ _ _ _); refine bodyPost_ret (by simp [results, Tryd.results67, go_sem, hc1, hf1, hz1_w_0]; try rfl) rfl ?_; exact ⟨rfl, by (repeat' first | (with_reducible first | exact Bq0 | assumption | refine Bq1 ?_ | refine Bq2 ?_ | refine Bq3 ?_ ?_ | refine Bq4 ?_ (by assumption)) | go_size)⟩)
theorem of_any (n : Int) (h : -9223372036854775808 ≤ n) (h' : n ≤ 9223372036854775807) (w : World) :
    Calls Tryd.prog 67 #[.int .i64 n] w fun e w' => e = .returned (.agg #[.bool (zs (n)), .int .u64 (wd (Int.natAbs (n)) 0), .int .u64 (wd (Int.natAbs (n)) 1), .int .u64 (wd (Int.natAbs (n)) 2), .int .u64 (wd (Int.natAbs (n)) 3)]) ∧ Below w.heap.size w w' := by
  by_cases h0 : n < 0
  · exact of_neg_any n h0 h w
  · exact of_pos_any n (by omega) h' w
end Go.Proofs.YthikaimhmpenhaaDoor

namespace Go.Proofs.YthikaimhmpenhaaDoor.Wd
set_option linter.all false
@[irreducible] def setw (T s v : Nat) : Nat := T % 2 ^ (64 * s) + 2 ^ (64 * s) * (v + 18446744073709551616 * (T / 2 ^ (64 * s) / 18446744073709551616))
@[irreducible] def wn (T s : Nat) : Nat := T / 2 ^ (64 * s) % 18446744073709551616
theorem wn_lt (T s : Nat) : wn T s < 18446744073709551616 := by unfold wn; exact Nat.mod_lt _ (by omega)
theorem wd_wn (T s : Nat) : wd T s = (wn T s : Int) := by unfold wd wn; rfl
theorem wd_set_same (T s v : Nat) (hv : v < 18446744073709551616) : wd (setw T s v) s = (v : Int) := by
  unfold wd setw
  have hp : 0 < 2 ^ (64 * s) := Nat.pow_pos (by omega)
  generalize 2 ^ (64 * s) = p at *
  rw [Nat.add_mul_div_left _ _ hp, Nat.div_eq_of_lt (Nat.mod_lt _ hp), Nat.zero_add, Nat.add_mul_mod_self_left, Nat.mod_eq_of_lt hv]
theorem wd_set_high (T s v j : Nat) (hv : v < 18446744073709551616) (h : s < j) : wd (setw T s v) j = wd T j := by
  unfold wd setw
  have hp : 0 < 2 ^ (64 * s) := Nat.pow_pos (by omega)
  have e : 2 ^ (64 * j) = 2 ^ (64 * s) * 18446744073709551616 * 2 ^ (64 * (j - s - 1)) := by
    rw [← pow_next, ← Nat.pow_add]; congr 1; omega
  rw [e]
  generalize 2 ^ (64 * s) = p at *
  generalize 2 ^ (64 * (j - s - 1)) = q
  rw [← Nat.div_div_eq_div_mul, ← Nat.div_div_eq_div_mul, ← Nat.div_div_eq_div_mul, ← Nat.div_div_eq_div_mul]
  rw [Nat.add_mul_div_left _ _ hp, Nat.div_eq_of_lt (Nat.mod_lt _ hp), Nat.zero_add, Nat.add_mul_div_left _ _ (by omega), Nat.div_eq_of_lt hv, Nat.zero_add]
theorem wd_set_low (T s v j : Nat) (h : j < s) : wd (setw T s v) j = wd T j := by
  unfold wd setw
  have hq : 0 < 2 ^ (64 * j) := Nat.pow_pos (by omega)
  have e : 2 ^ (64 * s) = 2 ^ (64 * j) * (18446744073709551616 * 2 ^ (64 * (s - j - 1))) := by
    rw [← Nat.mul_assoc, ← pow_next, ← Nat.pow_add]; congr 1; omega
  rw [e]
  generalize 2 ^ (64 * j) = q at *
  generalize 2 ^ (64 * (s - j - 1)) = r
  generalize T / (q * (18446744073709551616 * r)) / 18446744073709551616 = H
  have e2 : q * (18446744073709551616 * r) * (v + 18446744073709551616 * H) = q * (18446744073709551616 * (r * (v + 18446744073709551616 * H))) := by
    simp [Nat.mul_assoc]
  rw [e2, Nat.add_mul_div_left _ _ hq, Nat.add_mul_mod_self_left, Nat.mod_mul_right_div_self, Nat.mod_mul_right_mod]
theorem split_at (T s : Nat) : T = T % 2 ^ (64 * s) + 2 ^ (64 * s) * (wn T s + 18446744073709551616 * (T / 2 ^ (64 * s) / 18446744073709551616)) := by
  unfold wn
  have h1 := Nat.mod_add_div T (2 ^ (64 * s))
  have h2 := Nat.mod_add_div (T / 2 ^ (64 * s)) 18446744073709551616
  rw [h2, h1]
theorem mul_step (T s xy c : Nat) : setw T s ((xy + wn T s + c) % 18446744073709551616) + ((xy + wn T s + c) / 18446744073709551616) * 2 ^ (64 * (s + 1)) = T + (xy + c) * 2 ^ (64 * s) := by
  have h := split_at T s
  conv => rhs; rw [h]
  unfold setw
  rw [pow_next]
  generalize 2 ^ (64 * s) = p
  generalize T / p / 18446744073709551616 = H
  generalize T % p = L
  generalize wn T s = t
  have hv := Nat.mod_add_div (xy + t + c) 18446744073709551616
  generalize (xy + t + c) % 18446744073709551616 = v at *
  generalize (xy + t + c) / 18446744073709551616 = d at *
  have e : xy + c = v + 18446744073709551616 * d - t := by omega
  have e1 : d * (p * 18446744073709551616) = p * (18446744073709551616 * d) := by
    rw [Nat.mul_comm d, Nat.mul_assoc]
  have e2 : (xy + c) * p = p * (xy + c) := Nat.mul_comm _ _
  rw [e1, e2, Nat.add_assoc, Nat.add_assoc, ← Nat.mul_add, ← Nat.mul_add]
  congr 2; omega
theorem setw_lt (T s v m : Nat) (hv : v < 18446744073709551616) (hs : s < m) (hT : T < 2 ^ (64 * m)) : setw T s v < 2 ^ (64 * m) := by
  unfold setw
  have e : 2 ^ (64 * m) = 2 ^ (64 * s) * (18446744073709551616 * 2 ^ (64 * (m - s - 1))) := by
    rw [← Nat.mul_assoc, ← pow_next, ← Nat.pow_add]; congr 1; omega
  rw [e] at hT ⊢
  have hp : 0 < 2 ^ (64 * s) := Nat.pow_pos (by omega)
  generalize 2 ^ (64 * s) = p at *
  generalize 2 ^ (64 * (m - s - 1)) = r at *
  have h1 : T / p / 18446744073709551616 < r := by
    rw [Nat.div_div_eq_div_mul, Nat.div_lt_iff_lt_mul (by omega)]
    rw [Nat.mul_comm r, Nat.mul_assoc]; exact hT
  generalize T / p / 18446744073709551616 = H at *
  have h2 : v + 18446744073709551616 * H + 1 ≤ 18446744073709551616 * r := by
    have := Nat.mul_le_mul_left 18446744073709551616 (by omega : H + 1 ≤ r)
    omega
  have h3 := Nat.mul_le_mul_left p h2
  rw [Nat.mul_add, Nat.mul_one] at h3
  have h4 := Nat.mod_lt T hp
  omega
theorem wn_high (T s : Nat) (hT : T < 2 ^ (64 * s)) : wn T s = 0 := by
  unfold wn; rw [Nat.div_eq_of_lt hT]
theorem setw_high (T s v : Nat) (hT : T < 2 ^ (64 * s)) : setw T s v = T + v * 2 ^ (64 * s) := by
  unfold setw
  rw [Nat.div_eq_of_lt hT, Nat.mod_eq_of_lt hT]; simp [Nat.mul_comm]
@[irreducible] def mulHi (x y : Nat) : Nat := x * y / 18446744073709551616
@[irreducible] def mulLo (x y : Nat) : Nat := x * y % 18446744073709551616
@[irreducible] def lo64 (x y : Nat) : Nat := (x + y) % 18446744073709551616
@[irreducible] def hi64 (x y : Nat) : Nat := (x + y) / 18446744073709551616
theorem mulLo_lt (x y : Nat) : mulLo x y < 18446744073709551616 := by unfold mulLo; exact Nat.mod_lt _ (by omega)
theorem lo64_lt (x y : Nat) : lo64 x y < 18446744073709551616 := by unfold lo64; exact Nat.mod_lt _ (by omega)
theorem mul_bound {x y : Nat} (hx : x < 18446744073709551616) (hy : y < 18446744073709551616) : x * y ≤ 340282366920938463426481119284349108225 := by
  have := Nat.mul_le_mul (Nat.le_of_lt_succ hx) (Nat.le_of_lt_succ hy)
  simpa using this
theorem mul_place {x y t c : Nat} (hx : x < 18446744073709551616) (hy : y < 18446744073709551616) (ht : t < 18446744073709551616) (hc : c < 18446744073709551616) :
    mulHi x y + hi64 (mulLo x y) t ≤ 18446744073709551615 ∧ mulHi x y + hi64 (mulLo x y) t + hi64 (lo64 (mulLo x y) t) c = (x * y + t + c) / 18446744073709551616
    ∧ (x * y + t + c) / 18446744073709551616 ≤ 18446744073709551615 ∧ lo64 (lo64 (mulLo x y) t) c = (x * y + t + c) % 18446744073709551616 := by
  have h := mul_bound hx hy
  unfold mulHi hi64 lo64 mulLo
  generalize x * y = p at *
  omega
theorem mod_next (b j : Nat) : b % 2 ^ (64 * (j + 1)) = b % 2 ^ (64 * j) + 2 ^ (64 * j) * wn b j := by
  unfold wn; rw [pow_next, Nat.mod_mul]
theorem mul_inv {T0 T c x b k j : Nat} (h : T + c * 2 ^ (64 * (k + j)) = T0 + x * (b % 2 ^ (64 * j)) * 2 ^ (64 * k)) :
    setw T (k + j) ((x * wn b j + wn T (k + j) + c) % 18446744073709551616) + (x * wn b j + wn T (k + j) + c) / 18446744073709551616 * 2 ^ (64 * (k + (j + 1))) = T0 + x * (b % 2 ^ (64 * (j + 1))) * 2 ^ (64 * k) := by
  rw [show k + (j + 1) = (k + j) + 1 by omega, mul_step, mod_next]
  have e : 2 ^ (64 * (k + j)) = 2 ^ (64 * k) * 2 ^ (64 * j) := by rw [← Nat.pow_add]; congr 1; omega
  rw [e] at h ⊢
  generalize 2 ^ (64 * k) = K at *
  generalize 2 ^ (64 * j) = J at *
  generalize b % J = m at *
  generalize wn b j = y at *
  have e1 : T + (x * y + c) * (K * J) = (T + c * (K * J)) + x * y * (K * J) := by rw [Nat.add_mul]; omega
  have e2 : x * (m + J * y) * K = x * m * K + x * y * (K * J) := by
    rw [Nat.mul_add, Nat.add_mul]
    congr 1
    rw [Nat.mul_comm J y, ← Nat.mul_assoc, Nat.mul_assoc, Nat.mul_comm J K]
  rw [e1, h, e2]; omega
theorem row_next {a b k T c : Nat} (hb : b < 2 ^ 256) (hT : T < 2 ^ (64 * (k + 4))) (h : T + c * 2 ^ (64 * (k + 4)) = (a % 2 ^ (64 * k)) * b + wn a k * (b % 2 ^ (64 * 4)) * 2 ^ (64 * k)) :
    setw T (k + 4) c = (a % 2 ^ (64 * (k + 1))) * b := by
  rw [setw_high _ _ _ hT, h, show 64 * 4 = 256 from rfl, Nat.mod_eq_of_lt hb, mod_next a k, Nat.add_mul]
  generalize 2 ^ (64 * k) = K
  exact congrArg (a % K * b + ·) ((Nat.mul_comm _ _).trans (Nat.mul_assoc _ _ _).symm)
theorem row_lt {a b k : Nat} (hb : b < 2 ^ 256) : (a % 2 ^ (64 * k)) * b < 2 ^ (64 * (k + 4)) := by
  have e : 2 ^ (64 * (k + 4)) = 2 ^ (64 * k) * 2 ^ 256 := by rw [← Nat.pow_add]; congr 1
  rw [e]
  exact Nat.mul_lt_mul_of_lt_of_le (Nat.mod_lt _ (Nat.pow_pos (by omega))) (Nat.le_of_lt hb) (Nat.pow_pos (by omega))
@[irreducible] def MulRow (a b k j T d : Nat) : Prop := T < 2 ^ (64 * (k + 4)) ∧ T + d * 2 ^ (64 * (k + j)) = (a % 2 ^ (64 * k)) * b + wn a k * (b % 2 ^ (64 * j)) * 2 ^ (64 * k)
@[irreducible] def rowsIn (a b k : Nat) : Nat := (a % 2 ^ (64 * k)) * b
theorem MulRow.start {a b k : Nat} (hb : b < 2 ^ 256) : MulRow a b k 0 (rowsIn a b k) 0 := by
  unfold MulRow rowsIn
  exact ⟨row_lt hb, by simp [Nat.mod_one]⟩
theorem MulRow.next {a b k j T d : Nat} (hj : j < 4) (h : MulRow a b k j T d) :
    MulRow a b k (j + 1) (setw T (k + j) ((wn a k * wn b j + wn T (k + j) + d) % 18446744073709551616)) ((wn a k * wn b j + wn T (k + j) + d) / 18446744073709551616) := by
  unfold MulRow at *
  exact ⟨setw_lt _ _ _ _ (Nat.mod_lt _ (by omega)) (by omega) h.1, mul_inv h.2⟩
theorem MulRow.done {a b k T d : Nat} (hb : b < 2 ^ 256) (h : MulRow a b k 4 T d) : setw T (k + 4) d = rowsIn a b (k + 1) := by
  unfold MulRow rowsIn at *
  exact row_next hb h.1 h.2
theorem rowsIn_zero (a b : Nat) : rowsIn a b 0 = 0 := by unfold rowsIn; simp [Nat.mod_one]
theorem rowsIn_four {a b : Nat} (ha : a < 2 ^ 256) : rowsIn a b 4 = a * b := by unfold rowsIn; rw [show 64 * 4 = 256 from rfl, Nat.mod_eq_of_lt ha]
theorem wd_high (P i : Nat) : wd P (4 + i) = wd (P / 2 ^ 256) i := by
  unfold wd
  rw [show 64 * (4 + i) = 256 + 64 * i by omega, Nat.pow_add, Nat.div_div_eq_div_mul]
theorem prod_lt {a b : Nat} (ha : a < 2 ^ 256) (hb : b < 2 ^ 256) : a * b / 2 ^ 256 < 2 ^ 256 := by
  have hp : 0 < 2 ^ 256 := Nat.pow_pos (by omega)
  generalize 2 ^ 256 = M at *
  rw [Nat.div_lt_iff_lt_mul hp]
  exact Nat.mul_lt_mul_of_lt_of_le ha (Nat.le_of_lt hb) hp
theorem prod_high {a b : Nat} : a * b / 2 ^ 256 = 0 ↔ a * b < 2 ^ 256 := by
  have hp : 0 < 2 ^ 256 := Nat.pow_pos (by omega)
  rw [Nat.div_eq_zero_iff]
  generalize 2 ^ 256 = M at *
  omega
@[irreducible] def tw (a c : Nat) : Nat := (2 * a + c) % 2 ^ 256
@[irreducible] def twLost (a c : Nat) : Nat := (2 * a + c) / 2 ^ 256
theorem tw_words {a c : Nat} (ha : a < 2 ^ 256) (hc : c ≤ 1) : wd (tw a c) 0 = (wd a 0 * 2) % 18446744073709551616 + c ∧ wd (tw a c) 1 = (wd a 1 * 2) % 18446744073709551616 + wd a 0 / 9223372036854775808
    ∧ wd (tw a c) 2 = (wd a 2 * 2) % 18446744073709551616 + wd a 1 / 9223372036854775808 ∧ wd (tw a c) 3 = (wd a 3 * 2) % 18446744073709551616 + wd a 2 / 9223372036854775808 ∧ (twLost a c : Int) = wd a 3 / 9223372036854775808 := by
  have ha := lt256 a ha
  unfold tw twLost
  rw [wd_mod _ 0 (by omega), wd_mod _ 1 (by omega), wd_mod _ 2 (by omega), wd_mod _ 3 (by omega)]
  rw [wd0, wd0, wd1, wd1, wd2, wd2, wd3, wd3]
  refine ⟨by omega, by omega, by omega, by omega, by omega⟩
theorem dbl_or (x c : Int) (hx : 0 ≤ x) (hx' : x ≤ 18446744073709551615) (hc : c = 0 ∨ c = 1) : bits .or .u64 (IntKind.u64.wrap (x * 2)) c = (x * 2) % 18446744073709551616 + c := by
  rw [IntKind.wrap_u64, u64_or _ _ (by omega) (by omega) (by omega) (by omega), nat_join 1 _ _ (by omega) (by omega)]
  omega
@[irreducible] def bitN (a n : Nat) : Nat := a / 2 ^ n % 2
theorem bitN_le (a n : Nat) : bitN a n ≤ 1 := by unfold bitN; omega
theorem bit_wd (a n : Nat) : bits .and .u64 (wd a (n / 64) / 2 ^ (n % 64)) 1 = (bitN a n : Int) := by
  have hw := wn_lt a (n / 64)
  rw [wd_wn]
  have e : ((wn a (n / 64) : Nat) : Int) / 2 ^ (n % 64) = ((wn a (n / 64) / 2 ^ (n % 64) : Nat) : Int) := by rw [Int.natCast_ediv, Int.natCast_pow]; rfl
  have hl : wn a (n / 64) / 2 ^ (n % 64) < 18446744073709551616 := Nat.lt_of_le_of_lt (Nat.div_le_self _ _) hw
  rw [e, show (1 : Int) = ((1 : Nat) : Int) from rfl, u64_and_nat _ _ hl (by omega), nat_mask1]
  unfold bitN wn
  have hm : n % 64 < 64 := Nat.mod_lt _ (by omega)
  have hn : n = 64 * (n / 64) + n % 64 := (Nat.div_add_mod n 64).symm
  generalize n % 64 = m at *
  generalize n / 64 = q at *
  subst hn
  rw [Nat.pow_add, ← Nat.div_div_eq_div_mul]
  generalize a / 2 ^ (64 * q) = x
  have e2 : 18446744073709551616 = 2 ^ m * (2 * 2 ^ (63 - m)) := by
    rw [← Nat.mul_assoc, Nat.mul_comm (2 ^ m) 2, Nat.mul_assoc, ← Nat.pow_add, show m + (63 - m) = 63 by omega]
  rw [e2, Nat.mod_mul_right_div_self, Nat.mod_mul_right_mod]
end Go.Proofs.YthikaimhmpenhaaDoor.Wd

namespace Go.Proofs.YthikaimhmpenhaaDoor
set_option linter.all false
open Go Go.RowKit Wd
set_option maxRecDepth 100000
theorem get_words4 (b j : Nat) (hj : j < 4) : (#[.int .u64 (wd (b) 0), .int .u64 (wd (b) 1), .int .u64 (wd (b) 2), .int .u64 (wd (b) 3)] : Array Value)[j]? = some (.int .u64 (wd b j)) := by
  match j, hj with
  | 0, _ | 1, _ | 2, _ | 3, _ => rfl
theorem get_words8 (b j : Nat) (hj : j < 8) : (#[.int .u64 (wd (b) 0), .int .u64 (wd (b) 1), .int .u64 (wd (b) 2), .int .u64 (wd (b) 3), .int .u64 (wd (b) 4), .int .u64 (wd (b) 5), .int .u64 (wd (b) 6), .int .u64 (wd (b) 7)] : Array Value)[j]? = some (.int .u64 (wd b j)) := by
  match j, hj with
  | 0, _ | 1, _ | 2, _ | 3, _ | 4, _ | 5, _ | 6, _ | 7, _ => rfl
theorem get_words8_out (b j : Nat) (hj : 8 ≤ j) : (#[.int .u64 (wd (b) 0), .int .u64 (wd (b) 1), .int .u64 (wd (b) 2), .int .u64 (wd (b) 3), .int .u64 (wd (b) 4), .int .u64 (wd (b) 5), .int .u64 (wd (b) 6), .int .u64 (wd (b) 7)] : Array Value)[j]? = none := by
  simp; omega
theorem index_mag (b j : Nat) (hj : j < 4) (w : World) : (Instr.index 35 (.agg #[.int .u64 (wd (b) 0), .int .u64 (wd (b) 1), .int .u64 (wd (b) 2), .int .u64 (wd (b) 3)]) (.int .i64 (j : Int))).run Tryd.prog w = .ok (.int .u64 (wd b j)) w := by
  obtain rfl | rfl | rfl | rfl : j = 0 ∨ j = 1 ∨ j = 2 ∨ j = 3 := by omega
  all_goals kernel_rfl
theorem set_word8 {w : World} {B T s v : Nat} (hs : s < 8) (hv : v < 18446744073709551616) (h : ∀ o, w.cell? ⟨B, o, none⟩ = (#[.int .u64 (wd (T) 0), .int .u64 (wd (T) 1), .int .u64 (wd (T) 2), .int .u64 (wd (T) 3), .int .u64 (wd (T) 4), .int .u64 (wd (T) 5), .int .u64 (wd (T) 6), .int .u64 (wd (T) 7)] : Array Value)[o]?) :
    ∀ o, (w.setCell ⟨B, s, none⟩ (.int .u64 (v : Int))).cell? ⟨B, o, none⟩ = (#[.int .u64 (wd (setw T s v) 0), .int .u64 (wd (setw T s v) 1), .int .u64 (wd (setw T s v) 2), .int .u64 (wd (setw T s v) 3), .int .u64 (wd (setw T s v) 4), .int .u64 (wd (setw T s v) 5), .int .u64 (wd (setw T s v) 6), .int .u64 (wd (setw T s v) 7)] : Array Value)[o]? := by
  intro o
  by_cases ho : o = s
  · subst ho
    rw [World.cell?_setCell_same _ _ _ (u := .int .u64 (wd T o)) (by rw [h, get_words8 T o hs]), get_words8 _ o hs, wd_set_same T o v hv]
  · rw [World.cell?_setCell_other _ _ _ _ (by intro e; exact ho (congrArg Addr.off e).symm), h]
    by_cases h8 : o < 8
    · rw [get_words8 T o h8, get_words8 _ o h8]
      rcases Nat.lt_or_gt_of_ne ho with h1 | h1
      · rw [wd_set_low T s v o h1]
      · rw [wd_set_high T s v o hv h1]
    · rw [get_words8_out T o (by omega), get_words8_out _ o (by omega)]
theorem set_far {w : World} {B B' s : Nat} {v : Value} {xs : Array Value} (hB : B ≠ B') (h : ∀ o, w.cell? ⟨B', o, none⟩ = xs[o]?) : ∀ o, (w.setCell ⟨B, s, none⟩ v).cell? ⟨B', o, none⟩ = xs[o]? := by
  intro o
  rw [World.cell?_setCell_other _ _ _ _ (by intro e; exact hB (congrArg Addr.block e)), h]
def MulMem (w : World) (s t : Bool) (a b T : Nat) (wr : World) : Prop :=
  (∀ o, wr.cell? ⟨w.heap.size, o, none⟩ = (#[.bool (s), .int .u64 (wd (a) 0), .int .u64 (wd (a) 1), .int .u64 (wd (a) 2), .int .u64 (wd (a) 3)] : Array Value)[o]?) ∧ (∀ o, wr.cell? ⟨w.heap.size + 1, o, none⟩ = (#[.bool (t), .int .u64 (wd (b) 0), .int .u64 (wd (b) 1), .int .u64 (wd (b) 2), .int .u64 (wd (b) 3)] : Array Value)[o]?)
  ∧ (∀ o, wr.cell? ⟨w.heap.size + 1 + 1, o, none⟩ = (#[.bool false, .int .u64 0, .int .u64 0, .int .u64 0, .int .u64 0] : Array Value)[o]?)
  ∧ (∀ o, wr.cell? ⟨w.heap.size + 1 + 1 + 1, o, none⟩ = (#[.int .u64 (wd (T) 0), .int .u64 (wd (T) 1), .int .u64 (wd (T) 2), .int .u64 (wd (T) 3), .int .u64 (wd (T) 4), .int .u64 (wd (T) 5), .int .u64 (wd (T) 6), .int .u64 (wd (T) 7)] : Array Value)[o]?)
  ∧ (∀ o, wr.frozen? ⟨w.heap.size + 1 + 1, o, none⟩ = false) ∧ (∀ o, wr.frozen? ⟨w.heap.size + 1 + 1 + 1, o, none⟩ = false)
  ∧ w.heap.size + 1 + 1 + 1 < wr.heap.size ∧ Below w.heap.size w wr
theorem MulMem.set {w wr : World} {s t : Bool} {a b T j v : Nat} (hj : j < 8) (hv : v < 18446744073709551616) (h : MulMem w s t a b T wr) :
    MulMem w s t a b (setw T j v) (wr.setCell ⟨w.heap.size + 1 + 1 + 1, j, none⟩ (.int .u64 (v : Int))) := by
  obtain ⟨c0, c1, c2, c3, f2, f3, z, hb⟩ := h
  exact ⟨set_far (by omega) c0, set_far (by omega) c1, set_far (by omega) c2, set_word8 hj hv c3, fun o => by rw [World.frozen?_setCell]; exact f2 o, fun o => by rw [World.frozen?_setCell]; exact f3 o, by simpa using z, hb.setCell (by simp; omega) _⟩
theorem array_at (b o : Nat) (w : World) : (Instr.arrayAt 35 (.slice (some ⟨b, o, none⟩) 4 4)).run Tryd.prog w = .ok (.pointer (some ⟨b, o, none⟩)) w := by kernel_rfl
theorem array_at8 (b o : Nat) (w : World) : (Instr.arrayAt 35 (.slice (some ⟨b, o, none⟩) 4 8)).run Tryd.prog w = .ok (.pointer (some ⟨b, o, none⟩)) w := by kernel_rfl
theorem eq_high (P : Nat) (hP : P / 2 ^ 256 < 2 ^ 256) (w : World) : (Op.equalIn 10000 35 (.agg #[.int .u64 (wd P 4), .int .u64 (wd P 5), .int .u64 (wd P 6), .int .u64 (wd P 7)]) (.agg #[.int .u64 0, .int .u64 0, .int .u64 0, .int .u64 0])).run Tryd.prog w = .ok (eqN (P / 2 ^ 256) 0) w := by
  have h := eq_mag0 (P / 2 ^ 256) hP w
  rw [← wd_high P 0, ← wd_high P 1, ← wd_high P 2, ← wd_high P 3] at h
  exact h
theorem val_mul (s t : Bool) (a b : Nat) : val s a * val t b = val (!(s == t)) (a * b) := by
  unfold val; cases s <;> cases t <;> simp [Int.neg_mul, Int.mul_neg]
theorem wd_zero8 (i : Nat) : wd 0 i = 0 := by unfold wd; simp
theorem run_add64_nn (x y : Nat) (hx : x < 18446744073709551616) (hy : y < 18446744073709551616) (w : World) : (callFunc 93 #[.int .u64 (x : Int), .int .u64 (y : Int), .int .u64 0]).run Tryd.prog w =
      .ok (.value (.tuple #[.int .u64 (lo64 x y : Int), .int .u64 (hi64 x y : Int)])) w := by
  rw [run_callFunc_extern Tryd.func93 (by kernel_rfl) (by kernel_rfl) (by kernel_rfl) (e := add64Entry) (by kernel_rfl)]
  rw [run_add64 x y 0 (by omega) (by omega) (by omega) (by omega)]
  unfold lo64 hi64
  simp only [Result.andThen, Int.natCast_emod, Int.natCast_ediv, Int.natCast_add]
  simp
theorem mul64_wd (x y i j : Nat) (w : World) : Calls Tryd.prog 92 #[.int .u64 (wd x i), .int .u64 (wd y j)] w fun e w' => e = .returned (.tuple #[.int .u64 (mulHi (wn x i) (wn y j) : Int), .int .u64 (mulLo (wn x i) (wn y j) : Int)]) ∧ w' = w := by
  rw [wd_wn, wd_wn]
  unfold mulHi mulLo
  exact Tryd.bits_Mul64 _ _ (wn_lt _ _) (wn_lt _ _) w
set_option maxHeartbeats 1000000 in
theorem mul_any (s t : Bool) (a b : Nat) (ha : a < 2 ^ 256) (hb : b < 2 ^ 256) (w : World) :
    Calls Tryd.prog 73 #[(.agg #[.bool (s), .int .u64 (wd (a) 0), .int .u64 (wd (a) 1), .int .u64 (wd (a) 2), .int .u64 (wd (a) 3)]), (.agg #[.bool (t), .int .u64 (wd (b) 0), .int .u64 (wd (b) 1), .int .u64 (wd (b) 2), .int .u64 (wd (b) 3)])] w fun e w' => e = .returned (.tuple #[(.agg #[.bool (zs (fitZ (val s a * val t b))), .int .u64 (wd (Int.natAbs (fitZ (val s a * val t b))) 0), .int .u64 (wd (Int.natAbs (fitZ (val s a * val t b))) 1), .int .u64 (wd (Int.natAbs (fitZ (val s a * val t b))) 2), .int .u64 (wd (Int.natAbs (fitZ (val s a * val t b))) 3)]), .int .i64 (fitE (val s a * val t b))]) ∧ Below w.heap.size w w' := by
  have HA := Lib.hid ha
  have HB := Lib.hid hb
  clear ha hb
  go_enter Tryd.func73, Tryd.ntmps73
  go_wp2
  go_loopw [17] (fun i wr => ∃ k : Nat, k ≤ 4 ∧ i = .int .i64 k ∧ MulMem w s t a b (rowsIn a b k) wr) (fun i _ => 4 - (intOf i).toNat)
  case atStart =>
    refine ⟨0, by omega, rfl, ?_⟩
    rw [rowsIn_zero]
    refine ⟨fun o => by simp [go_sem], fun o => by simp [go_sem], fun o => by simp [go_sem], fun o => ?_, fun o => by simp [go_sem], fun o => by simp [go_sem], by simp, by go_grown⟩
    simp only [wd_zero8]
    simp [go_sem]
  case round =>
    obtain ⟨k, hk, rfl, HM⟩ := hrel
    by_cases hlt : k < 4
    · have hd0 : decide ((k : Int) < 4) = true := by simp; omega
      have hi := index_mag a k hlt
      have hc1 := HM.2.1
      obtain ⟨wo, rfl⟩ : ∃ wo : World, wo = wr := ⟨_, rfl⟩
      go_wp2
      clear hi hc1
      go_loopw [9, 23] (fun c i wi => ∃ j T d : Nat, j ≤ 4 ∧ i = .int .i64 j ∧ c = .int .u64 d ∧ d ≤ 18446744073709551615 ∧ MulRow a b k j T d ∧ MulMem w s t a b T wi) (fun _ i _ => 4 - (intOf i).toNat)
      case atStart =>
        exact ⟨0, rowsIn a b k, 0, by omega, rfl, rfl, by omega, MulRow.start HB.out, HM⟩
      case round =>
        obtain ⟨j, T, d, hj, rfl, rfl, hd, HR, HI⟩ := hrel
        by_cases hlj : j < 4
        · have hi := index_mag b j hlj
          have hcell : wr.cell? ⟨w.heap.size + 1 + 1 + 1, k + j, none⟩ = some (.int .u64 (wn T (k + j) : Int)) := by rw [HI.2.2.2.1, get_words8 T (k + j) (by omega), wd_wn]
          have hfro : wr.frozen? ⟨w.heap.size + 1 + 1 + 1, k + j, none⟩ = false := HI.2.2.2.2.2.1 _
          have hm := Lib.hid (mul64_wd a b k j)
          have ha1 := run_add64_nn (mulLo (wn a k) (wn b j)) (wn T (k + j)) (mulLo_lt _ _) (wn_lt _ _)
          have ha2 := run_add64_nn (lo64 (mulLo (wn a k) (wn b j)) (wn T (k + j))) d (lo64_lt _ _) (by omega)
          have hp := mul_place (wn_lt a k) (wn_lt b j) (wn_lt T (k + j)) (by omega : d < 18446744073709551616)
          have hp1 := hp.1
          have hp2 : mulHi (wn a k) (wn b j) + hi64 (mulLo (wn a k) (wn b j)) (wn T (k + j)) + hi64 (lo64 (mulLo (wn a k) (wn b j)) (wn T (k + j))) d ≤ 18446744073709551615 := by rw [hp.2.1]; exact hp.2.2.1
          have HP := Lib.hid hp
          clear hp
          go_wp2_with fail
          ((with_reducible refine (hm.out _).mono ?_); rintro e w1 ⟨rfl, rfl⟩)
          go_wp2
          go_roundw
          case rel =>
            refine ⟨j + 1, _, _, by omega, by go_num, ?_, ?_, MulRow.next hlj HR, ?_⟩
            · exact congrArg (Value.int .u64) (by rw [← HP.out.2.1]; simp)
            · have := HP.out.2.2.1; omega
            · rw [HP.out.2.2.2]; exact HI.set (by omega) (Nat.mod_lt _ (by omega))
          case measure => simp [intOf]; omega
        · obtain rfl : j = 4 := by omega
          have hcell : wr.cell? ⟨w.heap.size + 1 + 1 + 1, k + 4, none⟩ = some (.int .u64 (wn T (k + 4) : Int)) := by rw [HI.2.2.2.1, get_words8 T (k + 4) (by omega), wd_wn]
          have hfro : wr.frozen? ⟨w.heap.size + 1 + 1 + 1, k + 4, none⟩ = false := HI.2.2.2.2.2.1 _
          go_wp2
          go_roundw
          case rel =>
            refine ⟨k + 1, by omega, by go_num, ?_⟩
            rw [← MulRow.done HB.out HR]
            exact HI.set (by omega) (by omega)
          case measure => simp [intOf]; omega
    · obtain rfl : k = 4 := by omega
      rw [rowsIn_four HA.out] at HM
      obtain ⟨c0, c1, c2, c3, f2, f3, hz, hb⟩ := HM
      have k1 := array_at
      have k2 := array_at8
      have k3 := eq_high (a * b) (prod_lt HA.out HB.out)
      by_cases hP : a * b < 2 ^ 256
      · have k4 : eqN (a * b / 2 ^ 256) 0 = true := by unfold eqN; simpa using prod_high.2 hP
        rw [k4] at k3
        have H4 := Lib.hid (signed_any (!(s == t)) (a * b) hP)
        have HP := Lib.hid hP
        clear k4 hP
        go_wp2_with fail
        refine wp_world (fun x => (∀ o, x.cell? ⟨w.heap.size, o, none⟩ = (#[.bool (s), .int .u64 (wd (a) 0), .int .u64 (wd (a) 1), .int .u64 (wd (a) 2), .int .u64 (wd (a) 3)] : Array Value)[o]?) ∧ (∀ o, x.cell? ⟨w.heap.size + 1, o, none⟩ = (#[.bool (t), .int .u64 (wd (b) 0), .int .u64 (wd (b) 1), .int .u64 (wd (b) 2), .int .u64 (wd (b) 3)] : Array Value)[o]?) ∧ (∀ o, x.cell? ⟨w.heap.size + 1 + 1 + 1, o, none⟩ = (#[.int .u64 (wd (a * b) 0), .int .u64 (wd (a * b) 1), .int .u64 (wd (a * b) 2), .int .u64 (wd (a * b) 3), .int .u64 (wd (a * b) 4), .int .u64 (wd (a * b) 5), .int .u64 (wd (a * b) 6), .int .u64 (wd (a * b) 7)] : Array Value)[o]?) ∧ (∀ o, x.cell? ⟨w.heap.size + 1 + 1, o, none⟩ = (#[.bool false, .int .u64 0, .int .u64 0, .int .u64 0, .int .u64 0] : Array Value)[o]?) ∧ (∀ o, x.frozen? ⟨w.heap.size + 1 + 1, o, none⟩ = false) ∧ w.heap.size < x.heap.size ∧ w.heap.size + 1 < x.heap.size ∧ w.heap.size + 1 + 1 + 1 < x.heap.size ∧ w.heap.size + 1 + 1 < x.heap.size ∧ Below w.heap.size w x) (by (repeat' apply And.intro) <;> first | (intro o; simp [go_sem, c0, c1, c2, c3, f2, hz]; done) | (simp [go_sem, c0, c1, c2, c3, f2, hz]; done) | (intro o; rcases o with _ | _ | _ | _ | _ | o <;> simp [go_sem, c0, c1, c2, c3, f2, hz]; done) | ((repeat' first | (with_reducible first | exact Bq0 | assumption | refine Bq1 ?_ | refine Bq2 ?_ | refine Bq3 ?_ ?_ | refine Bq4 ?_ (by assumption)) | go_size); done) | omega | (simp [go_sem, c0, c1, c2, c3, f2, hz]; omega)) ?_
        rintro W ⟨hWc0, hWc1, hWc2, hWc3, hWf0, hWz0, hWz1, hWz2, hWz3, hWb⟩
        have hWK := Lib.hid (show ∀ x : World, Kp W.heap.size [w.heap.size + 1 + 1] W x → ((∀ o, x.cell? ⟨w.heap.size, o, none⟩ = (#[.bool (s), .int .u64 (wd (a) 0), .int .u64 (wd (a) 1), .int .u64 (wd (a) 2), .int .u64 (wd (a) 3)] : Array Value)[o]?) ∧ (∀ o, x.cell? ⟨w.heap.size + 1, o, none⟩ = (#[.bool (t), .int .u64 (wd (b) 0), .int .u64 (wd (b) 1), .int .u64 (wd (b) 2), .int .u64 (wd (b) 3)] : Array Value)[o]?) ∧ (∀ o, x.cell? ⟨w.heap.size + 1 + 1 + 1, o, none⟩ = (#[.int .u64 (wd (a * b) 0), .int .u64 (wd (a * b) 1), .int .u64 (wd (a * b) 2), .int .u64 (wd (a * b) 3), .int .u64 (wd (a * b) 4), .int .u64 (wd (a * b) 5), .int .u64 (wd (a * b) 6), .int .u64 (wd (a * b) 7)] : Array Value)[o]?) ∧ (∀ o, x.frozen? ⟨w.heap.size + 1 + 1, o, none⟩ = false) ∧ w.heap.size < x.heap.size ∧ w.heap.size + 1 < x.heap.size ∧ w.heap.size + 1 + 1 + 1 < x.heap.size ∧ w.heap.size + 1 + 1 < x.heap.size ∧ W.heap.size ≤ x.heap.size) from fun x k => ⟨fun o => (k.cell _ o hWz0 (by first | (simp; done) | (simp; omega))).trans (hWc0 o), fun o => (k.cell _ o hWz1 (by first | (simp; done) | (simp; omega))).trans (hWc1 o), fun o => (k.cell _ o hWz2 (by first | (simp; done) | (simp; omega))).trans (hWc2 o), fun o => (k.froz _ o hWz3).trans (hWf0 o), Nat.lt_of_lt_of_le hWz0 k.size, Nat.lt_of_lt_of_le hWz1 k.size, Nat.lt_of_lt_of_le hWz2 k.size, Nat.lt_of_lt_of_le hWz3 k.size, k.size⟩)
        go_region_held3 (fun x => (∀ o, x.cell? ⟨w.heap.size, o, none⟩ = (#[.bool (s), .int .u64 (wd (a) 0), .int .u64 (wd (a) 1), .int .u64 (wd (a) 2), .int .u64 (wd (a) 3)] : Array Value)[o]?) ∧ (∀ o, x.cell? ⟨w.heap.size + 1, o, none⟩ = (#[.bool (t), .int .u64 (wd (b) 0), .int .u64 (wd (b) 1), .int .u64 (wd (b) 2), .int .u64 (wd (b) 3)] : Array Value)[o]?) ∧ (∀ o, x.cell? ⟨w.heap.size + 1 + 1 + 1, o, none⟩ = (#[.int .u64 (wd (a * b) 0), .int .u64 (wd (a * b) 1), .int .u64 (wd (a * b) 2), .int .u64 (wd (a * b) 3), .int .u64 (wd (a * b) 4), .int .u64 (wd (a * b) 5), .int .u64 (wd (a * b) 6), .int .u64 (wd (a * b) 7)] : Array Value)[o]?) ∧ (∀ o, x.frozen? ⟨w.heap.size + 1 + 1, o, none⟩ = false) ∧ w.heap.size < x.heap.size ∧ w.heap.size + 1 < x.heap.size ∧ w.heap.size + 1 + 1 + 1 < x.heap.size ∧ w.heap.size + 1 + 1 < x.heap.size ∧ W.heap.size ≤ x.heap.size) ((refine hWK.out _ ?_; (repeat first | (with_reducible first | assumption | exact Kq0 | refine Kq1 ?_ | refine Kq2 ?_) | ((with_reducible refine Kq3 ?_ ?_); focus first | (left; go_size; done) | (right; simp; done)) | (with_reducible apply Kp.later; assumption)))) ((first | (go_at_call 84; (with_reducible refine (H4.out _).mono ?_); rintro e W_1 ⟨rfl, hbW_1⟩; have hkW_1 : Kp W.heap.size [] W W_1 := (by (repeat first | (with_reducible first | assumption | exact Kq0 | refine Kq1 ?_ | refine Kq2 ?_) | ((with_reducible refine Kq3 ?_ ?_); focus first | (left; go_size; done) | (right; simp; done)) | (with_reducible apply Kp.later; assumption))); have hW_1c3 := fun o => (hkW_1.cell _ o hWz3 (by simp)).trans (hWc3 o); have hW_1f0 := fun o => (hkW_1.froz _ o hWz3).trans (hWf0 o); have hW_1z3 := Nat.lt_of_lt_of_le hWz3 hkW_1.size)))
        go_wp2_with ((with_reducible show bodyPost _ _ _ _ _ _); refine bodyPost_ret (by simp [results, Tryd.results73, go_sem, hW_1c3, hW_1z3]; try rfl) rfl ?_; exact ⟨by rw [val_mul s t a b, fitZ_in (by rw [abs_val]; exact HP.out), fitE_in (by rw [abs_val]; exact HP.out)], by (repeat' first | (with_reducible first | exact Bq0 | assumption | refine Bq1 ?_ | refine Bq2 ?_ | refine Bq3 ?_ ?_ | refine Bq4 ?_ (by assumption)) | go_size)⟩)
      · have k4 : eqN (a * b / 2 ^ 256) 0 = false := by
          unfold eqN; simp only [decide_eq_false_iff_not]; exact fun h => hP (prod_high.1 h)
        rw [k4] at k3
        have HP := Lib.hid hP
        clear k4 hP
        go_wp2_with ((with_reducible show bodyPost _ _ _ _ _ _); refine bodyPost_ret (by simp [results, Tryd.results73, go_sem, c2, hz]; try rfl) rfl ?_; exact ⟨by rw [val_mul s t a b, fitZ_out (by rw [abs_val]; exact HP.out), fitE_out (by rw [abs_val]; exact HP.out), zs_zero, Int.natAbs_zero, wd_zero.1, wd_zero.2.1, wd_zero.2.2.1, wd_zero.2.2.2], by (repeat' first | (with_reducible first | exact Bq0 | assumption | refine Bq1 ?_ | refine Bq2 ?_ | refine Bq3 ?_ ?_ | refine Bq4 ?_ (by assumption)) | go_size)⟩)
end Go.Proofs.YthikaimhmpenhaaDoor

namespace Go.Proofs.YthikaimhmpenhaaDoor
set_option linter.all false
open Go Go.RowKit Wd
set_option maxRecDepth 100000
set_option maxHeartbeats 1000000 in
theorem twice_any (a c : Nat) (ha : a < 2 ^ 256) (hc : c ≤ 1) (w : World) :
    Calls Tryd.prog 91 #[(.agg #[.int .u64 (wd (a) 0), .int .u64 (wd (a) 1), .int .u64 (wd (a) 2), .int .u64 (wd (a) 3)]), .int .u64 (c : Int)] w fun e w' => e = .returned (.tuple #[(.agg #[.int .u64 (wd (tw a c) 0), .int .u64 (wd (tw a c) 1), .int .u64 (wd (tw a c) 2), .int .u64 (wd (tw a c) 3)]), .int .u64 (twLost a c : Int)]) ∧ Below w.heap.size w w' := by
  have i0 := index_mag a 0 (by omega)
  have i1 := index_mag a 1 (by omega)
  have i2 := index_mag a 2 (by omega)
  have i3 := index_mag a 3 (by omega)
  simp only [Int.natCast_zero, Int.cast_ofNat_Int] at i0 i1 i2 i3
  have T := tw_words ha hc
  have b0 := wd_lo a 0
  have b1 := wd_lo a 1
  have b2 := wd_lo a 2
  have b3 := wd_lo a 3
  have d0 := wd_hi a 0
  have d1 := wd_hi a 1
  have d2 := wd_hi a 2
  have d3 := wd_hi a 3
  rw [T.1, T.2.1, T.2.2.1, T.2.2.2.1, T.2.2.2.2, ← dbl_or (wd a 0) c b0 d0 (by omega), ← dbl_or (wd a 1) _ b1 d1 (by omega), ← dbl_or (wd a 2) _ b2 d2 (by omega), ← dbl_or (wd a 3) _ b3 d3 (by omega)]
  clear T b0 b1 b2 b3 d0 d1 d2 d3 ha hc
  go_enter Tryd.func91, Tryd.ntmps91
  go_wp2
  refine wp_loop_rounds 5 ?_
  iterate 5 (rw [rounds_succ]; go_wp2)
  go_returns
  exact ⟨rfl, by go_grown⟩
end Go.Proofs.YthikaimhmpenhaaDoor

namespace Go.Proofs.YthikaimhmpenhaaDoor.Wd
set_option linter.all false
@[irreducible] def DivInv (a b k Q R : Nat) : Prop := Q = a / 2 ^ k / b * 2 ^ k ∧ R = a / 2 ^ k % b
theorem DivInv.start {a b : Nat} (ha : a < 2 ^ 256) : DivInv a b 256 0 0 := by
  unfold DivInv
  rw [Nat.div_eq_of_lt ha]; simp
theorem DivInv.done {a b Q R : Nat} (h : DivInv a b 0 Q R) : Q = a / b ∧ R = a % b := by
  unfold DivInv at h
  simpa using h
theorem DivInv.rest_lt {a b k Q R : Nat} (hb : 0 < b) (h : DivInv a b k Q R) : R < b := by
  unfold DivInv at h
  rw [h.2]; exact Nat.mod_lt _ hb
theorem half_split (a n : Nat) : a / 2 ^ n = 2 * (a / 2 ^ (n + 1)) + bitN a n := by
  unfold bitN
  rw [Nat.pow_succ, ← Nat.div_div_eq_div_mul]; omega
theorem div_twice {x b c R : Nat} (hb : 0 < b) (hR : R = x % b) (h : b ≤ 2 * R + c) (hc : c ≤ 1) : (2 * x + c) / b = 2 * (x / b) + 1 ∧ (2 * x + c) % b = 2 * R + c - b := by
  have e := Nat.div_add_mod x b
  have hr := Nat.mod_lt x hb
  have e2 : 2 * x + c = (2 * R + c - b) + b * (2 * (x / b) + 1) := by
    rw [Nat.mul_add, Nat.mul_one, Nat.mul_left_comm]; omega
  have hl : 2 * R + c - b < b := by omega
  rw [e2]
  exact ⟨by rw [Nat.add_mul_div_left _ _ hb, Nat.div_eq_of_lt hl]; omega, by rw [Nat.add_mul_mod_self_left, Nat.mod_eq_of_lt hl]⟩
theorem div_twice' {x b c R : Nat} (hb : 0 < b) (hR : R = x % b) (h : 2 * R + c < b) : (2 * x + c) / b = 2 * (x / b) ∧ (2 * x + c) % b = 2 * R + c := by
  have e := Nat.div_add_mod x b
  have e2 : 2 * x + c = (2 * R + c) + b * (2 * (x / b)) := by
    rw [Nat.mul_left_comm]; omega
  rw [e2]
  exact ⟨by rw [Nat.add_mul_div_left _ _ hb, Nat.div_eq_of_lt h]; omega, by rw [Nat.add_mul_mod_self_left, Nat.mod_eq_of_lt h]⟩
theorem DivInv.next_no {a b n Q R : Nat} (hb : 0 < b) (h : DivInv a b (n + 1) Q R) (hT : 2 * R + bitN a n < b) : DivInv a b n Q (2 * R + bitN a n) := by
  unfold DivInv at *
  have h2 := div_twice' hb h.2 hT
  rw [half_split a n, h2.1, h2.2, h.1]
  exact ⟨by rw [Nat.pow_succ]; simp only [Nat.mul_comm, Nat.mul_left_comm, Nat.mul_assoc], rfl⟩
theorem DivInv.next_yes {a b n Q R : Nat} (hb : 0 < b) (h : DivInv a b (n + 1) Q R) (hT : b ≤ 2 * R + bitN a n) : DivInv a b n (Q + 2 ^ n) (2 * R + bitN a n - b) := by
  unfold DivInv at *
  have h2 := div_twice hb h.2 hT (bitN_le a n)
  rw [half_split a n, h2.1, h2.2, h.1]
  exact ⟨by rw [Nat.add_mul, Nat.pow_succ]; simp only [Nat.mul_comm, Nat.mul_left_comm, Nat.mul_assoc, Nat.one_mul, Nat.mul_one], rfl⟩
theorem div_word {b R c : Nat} (hb : b < 2 ^ 256) (hR : R < b) (hc : c ≤ 1) :
    (twLost R c = 1 ∧ b ≤ 2 * R + c ∧ df (tw R c) b = 2 * R + c - b) ∨ (twLost R c = 0 ∧ br (tw R c) b 4 = 0 ∧ b ≤ 2 * R + c ∧ df (tw R c) b = 2 * R + c - b) ∨ (twLost R c = 0 ∧ br (tw R c) b 4 = 1 ∧ 2 * R + c < b ∧ tw R c = 2 * R + c) := by
  have h0 : tw R c < 2 ^ 256 := by unfold tw; exact Nat.mod_lt _ (Nat.pow_pos (by omega))
  rw [br_four h0 hb]
  unfold twLost tw df at *
  generalize 2 ^ 256 = M at *
  by_cases h1 : M ≤ 2 * R + c
  · have e1 : (2 * R + c) / M = 1 := Nat.div_eq_of_lt_le (by omega) (by omega)
    have e2 : (2 * R + c) % M = 2 * R + c - M := by rw [Nat.mod_eq_sub_mod h1, Nat.mod_eq_of_lt (by omega)]
    refine Or.inl ⟨e1, by omega, ?_⟩
    rw [e2, show 2 * R + c - M + M - b = 2 * R + c - b by omega, Nat.mod_eq_of_lt (by omega)]
  · have e1 : (2 * R + c) / M = 0 := Nat.div_eq_of_lt (by omega)
    have e2 : (2 * R + c) % M = 2 * R + c := Nat.mod_eq_of_lt (by omega)
    rw [e1, e2]
    by_cases h2 : 2 * R + c < b
    · exact Or.inr (Or.inr ⟨rfl, by rw [if_pos h2], h2, rfl⟩)
    · refine Or.inr (Or.inl ⟨rfl, by rw [if_neg h2], by omega, ?_⟩)
      rw [show 2 * R + c + M - b = (2 * R + c - b) + M by omega, Nat.add_mod_right, Nat.mod_eq_of_lt (by omega)]
theorem set_bit {Q n h : Nat} (hQ : Q = h * 2 ^ (n + 1)) : setw Q (n / 64) (wn Q (n / 64) + 2 ^ (n % 64)) = Q + 2 ^ n ∧ bits .or .u64 (wd Q (n / 64)) ((2 ^ (n % 64) : Nat) : Int) = ((wn Q (n / 64) + 2 ^ (n % 64) : Nat) : Int) ∧ wn Q (n / 64) + 2 ^ (n % 64) < 18446744073709551616 := by
  have hm : n % 64 < 64 := Nat.mod_lt _ (by omega)
  have hn : n = 64 * (n / 64) + n % 64 := (Nat.div_add_mod n 64).symm
  generalize n % 64 = m at *
  generalize n / 64 = q at *
  subst hn
  have hw : wn Q q = 2 ^ (m + 1) * (h % 2 ^ (63 - m)) := by
    unfold wn
    rw [hQ, show 64 * q + m + 1 = (m + 1) + 64 * q by omega, Nat.pow_add, ← Nat.mul_assoc, Nat.mul_div_cancel _ (Nat.pow_pos (by omega))]
    have e : 18446744073709551616 = 2 ^ (m + 1) * 2 ^ (63 - m) := by rw [← Nat.pow_add, show m + 1 + (63 - m) = 64 by omega]
    rw [e, Nat.mul_comm h, Nat.mul_mod_mul_left]
  have hp := Nat.pow_pos (n := m) (by omega : 0 < 2)
  have hl : wn Q q + 2 ^ m < 18446744073709551616 := by
    have h1 : h % 2 ^ (63 - m) + 1 ≤ 2 ^ (63 - m) := Nat.mod_lt _ (Nat.pow_pos (by omega))
    have h2 := Nat.mul_le_mul_left (2 ^ (m + 1)) h1
    rw [Nat.mul_add, Nat.mul_one, ← Nat.pow_add, show m + 1 + (63 - m) = 64 by omega] at h2
    rw [hw]
    have h3 : 2 ^ (m + 1) = 2 * 2 ^ m := by rw [Nat.pow_succ]; omega
    have h4 : (2 : Nat) ^ 64 = 18446744073709551616 := rfl
    omega
  refine ⟨?_, ?_, hl⟩
  · have hs := split_at Q q
    conv => rhs; rw [hs]
    unfold setw
    rw [Nat.pow_add]
    generalize Q / 2 ^ (64 * q) / 18446744073709551616 = H
    generalize Q % 2 ^ (64 * q) = L
    generalize 2 ^ (64 * q) = p
    generalize 2 ^ m = y
    generalize wn Q q = x
    have e : p * (x + y + 18446744073709551616 * H) = p * (x + 18446744073709551616 * H) + p * y := by
      rw [← Nat.mul_add]; exact congrArg (p * ·) (by omega)
    rw [e]; omega
  · rw [wd_wn, u64_or_nat _ _ (by omega) (by omega)]
    rw [nat_join (m + 1) _ _ (by rw [hw]; exact Nat.mul_mod_right _ _) (by rw [Nat.pow_succ]; omega)]
theorem DivInv.bit {a b n Q R : Nat} (h : DivInv a b (n + 1) Q R) : setw Q (n / 64) (wn Q (n / 64) + 2 ^ (n % 64)) = Q + 2 ^ n ∧ bits .or .u64 (wd Q (n / 64)) (IntKind.u64.wrap (2 ^ (n % 64))) = ((wn Q (n / 64) + 2 ^ (n % 64) : Nat) : Int) ∧ wn Q (n / 64) + 2 ^ (n % 64) < 18446744073709551616 := by
  unfold DivInv at h
  have hs := set_bit h.1
  have hl : 2 ^ (n % 64) < 18446744073709551616 := Nat.lt_of_le_of_lt (Nat.le_add_left _ _) hs.2.2
  have e : IntKind.u64.wrap (2 ^ (n % 64)) = ((2 ^ (n % 64) : Nat) : Int) := by
    rw [IntKind.wrap_u64, show (2 : Int) ^ (n % 64) = ((2 ^ (n % 64) : Nat) : Int) by rw [Int.natCast_pow]; rfl]
    clear hs h
    generalize 2 ^ (n % 64) = y at *
    omega
  rw [e]
  exact hs
end Go.Proofs.YthikaimhmpenhaaDoor.Wd
