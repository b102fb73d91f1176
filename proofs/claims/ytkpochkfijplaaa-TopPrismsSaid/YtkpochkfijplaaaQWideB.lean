/-
  What Add, Sub, Cmp, Of and Int of package wide return, for all inputs.
-/
import Derived.Test.YtkpochkfijplaaaQWideA
import Derived.Test.YtkpochkfijplaaaQKeep

namespace Go.Proofs.Ytkpochkfijplaaa
set_option linter.all false
open Go Go.RowKit Wd
set_option maxRecDepth 100000
set_option maxHeartbeats 400000 in
theorem add_ge (s t : Bool) (a b : Nat) (hst : s = !t) (ha : a < 2 ^ 256) (hb : b < 2 ^ 256) (hab : b ≤ a) (w : World) :
    Calls Try.prog 47 #[(.agg #[.bool (s), .int .u64 (wd (a) 0), .int .u64 (wd (a) 1), .int .u64 (wd (a) 2), .int .u64 (wd (a) 3)]), (.agg #[.bool (t), .int .u64 (wd (b) 0), .int .u64 (wd (b) 1), .int .u64 (wd (b) 2), .int .u64 (wd (b) 3)])] w fun e w' => e = .returned (.tuple #[(.agg #[.bool (zs (fitZ (val s a + val t b))), .int .u64 (wd (Int.natAbs (fitZ (val s a + val t b))) 0), .int .u64 (wd (Int.natAbs (fitZ (val s a + val t b))) 1), .int .u64 (wd (Int.natAbs (fitZ (val s a + val t b))) 2), .int .u64 (wd (Int.natAbs (fitZ (val s a + val t b))) 3)]), .int .i64 (fitE (val s a + val t b))]) ∧ Below w.heap.size w w' := by
  have hbr : br a b 4 = 0 := by rw [br_four ha hb, if_neg (by omega)]
  have hz : val s a + val t b = val s (df a b) := by rw [df_eq ha hab, hst]; unfold val; cases t <;> simp <;> omega
  have hn : (val s a + val t b).natAbs < 2 ^ 256 := by rw [hz, abs_val]; exact df_lt a b
  rw [fitZ_in hn, fitE_in hn, hz]
  have H1 := Lib.hid (minus_any a b (by omega))
  have H2 := Lib.hid (signed_any s (df a b) (df_lt a b))
  clear ha hb hab hz hn
  obtain ⟨rfl, rfl⟩ | ⟨rfl, rfl⟩ : (s = true ∧ t = false) ∨ (s = false ∧ t = true) := by cases s <;> cases t <;> first | exact Or.inl ⟨rfl, rfl⟩ | exact Or.inr ⟨rfl, rfl⟩ | exact absurd hst (by decide)
  all_goals clear hst
  all_goals
    go_enter Try.func47, Try.ntmps47
    go_wp2_with fail
    ((with_reducible refine (H1.out _).mono ?_); rintro e w1 ⟨rfl, hb1⟩)
    obtain ⟨hc1, hf1⟩ := bcell hb1
    have hz1_w_0 : w.heap.size < w1.heap.size := by have h := hb1.size; (try simp at h); omega
    have hz1_w_1 : w.heap.size + 1 < w1.heap.size := by have h := hb1.size; (try simp at h); omega
    have hz1_w_2 : w.heap.size + 1 + 1 < w1.heap.size := by have h := hb1.size; (try simp at h); omega
    go_wp2_with fail
    ((with_reducible refine (H2.out _).mono ?_); rintro e w2 ⟨rfl, hb2⟩)
    obtain ⟨hc2, hf2⟩ := bcell hb2
    have hz2_w_0 : w.heap.size < w2.heap.size := by have h := hb2.size; (try simp at h); omega
    have hz2_w_1 : w.heap.size + 1 < w2.heap.size := by have h := hb2.size; (try simp at h); omega
    have hz2_w_2 : w.heap.size + 1 + 1 < w2.heap.size := by have h := hb2.size; (try simp at h); omega
    go_wp2_with ((with_reducible show bodyPost _ _ _ _ _ _); refine bodyPost_ret (by simp [results, Try.results47, go_sem, hc1, hf1, hz1_w_0, hz1_w_1, hz1_w_2, hc2, hf2, hz2_w_0, hz2_w_1, hz2_w_2]; try rfl) rfl ?_; exact ⟨rfl, by (repeat' (first | (with_reducible exact Below.refl _ _) | (with_reducible assumption) | (with_reducible refine below_alloc ?_ _) | (with_reducible refine Below.drew ?_) | (with_reducible refine Below.setCell ?_ ?_ _) | (with_reducible refine below_after ?_ (by assumption)) | go_size))⟩)
set_option maxHeartbeats 400000 in
theorem add_lt (s t : Bool) (a b : Nat) (hst : s = !t) (ha : a < 2 ^ 256) (hb : b < 2 ^ 256) (hab : a < b) (w : World) :
    Calls Try.prog 47 #[(.agg #[.bool (s), .int .u64 (wd (a) 0), .int .u64 (wd (a) 1), .int .u64 (wd (a) 2), .int .u64 (wd (a) 3)]), (.agg #[.bool (t), .int .u64 (wd (b) 0), .int .u64 (wd (b) 1), .int .u64 (wd (b) 2), .int .u64 (wd (b) 3)])] w fun e w' => e = .returned (.tuple #[(.agg #[.bool (zs (fitZ (val s a + val t b))), .int .u64 (wd (Int.natAbs (fitZ (val s a + val t b))) 0), .int .u64 (wd (Int.natAbs (fitZ (val s a + val t b))) 1), .int .u64 (wd (Int.natAbs (fitZ (val s a + val t b))) 2), .int .u64 (wd (Int.natAbs (fitZ (val s a + val t b))) 3)]), .int .i64 (fitE (val s a + val t b))]) ∧ Below w.heap.size w w' := by
  have hbr : br a b 4 = 1 := by rw [br_four ha hb, if_pos (by omega)]
  have hz : val s a + val t b = val t (df b a) := by rw [df_eq hb (Nat.le_of_lt hab), hst]; unfold val; cases t <;> simp <;> omega
  have hn : (val s a + val t b).natAbs < 2 ^ 256 := by rw [hz, abs_val]; exact df_lt b a
  rw [fitZ_in hn, fitE_in hn, hz]
  have H1 := Lib.hid (minus_any a b (by omega))
  have H3 := Lib.hid (minus_any b a (by omega))
  have H2 := Lib.hid (signed_any t (df b a) (df_lt b a))
  clear ha hb hab hz hn
  obtain ⟨rfl, rfl⟩ | ⟨rfl, rfl⟩ : (s = true ∧ t = false) ∨ (s = false ∧ t = true) := by cases s <;> cases t <;> first | exact Or.inl ⟨rfl, rfl⟩ | exact Or.inr ⟨rfl, rfl⟩ | exact absurd hst (by decide)
  all_goals clear hst
  all_goals
    go_enter Try.func47, Try.ntmps47
    go_wp2_with fail
    ((with_reducible refine (H1.out _).mono ?_); rintro e w1 ⟨rfl, hb1⟩)
    obtain ⟨hc1, hf1⟩ := bcell hb1
    have hz1_w_0 : w.heap.size < w1.heap.size := by have h := hb1.size; (try simp at h); omega
    have hz1_w_1 : w.heap.size + 1 < w1.heap.size := by have h := hb1.size; (try simp at h); omega
    have hz1_w_2 : w.heap.size + 1 + 1 < w1.heap.size := by have h := hb1.size; (try simp at h); omega
    go_wp2_with fail
    ((with_reducible refine (H3.out _).mono ?_); rintro e w2 ⟨rfl, hb2⟩)
    obtain ⟨hc2, hf2⟩ := bcell hb2
    have hz2_w_0 : w.heap.size < w2.heap.size := by have h := hb2.size; (try simp at h); omega
    have hz2_w_1 : w.heap.size + 1 < w2.heap.size := by have h := hb2.size; (try simp at h); omega
    have hz2_w_2 : w.heap.size + 1 + 1 < w2.heap.size := by have h := hb2.size; (try simp at h); omega
    go_wp2_with fail
    ((with_reducible refine (H2.out _).mono ?_); rintro e w3 ⟨rfl, hb3⟩)
    obtain ⟨hc3, hf3⟩ := bcell hb3
    have hz3_w_0 : w.heap.size < w3.heap.size := by have h := hb3.size; (try simp at h); omega
    have hz3_w_1 : w.heap.size + 1 < w3.heap.size := by have h := hb3.size; (try simp at h); omega
    have hz3_w_2 : w.heap.size + 1 + 1 < w3.heap.size := by have h := hb3.size; (try simp at h); omega
    go_wp2_with ((with_reducible show bodyPost _ _ _ _ _ _); refine bodyPost_ret (by simp [results, Try.results47, go_sem, hc1, hf1, hz1_w_0, hz1_w_1, hz1_w_2, hc2, hf2, hz2_w_0, hz2_w_1, hz2_w_2, hc3, hf3, hz3_w_0, hz3_w_1, hz3_w_2]; try rfl) rfl ?_; exact ⟨rfl, by (repeat' (first | (with_reducible exact Below.refl _ _) | (with_reducible assumption) | (with_reducible refine below_alloc ?_ _) | (with_reducible refine Below.drew ?_) | (with_reducible refine Below.setCell ?_ ?_ _) | (with_reducible refine below_after ?_ (by assumption)) | go_size))⟩)
set_option maxHeartbeats 400000 in
theorem add_same (s : Bool) (a b : Nat) (ha : a < 2 ^ 256) (hb : b < 2 ^ 256) (hab : a + b < 2 ^ 256) (w : World) :
    Calls Try.prog 47 #[(.agg #[.bool (s), .int .u64 (wd (a) 0), .int .u64 (wd (a) 1), .int .u64 (wd (a) 2), .int .u64 (wd (a) 3)]), (.agg #[.bool (s), .int .u64 (wd (b) 0), .int .u64 (wd (b) 1), .int .u64 (wd (b) 2), .int .u64 (wd (b) 3)])] w fun e w' => e = .returned (.tuple #[(.agg #[.bool (zs (fitZ (val s a + val s b))), .int .u64 (wd (Int.natAbs (fitZ (val s a + val s b))) 0), .int .u64 (wd (Int.natAbs (fitZ (val s a + val s b))) 1), .int .u64 (wd (Int.natAbs (fitZ (val s a + val s b))) 2), .int .u64 (wd (Int.natAbs (fitZ (val s a + val s b))) 3)]), .int .i64 (fitE (val s a + val s b))]) ∧ Below w.heap.size w w' := by
  have hcr : cr a b 4 = 0 := by rw [cr_four ha hb, if_pos hab]
  have hz : val s a + val s b = val s (sm a b) := by rw [sm_eq hab]; unfold val; cases s <;> simp <;> omega
  have hn : (val s a + val s b).natAbs < 2 ^ 256 := by rw [hz, abs_val]; exact sm_lt a b
  rw [fitZ_in hn, fitE_in hn, hz]
  have H1 := Lib.hid (plus_any a b)
  have H2 := Lib.hid (signed_any s (sm a b) (sm_lt a b))
  clear ha hb hab hz hn
  cases s
  all_goals
    go_enter Try.func47, Try.ntmps47
    go_wp2_with fail
    ((with_reducible refine (H1.out _).mono ?_); rintro e w1 ⟨rfl, hb1⟩)
    obtain ⟨hc1, hf1⟩ := bcell hb1
    have hz1_w_0 : w.heap.size < w1.heap.size := by have h := hb1.size; (try simp at h); omega
    have hz1_w_1 : w.heap.size + 1 < w1.heap.size := by have h := hb1.size; (try simp at h); omega
    have hz1_w_2 : w.heap.size + 1 + 1 < w1.heap.size := by have h := hb1.size; (try simp at h); omega
    go_wp2_with fail
    ((with_reducible refine (H2.out _).mono ?_); rintro e w2 ⟨rfl, hb2⟩)
    obtain ⟨hc2, hf2⟩ := bcell hb2
    have hz2_w_0 : w.heap.size < w2.heap.size := by have h := hb2.size; (try simp at h); omega
    have hz2_w_1 : w.heap.size + 1 < w2.heap.size := by have h := hb2.size; (try simp at h); omega
    have hz2_w_2 : w.heap.size + 1 + 1 < w2.heap.size := by have h := hb2.size; (try simp at h); omega
    go_wp2_with ((with_reducible show bodyPost _ _ _ _ _ _); refine bodyPost_ret (by simp [results, Try.results47, go_sem, hc1, hf1, hz1_w_0, hz1_w_1, hz1_w_2, hc2, hf2, hz2_w_0, hz2_w_1, hz2_w_2]; try rfl) rfl ?_; exact ⟨rfl, by (repeat' (first | (with_reducible exact Below.refl _ _) | (with_reducible assumption) | (with_reducible refine below_alloc ?_ _) | (with_reducible refine Below.drew ?_) | (with_reducible refine Below.setCell ?_ ?_ _) | (with_reducible refine below_after ?_ (by assumption)) | go_size))⟩)
set_option maxHeartbeats 400000 in
theorem add_over (s : Bool) (a b : Nat) (ha : a < 2 ^ 256) (hb : b < 2 ^ 256) (hab : ¬ a + b < 2 ^ 256) (w : World) :
    Calls Try.prog 47 #[(.agg #[.bool (s), .int .u64 (wd (a) 0), .int .u64 (wd (a) 1), .int .u64 (wd (a) 2), .int .u64 (wd (a) 3)]), (.agg #[.bool (s), .int .u64 (wd (b) 0), .int .u64 (wd (b) 1), .int .u64 (wd (b) 2), .int .u64 (wd (b) 3)])] w fun e w' => e = .returned (.tuple #[(.agg #[.bool (zs (fitZ (val s a + val s b))), .int .u64 (wd (Int.natAbs (fitZ (val s a + val s b))) 0), .int .u64 (wd (Int.natAbs (fitZ (val s a + val s b))) 1), .int .u64 (wd (Int.natAbs (fitZ (val s a + val s b))) 2), .int .u64 (wd (Int.natAbs (fitZ (val s a + val s b))) 3)]), .int .i64 (fitE (val s a + val s b))]) ∧ Below w.heap.size w w' := by
  have hcr : cr a b 4 = 1 := by rw [cr_four ha hb, if_neg hab]
  have hn : ¬ (val s a + val s b).natAbs < 2 ^ 256 := by unfold val; cases s <;> simp <;> omega
  rw [fitZ_out hn, fitE_out hn]
  simp only [zs_zero, Int.natAbs_zero, wd_zero.1, wd_zero.2.1, wd_zero.2.2.1, wd_zero.2.2.2]
  have H1 := Lib.hid (plus_any a b)
  clear ha hb hab hn
  cases s
  all_goals
    go_enter Try.func47, Try.ntmps47
    go_wp2_with fail
    ((with_reducible refine (H1.out _).mono ?_); rintro e w1 ⟨rfl, hb1⟩)
    obtain ⟨hc1, hf1⟩ := bcell hb1
    have hz1_w_0 : w.heap.size < w1.heap.size := by have h := hb1.size; (try simp at h); omega
    have hz1_w_1 : w.heap.size + 1 < w1.heap.size := by have h := hb1.size; (try simp at h); omega
    have hz1_w_2 : w.heap.size + 1 + 1 < w1.heap.size := by have h := hb1.size; (try simp at h); omega
    go_wp2_with ((with_reducible show bodyPost _ _ _ _ _ _); refine bodyPost_ret (by simp [results, Try.results47, go_sem, hc1, hf1, hz1_w_0, hz1_w_1, hz1_w_2]; try rfl) rfl ?_; exact ⟨rfl, by (repeat' (first | (with_reducible exact Below.refl _ _) | (with_reducible assumption) | (with_reducible refine below_alloc ?_ _) | (with_reducible refine Below.drew ?_) | (with_reducible refine Below.setCell ?_ ?_ _) | (with_reducible refine below_after ?_ (by assumption)) | go_size))⟩)
/-- Add: the exact sum, or the error. -/
theorem add_any (s t : Bool) (a b : Nat) (ha : a < 2 ^ 256) (hb : b < 2 ^ 256) (w : World) :
    Calls Try.prog 47 #[(.agg #[.bool (s), .int .u64 (wd (a) 0), .int .u64 (wd (a) 1), .int .u64 (wd (a) 2), .int .u64 (wd (a) 3)]), (.agg #[.bool (t), .int .u64 (wd (b) 0), .int .u64 (wd (b) 1), .int .u64 (wd (b) 2), .int .u64 (wd (b) 3)])] w fun e w' => e = .returned (.tuple #[(.agg #[.bool (zs (fitZ (val s a + val t b))), .int .u64 (wd (Int.natAbs (fitZ (val s a + val t b))) 0), .int .u64 (wd (Int.natAbs (fitZ (val s a + val t b))) 1), .int .u64 (wd (Int.natAbs (fitZ (val s a + val t b))) 2), .int .u64 (wd (Int.natAbs (fitZ (val s a + val t b))) 3)]), .int .i64 (fitE (val s a + val t b))]) ∧ Below w.heap.size w w' := by
  by_cases hst : s = t
  · subst hst
    by_cases h : a + b < 2 ^ 256
    · exact add_same s a b ha hb h w
    · exact add_over s a b ha hb h w
  · have hst : s = !t := by cases s <;> cases t <;> simp at *
    by_cases h : b ≤ a
    · exact add_ge s t a b hst ha hb h w
    · exact add_lt s t a b hst ha hb (by omega) w
theorem cmp_nn_any (s t : Bool) (a b : Nat) (ha : a < 2 ^ 256) (hb : b < 2 ^ 256) (hx : zs (val s a) = true) (hy : zs (val t b) = true) (w : World) :
    Calls Try.prog 15 #[(.agg #[.bool (s), .int .u64 (wd (a) 0), .int .u64 (wd (a) 1), .int .u64 (wd (a) 2), .int .u64 (wd (a) 3)]), (.agg #[.bool (t), .int .u64 (wd (b) 0), .int .u64 (wd (b) 1), .int .u64 (wd (b) 2), .int .u64 (wd (b) 3)])] w fun e w' => e = .returned (.int .i64 (cmpZ (val s a) (val t b))) ∧ Below w.heap.size w w' := by
  rw [cmp_nn hx hy]
  have H1 := Lib.hid (negative_any s a ha)
  have H2 := Lib.hid (negative_any t b hb)
  rw [hx] at H1
  rw [hy] at H2
  have H3 := Lib.hid (compare_any b a hb ha)
  clear ha hb hx hy
  go_enter Try.func15, Try.ntmps15
  go_wp2_with fail
  refine wp_world (fun x => (∀ o, x.cell? ⟨w.heap.size, o, none⟩ = (#[.bool (s), .int .u64 (wd (a) 0), .int .u64 (wd (a) 1), .int .u64 (wd (a) 2), .int .u64 (wd (a) 3)] : Array Value)[o]?) ∧ (∀ o, x.cell? ⟨w.heap.size + 1, o, none⟩ = (#[.bool (t), .int .u64 (wd (b) 0), .int .u64 (wd (b) 1), .int .u64 (wd (b) 2), .int .u64 (wd (b) 3)] : Array Value)[o]?) ∧ w.heap.size < x.heap.size ∧ w.heap.size + 1 < x.heap.size ∧ Below w.heap.size w x) ⟨fun o => by first | (simp [go_sem]; done) | (rcases o with _ | _ | _ | _ | _ | o <;> simp [go_sem]), fun o => by first | (simp [go_sem]; done) | (rcases o with _ | _ | _ | _ | _ | o <;> simp [go_sem]), by (first | omega | (simp [go_sem]; done) | (simp [go_sem]; omega)), by (first | omega | (simp [go_sem]; done) | (simp [go_sem]; omega)), by (repeat' (first | (with_reducible exact Below.refl _ _) | (with_reducible assumption) | (with_reducible refine below_alloc ?_ _) | (with_reducible refine Below.drew ?_) | (with_reducible refine Below.setCell ?_ ?_ _) | (with_reducible refine below_after ?_ (by assumption)) | go_size))⟩ ?_
  rintro W ⟨hWc0, hWc1, hWz0, hWz1, hWb⟩
  have hWK := Lib.hid (show ∀ x : World, Kp W.heap.size [] W x → ((∀ o, x.cell? ⟨w.heap.size, o, none⟩ = (#[.bool (s), .int .u64 (wd (a) 0), .int .u64 (wd (a) 1), .int .u64 (wd (a) 2), .int .u64 (wd (a) 3)] : Array Value)[o]?) ∧ (∀ o, x.cell? ⟨w.heap.size + 1, o, none⟩ = (#[.bool (t), .int .u64 (wd (b) 0), .int .u64 (wd (b) 1), .int .u64 (wd (b) 2), .int .u64 (wd (b) 3)] : Array Value)[o]?) ∧ w.heap.size < x.heap.size ∧ w.heap.size + 1 < x.heap.size ∧ W.heap.size ≤ x.heap.size) from fun x k => ⟨fun o => (k.cell _ o hWz0 (by first | (simp; done) | (simp; omega))).trans (hWc0 o), fun o => (k.cell _ o hWz1 (by first | (simp; done) | (simp; omega))).trans (hWc1 o), Nat.lt_of_lt_of_le hWz0 k.size, Nat.lt_of_lt_of_le hWz1 k.size, k.size⟩)
  go_region_held3 (fun x => (∀ o, x.cell? ⟨w.heap.size, o, none⟩ = (#[.bool (s), .int .u64 (wd (a) 0), .int .u64 (wd (a) 1), .int .u64 (wd (a) 2), .int .u64 (wd (a) 3)] : Array Value)[o]?) ∧ (∀ o, x.cell? ⟨w.heap.size + 1, o, none⟩ = (#[.bool (t), .int .u64 (wd (b) 0), .int .u64 (wd (b) 1), .int .u64 (wd (b) 2), .int .u64 (wd (b) 3)] : Array Value)[o]?) ∧ w.heap.size < x.heap.size ∧ w.heap.size + 1 < x.heap.size ∧ W.heap.size ≤ x.heap.size) ((refine hWK.out _ ?_; (repeat (first | (with_reducible assumption) | (with_reducible exact Kp.refl (Nat.le_refl _)) | (with_reducible refine Kp.drew ?_) | (with_reducible refine Kp.alloc ?_ _) | ((with_reducible refine Kp.put ?_ ?_ _); focus (first | (left; go_size; done) | (right; simp; done))) | ((with_reducible apply Kp.later); (with_reducible assumption)))))) ((first | (go_at_call 33; (with_reducible refine (H1.out _).mono ?_); rintro e W_1 ⟨rfl, hbW_1⟩; have hkW_1 : Kp W.heap.size [] W W_1 := (by (repeat (first | (with_reducible assumption) | (with_reducible exact Kp.refl (Nat.le_refl _)) | (with_reducible refine Kp.drew ?_) | (with_reducible refine Kp.alloc ?_ _) | ((with_reducible refine Kp.put ?_ ?_ _); focus (first | (left; go_size; done) | (right; simp; done))) | ((with_reducible apply Kp.later); (with_reducible assumption)))))) | (go_at_call 33; (with_reducible refine (H2.out _).mono ?_); rintro e W_2 ⟨rfl, hbW_2⟩; have hkW_2 : Kp W.heap.size [] W W_2 := (by (repeat (first | (with_reducible assumption) | (with_reducible exact Kp.refl (Nat.le_refl _)) | (with_reducible refine Kp.drew ?_) | (with_reducible refine Kp.alloc ?_ _) | ((with_reducible refine Kp.put ?_ ?_ _); focus (first | (left; go_size; done) | (right; simp; done))) | ((with_reducible apply Kp.later); (with_reducible assumption))))))))
  go_wp2_with fail
  ((with_reducible refine (H3.out _).mono ?_); rintro e w3 ⟨rfl, hb3⟩)
  obtain ⟨hc3, hf3⟩ := bcell hb3
  go_wp2
  go_returns
  exact ⟨rfl, by (repeat' (first | (with_reducible exact Below.refl _ _) | (with_reducible assumption) | (with_reducible refine below_alloc ?_ _) | (with_reducible refine Below.drew ?_) | (with_reducible refine Below.setCell ?_ ?_ _) | (with_reducible refine below_after ?_ (by assumption)) | go_size))⟩
theorem cmp_np_any (s t : Bool) (a b : Nat) (ha : a < 2 ^ 256) (hb : b < 2 ^ 256) (hx : zs (val s a) = true) (hy : zs (val t b) = false) (w : World) :
    Calls Try.prog 15 #[(.agg #[.bool (s), .int .u64 (wd (a) 0), .int .u64 (wd (a) 1), .int .u64 (wd (a) 2), .int .u64 (wd (a) 3)]), (.agg #[.bool (t), .int .u64 (wd (b) 0), .int .u64 (wd (b) 1), .int .u64 (wd (b) 2), .int .u64 (wd (b) 3)])] w fun e w' => e = .returned (.int .i64 (cmpZ (val s a) (val t b))) ∧ Below w.heap.size w w' := by
  rw [cmp_np hx hy]
  have H1 := Lib.hid (negative_any s a ha)
  have H2 := Lib.hid (negative_any t b hb)
  rw [hx] at H1
  rw [hy] at H2
  have H3 := Lib.hid (compare_any a b ha hb)
  clear ha hb hx hy
  go_enter Try.func15, Try.ntmps15
  go_wp2_with fail
  refine wp_world (fun x => (∀ o, x.cell? ⟨w.heap.size, o, none⟩ = (#[.bool (s), .int .u64 (wd (a) 0), .int .u64 (wd (a) 1), .int .u64 (wd (a) 2), .int .u64 (wd (a) 3)] : Array Value)[o]?) ∧ (∀ o, x.cell? ⟨w.heap.size + 1, o, none⟩ = (#[.bool (t), .int .u64 (wd (b) 0), .int .u64 (wd (b) 1), .int .u64 (wd (b) 2), .int .u64 (wd (b) 3)] : Array Value)[o]?) ∧ w.heap.size < x.heap.size ∧ w.heap.size + 1 < x.heap.size ∧ Below w.heap.size w x) ⟨fun o => by first | (simp [go_sem]; done) | (rcases o with _ | _ | _ | _ | _ | o <;> simp [go_sem]), fun o => by first | (simp [go_sem]; done) | (rcases o with _ | _ | _ | _ | _ | o <;> simp [go_sem]), by (first | omega | (simp [go_sem]; done) | (simp [go_sem]; omega)), by (first | omega | (simp [go_sem]; done) | (simp [go_sem]; omega)), by (repeat' (first | (with_reducible exact Below.refl _ _) | (with_reducible assumption) | (with_reducible refine below_alloc ?_ _) | (with_reducible refine Below.drew ?_) | (with_reducible refine Below.setCell ?_ ?_ _) | (with_reducible refine below_after ?_ (by assumption)) | go_size))⟩ ?_
  rintro W ⟨hWc0, hWc1, hWz0, hWz1, hWb⟩
  have hWK := Lib.hid (show ∀ x : World, Kp W.heap.size [] W x → ((∀ o, x.cell? ⟨w.heap.size, o, none⟩ = (#[.bool (s), .int .u64 (wd (a) 0), .int .u64 (wd (a) 1), .int .u64 (wd (a) 2), .int .u64 (wd (a) 3)] : Array Value)[o]?) ∧ (∀ o, x.cell? ⟨w.heap.size + 1, o, none⟩ = (#[.bool (t), .int .u64 (wd (b) 0), .int .u64 (wd (b) 1), .int .u64 (wd (b) 2), .int .u64 (wd (b) 3)] : Array Value)[o]?) ∧ w.heap.size < x.heap.size ∧ w.heap.size + 1 < x.heap.size ∧ W.heap.size ≤ x.heap.size) from fun x k => ⟨fun o => (k.cell _ o hWz0 (by first | (simp; done) | (simp; omega))).trans (hWc0 o), fun o => (k.cell _ o hWz1 (by first | (simp; done) | (simp; omega))).trans (hWc1 o), Nat.lt_of_lt_of_le hWz0 k.size, Nat.lt_of_lt_of_le hWz1 k.size, k.size⟩)
  go_region_held3 (fun x => (∀ o, x.cell? ⟨w.heap.size, o, none⟩ = (#[.bool (s), .int .u64 (wd (a) 0), .int .u64 (wd (a) 1), .int .u64 (wd (a) 2), .int .u64 (wd (a) 3)] : Array Value)[o]?) ∧ (∀ o, x.cell? ⟨w.heap.size + 1, o, none⟩ = (#[.bool (t), .int .u64 (wd (b) 0), .int .u64 (wd (b) 1), .int .u64 (wd (b) 2), .int .u64 (wd (b) 3)] : Array Value)[o]?) ∧ w.heap.size < x.heap.size ∧ w.heap.size + 1 < x.heap.size ∧ W.heap.size ≤ x.heap.size) ((refine hWK.out _ ?_; (repeat (first | (with_reducible assumption) | (with_reducible exact Kp.refl (Nat.le_refl _)) | (with_reducible refine Kp.drew ?_) | (with_reducible refine Kp.alloc ?_ _) | ((with_reducible refine Kp.put ?_ ?_ _); focus (first | (left; go_size; done) | (right; simp; done))) | ((with_reducible apply Kp.later); (with_reducible assumption)))))) ((first | (go_at_call 33; (with_reducible refine (H1.out _).mono ?_); rintro e W_1 ⟨rfl, hbW_1⟩; have hkW_1 : Kp W.heap.size [] W W_1 := (by (repeat (first | (with_reducible assumption) | (with_reducible exact Kp.refl (Nat.le_refl _)) | (with_reducible refine Kp.drew ?_) | (with_reducible refine Kp.alloc ?_ _) | ((with_reducible refine Kp.put ?_ ?_ _); focus (first | (left; go_size; done) | (right; simp; done))) | ((with_reducible apply Kp.later); (with_reducible assumption)))))) | (go_at_call 33; (with_reducible refine (H2.out _).mono ?_); rintro e W_2 ⟨rfl, hbW_2⟩; have hkW_2 : Kp W.heap.size [] W W_2 := (by (repeat (first | (with_reducible assumption) | (with_reducible exact Kp.refl (Nat.le_refl _)) | (with_reducible refine Kp.drew ?_) | (with_reducible refine Kp.alloc ?_ _) | ((with_reducible refine Kp.put ?_ ?_ _); focus (first | (left; go_size; done) | (right; simp; done))) | ((with_reducible apply Kp.later); (with_reducible assumption))))))))
  go_wp2
  go_returns
  exact ⟨rfl, by (repeat' (first | (with_reducible exact Below.refl _ _) | (with_reducible assumption) | (with_reducible refine below_alloc ?_ _) | (with_reducible refine Below.drew ?_) | (with_reducible refine Below.setCell ?_ ?_ _) | (with_reducible refine below_after ?_ (by assumption)) | go_size))⟩
theorem cmp_pn_any (s t : Bool) (a b : Nat) (ha : a < 2 ^ 256) (hb : b < 2 ^ 256) (hx : zs (val s a) = false) (hy : zs (val t b) = true) (w : World) :
    Calls Try.prog 15 #[(.agg #[.bool (s), .int .u64 (wd (a) 0), .int .u64 (wd (a) 1), .int .u64 (wd (a) 2), .int .u64 (wd (a) 3)]), (.agg #[.bool (t), .int .u64 (wd (b) 0), .int .u64 (wd (b) 1), .int .u64 (wd (b) 2), .int .u64 (wd (b) 3)])] w fun e w' => e = .returned (.int .i64 (cmpZ (val s a) (val t b))) ∧ Below w.heap.size w w' := by
  rw [cmp_pn hx hy]
  have H1 := Lib.hid (negative_any s a ha)
  have H2 := Lib.hid (negative_any t b hb)
  rw [hx] at H1
  rw [hy] at H2
  have H3 := Lib.hid (compare_any a b ha hb)
  clear ha hb hx hy
  go_enter Try.func15, Try.ntmps15
  go_wp2_with fail
  refine wp_world (fun x => (∀ o, x.cell? ⟨w.heap.size, o, none⟩ = (#[.bool (s), .int .u64 (wd (a) 0), .int .u64 (wd (a) 1), .int .u64 (wd (a) 2), .int .u64 (wd (a) 3)] : Array Value)[o]?) ∧ (∀ o, x.cell? ⟨w.heap.size + 1, o, none⟩ = (#[.bool (t), .int .u64 (wd (b) 0), .int .u64 (wd (b) 1), .int .u64 (wd (b) 2), .int .u64 (wd (b) 3)] : Array Value)[o]?) ∧ w.heap.size < x.heap.size ∧ w.heap.size + 1 < x.heap.size ∧ Below w.heap.size w x) ⟨fun o => by first | (simp [go_sem]; done) | (rcases o with _ | _ | _ | _ | _ | o <;> simp [go_sem]), fun o => by first | (simp [go_sem]; done) | (rcases o with _ | _ | _ | _ | _ | o <;> simp [go_sem]), by (first | omega | (simp [go_sem]; done) | (simp [go_sem]; omega)), by (first | omega | (simp [go_sem]; done) | (simp [go_sem]; omega)), by (repeat' (first | (with_reducible exact Below.refl _ _) | (with_reducible assumption) | (with_reducible refine below_alloc ?_ _) | (with_reducible refine Below.drew ?_) | (with_reducible refine Below.setCell ?_ ?_ _) | (with_reducible refine below_after ?_ (by assumption)) | go_size))⟩ ?_
  rintro W ⟨hWc0, hWc1, hWz0, hWz1, hWb⟩
  have hWK := Lib.hid (show ∀ x : World, Kp W.heap.size [] W x → ((∀ o, x.cell? ⟨w.heap.size, o, none⟩ = (#[.bool (s), .int .u64 (wd (a) 0), .int .u64 (wd (a) 1), .int .u64 (wd (a) 2), .int .u64 (wd (a) 3)] : Array Value)[o]?) ∧ (∀ o, x.cell? ⟨w.heap.size + 1, o, none⟩ = (#[.bool (t), .int .u64 (wd (b) 0), .int .u64 (wd (b) 1), .int .u64 (wd (b) 2), .int .u64 (wd (b) 3)] : Array Value)[o]?) ∧ w.heap.size < x.heap.size ∧ w.heap.size + 1 < x.heap.size ∧ W.heap.size ≤ x.heap.size) from fun x k => ⟨fun o => (k.cell _ o hWz0 (by first | (simp; done) | (simp; omega))).trans (hWc0 o), fun o => (k.cell _ o hWz1 (by first | (simp; done) | (simp; omega))).trans (hWc1 o), Nat.lt_of_lt_of_le hWz0 k.size, Nat.lt_of_lt_of_le hWz1 k.size, k.size⟩)
  go_region_held3 (fun x => (∀ o, x.cell? ⟨w.heap.size, o, none⟩ = (#[.bool (s), .int .u64 (wd (a) 0), .int .u64 (wd (a) 1), .int .u64 (wd (a) 2), .int .u64 (wd (a) 3)] : Array Value)[o]?) ∧ (∀ o, x.cell? ⟨w.heap.size + 1, o, none⟩ = (#[.bool (t), .int .u64 (wd (b) 0), .int .u64 (wd (b) 1), .int .u64 (wd (b) 2), .int .u64 (wd (b) 3)] : Array Value)[o]?) ∧ w.heap.size < x.heap.size ∧ w.heap.size + 1 < x.heap.size ∧ W.heap.size ≤ x.heap.size) ((refine hWK.out _ ?_; (repeat (first | (with_reducible assumption) | (with_reducible exact Kp.refl (Nat.le_refl _)) | (with_reducible refine Kp.drew ?_) | (with_reducible refine Kp.alloc ?_ _) | ((with_reducible refine Kp.put ?_ ?_ _); focus (first | (left; go_size; done) | (right; simp; done))) | ((with_reducible apply Kp.later); (with_reducible assumption)))))) ((first | (go_at_call 33; (with_reducible refine (H1.out _).mono ?_); rintro e W_1 ⟨rfl, hbW_1⟩; have hkW_1 : Kp W.heap.size [] W W_1 := (by (repeat (first | (with_reducible assumption) | (with_reducible exact Kp.refl (Nat.le_refl _)) | (with_reducible refine Kp.drew ?_) | (with_reducible refine Kp.alloc ?_ _) | ((with_reducible refine Kp.put ?_ ?_ _); focus (first | (left; go_size; done) | (right; simp; done))) | ((with_reducible apply Kp.later); (with_reducible assumption)))))) | (go_at_call 33; (with_reducible refine (H2.out _).mono ?_); rintro e W_2 ⟨rfl, hbW_2⟩; have hkW_2 : Kp W.heap.size [] W W_2 := (by (repeat (first | (with_reducible assumption) | (with_reducible exact Kp.refl (Nat.le_refl _)) | (with_reducible refine Kp.drew ?_) | (with_reducible refine Kp.alloc ?_ _) | ((with_reducible refine Kp.put ?_ ?_ _); focus (first | (left; go_size; done) | (right; simp; done))) | ((with_reducible apply Kp.later); (with_reducible assumption))))))))
  go_wp2
  go_returns
  exact ⟨rfl, by (repeat' (first | (with_reducible exact Below.refl _ _) | (with_reducible assumption) | (with_reducible refine below_alloc ?_ _) | (with_reducible refine Below.drew ?_) | (with_reducible refine Below.setCell ?_ ?_ _) | (with_reducible refine below_after ?_ (by assumption)) | go_size))⟩
theorem cmp_pp_any (s t : Bool) (a b : Nat) (ha : a < 2 ^ 256) (hb : b < 2 ^ 256) (hx : zs (val s a) = false) (hy : zs (val t b) = false) (w : World) :
    Calls Try.prog 15 #[(.agg #[.bool (s), .int .u64 (wd (a) 0), .int .u64 (wd (a) 1), .int .u64 (wd (a) 2), .int .u64 (wd (a) 3)]), (.agg #[.bool (t), .int .u64 (wd (b) 0), .int .u64 (wd (b) 1), .int .u64 (wd (b) 2), .int .u64 (wd (b) 3)])] w fun e w' => e = .returned (.int .i64 (cmpZ (val s a) (val t b))) ∧ Below w.heap.size w w' := by
  rw [cmp_pp hx hy]
  have H1 := Lib.hid (negative_any s a ha)
  have H2 := Lib.hid (negative_any t b hb)
  rw [hx] at H1
  rw [hy] at H2
  have H3 := Lib.hid (compare_any a b ha hb)
  clear ha hb hx hy
  go_enter Try.func15, Try.ntmps15
  go_wp2_with fail
  refine wp_world (fun x => (∀ o, x.cell? ⟨w.heap.size, o, none⟩ = (#[.bool (s), .int .u64 (wd (a) 0), .int .u64 (wd (a) 1), .int .u64 (wd (a) 2), .int .u64 (wd (a) 3)] : Array Value)[o]?) ∧ (∀ o, x.cell? ⟨w.heap.size + 1, o, none⟩ = (#[.bool (t), .int .u64 (wd (b) 0), .int .u64 (wd (b) 1), .int .u64 (wd (b) 2), .int .u64 (wd (b) 3)] : Array Value)[o]?) ∧ w.heap.size < x.heap.size ∧ w.heap.size + 1 < x.heap.size ∧ Below w.heap.size w x) ⟨fun o => by first | (simp [go_sem]; done) | (rcases o with _ | _ | _ | _ | _ | o <;> simp [go_sem]), fun o => by first | (simp [go_sem]; done) | (rcases o with _ | _ | _ | _ | _ | o <;> simp [go_sem]), by (first | omega | (simp [go_sem]; done) | (simp [go_sem]; omega)), by (first | omega | (simp [go_sem]; done) | (simp [go_sem]; omega)), by (repeat' (first | (with_reducible exact Below.refl _ _) | (with_reducible assumption) | (with_reducible refine below_alloc ?_ _) | (with_reducible refine Below.drew ?_) | (with_reducible refine Below.setCell ?_ ?_ _) | (with_reducible refine below_after ?_ (by assumption)) | go_size))⟩ ?_
  rintro W ⟨hWc0, hWc1, hWz0, hWz1, hWb⟩
  have hWK := Lib.hid (show ∀ x : World, Kp W.heap.size [] W x → ((∀ o, x.cell? ⟨w.heap.size, o, none⟩ = (#[.bool (s), .int .u64 (wd (a) 0), .int .u64 (wd (a) 1), .int .u64 (wd (a) 2), .int .u64 (wd (a) 3)] : Array Value)[o]?) ∧ (∀ o, x.cell? ⟨w.heap.size + 1, o, none⟩ = (#[.bool (t), .int .u64 (wd (b) 0), .int .u64 (wd (b) 1), .int .u64 (wd (b) 2), .int .u64 (wd (b) 3)] : Array Value)[o]?) ∧ w.heap.size < x.heap.size ∧ w.heap.size + 1 < x.heap.size ∧ W.heap.size ≤ x.heap.size) from fun x k => ⟨fun o => (k.cell _ o hWz0 (by first | (simp; done) | (simp; omega))).trans (hWc0 o), fun o => (k.cell _ o hWz1 (by first | (simp; done) | (simp; omega))).trans (hWc1 o), Nat.lt_of_lt_of_le hWz0 k.size, Nat.lt_of_lt_of_le hWz1 k.size, k.size⟩)
  go_region_held3 (fun x => (∀ o, x.cell? ⟨w.heap.size, o, none⟩ = (#[.bool (s), .int .u64 (wd (a) 0), .int .u64 (wd (a) 1), .int .u64 (wd (a) 2), .int .u64 (wd (a) 3)] : Array Value)[o]?) ∧ (∀ o, x.cell? ⟨w.heap.size + 1, o, none⟩ = (#[.bool (t), .int .u64 (wd (b) 0), .int .u64 (wd (b) 1), .int .u64 (wd (b) 2), .int .u64 (wd (b) 3)] : Array Value)[o]?) ∧ w.heap.size < x.heap.size ∧ w.heap.size + 1 < x.heap.size ∧ W.heap.size ≤ x.heap.size) ((refine hWK.out _ ?_; (repeat (first | (with_reducible assumption) | (with_reducible exact Kp.refl (Nat.le_refl _)) | (with_reducible refine Kp.drew ?_) | (with_reducible refine Kp.alloc ?_ _) | ((with_reducible refine Kp.put ?_ ?_ _); focus (first | (left; go_size; done) | (right; simp; done))) | ((with_reducible apply Kp.later); (with_reducible assumption)))))) ((first | (go_at_call 33; (with_reducible refine (H1.out _).mono ?_); rintro e W_1 ⟨rfl, hbW_1⟩; have hkW_1 : Kp W.heap.size [] W W_1 := (by (repeat (first | (with_reducible assumption) | (with_reducible exact Kp.refl (Nat.le_refl _)) | (with_reducible refine Kp.drew ?_) | (with_reducible refine Kp.alloc ?_ _) | ((with_reducible refine Kp.put ?_ ?_ _); focus (first | (left; go_size; done) | (right; simp; done))) | ((with_reducible apply Kp.later); (with_reducible assumption)))))) | (go_at_call 33; (with_reducible refine (H2.out _).mono ?_); rintro e W_2 ⟨rfl, hbW_2⟩; have hkW_2 : Kp W.heap.size [] W W_2 := (by (repeat (first | (with_reducible assumption) | (with_reducible exact Kp.refl (Nat.le_refl _)) | (with_reducible refine Kp.drew ?_) | (with_reducible refine Kp.alloc ?_ _) | ((with_reducible refine Kp.put ?_ ?_ _); focus (first | (left; go_size; done) | (right; simp; done))) | ((with_reducible apply Kp.later); (with_reducible assumption))))))))
  go_wp2_with fail
  ((with_reducible refine (H3.out _).mono ?_); rintro e w3 ⟨rfl, hb3⟩)
  obtain ⟨hc3, hf3⟩ := bcell hb3
  go_wp2
  go_returns
  exact ⟨rfl, by (repeat' (first | (with_reducible exact Below.refl _ _) | (with_reducible assumption) | (with_reducible refine below_alloc ?_ _) | (with_reducible refine Below.drew ?_) | (with_reducible refine Below.setCell ?_ ?_ _) | (with_reducible refine below_after ?_ (by assumption)) | go_size))⟩
/-- Cmp: how the two integers compare. -/
theorem cmp_any (s t : Bool) (a b : Nat) (ha : a < 2 ^ 256) (hb : b < 2 ^ 256) (w : World) :
    Calls Try.prog 15 #[(.agg #[.bool (s), .int .u64 (wd (a) 0), .int .u64 (wd (a) 1), .int .u64 (wd (a) 2), .int .u64 (wd (a) 3)]), (.agg #[.bool (t), .int .u64 (wd (b) 0), .int .u64 (wd (b) 1), .int .u64 (wd (b) 2), .int .u64 (wd (b) 3)])] w fun e w' => e = .returned (.int .i64 (cmpZ (val s a) (val t b))) ∧ Below w.heap.size w w' := by
  cases hx : zs (val s a) <;> cases hy : zs (val t b)
  · exact cmp_pp_any s t a b ha hb hx hy w
  · exact cmp_pn_any s t a b ha hb hx hy w
  · exact cmp_np_any s t a b ha hb hx hy w
  · exact cmp_nn_any s t a b ha hb hx hy w
theorem of_neg_any (n : Int) (h : n < 0) (h' : -9223372036854775808 ≤ n) (w : World) :
    Calls Try.prog 46 #[.int .i64 n] w fun e w' => e = .returned (.agg #[.bool (zs (n)), .int .u64 (wd (Int.natAbs (n)) 0), .int .u64 (wd (Int.natAbs (n)) 1), .int .u64 (wd (Int.natAbs (n)) 2), .int .u64 (wd (Int.natAbs (n)) 3)]) ∧ Below w.heap.size w w' := by
  have hn : n.natAbs < 18446744073709551616 := by omega
  have H := signed_any true n.natAbs (by omega)
  have e0 : wd n.natAbs 0 = IntKind.u64.wrap (-IntKind.u64.wrap n) := by rw [(wd_small hn).1, IntKind.wrap_u64, IntKind.wrap_u64]; omega
  have hv : val true n.natAbs = n := by unfold val; simp; omega
  rw [hv, e0, (wd_small hn).2.1, (wd_small hn).2.2.1, (wd_small hn).2.2.2] at H
  rw [e0, (wd_small hn).2.1, (wd_small hn).2.2.1, (wd_small hn).2.2.2]
  have H1 := Lib.hid H
  have hd : decide (n < 0) = true := by simpa using h
  clear H hn hv e0
  go_enter Try.func46, Try.ntmps46
  go_wp2_with fail
  ((with_reducible refine (H1.out _).mono ?_); rintro e w1 ⟨rfl, hb1⟩)
  obtain ⟨hc1, hf1⟩ := bcell hb1
  have hz1_w_0 : w.heap.size < w1.heap.size := by have h := hb1.size; (try simp at h); omega
  go_wp2_with ((with_reducible show bodyPost _ _ _ _ _ _); refine bodyPost_ret (by simp [results, Try.results46, go_sem, hc1, hf1, hz1_w_0]; try rfl) rfl ?_; exact ⟨rfl, by (repeat' (first | (with_reducible exact Below.refl _ _) | (with_reducible assumption) | (with_reducible refine below_alloc ?_ _) | (with_reducible refine Below.drew ?_) | (with_reducible refine Below.setCell ?_ ?_ _) | (with_reducible refine below_after ?_ (by assumption)) | go_size))⟩)
theorem of_pos_any (n : Int) (h : 0 ≤ n) (h' : n ≤ 9223372036854775807) (w : World) :
    Calls Try.prog 46 #[.int .i64 n] w fun e w' => e = .returned (.agg #[.bool (zs (n)), .int .u64 (wd (Int.natAbs (n)) 0), .int .u64 (wd (Int.natAbs (n)) 1), .int .u64 (wd (Int.natAbs (n)) 2), .int .u64 (wd (Int.natAbs (n)) 3)]) ∧ Below w.heap.size w w' := by
  have hn : n.natAbs < 18446744073709551616 := by omega
  have H := signed_any false n.natAbs (by omega)
  have e0 : wd n.natAbs 0 = n := by rw [(wd_small hn).1]; omega
  have hv : val false n.natAbs = n := by unfold val; simp; omega
  rw [hv, e0, (wd_small hn).2.1, (wd_small hn).2.2.1, (wd_small hn).2.2.2] at H
  rw [e0, (wd_small hn).2.1, (wd_small hn).2.2.1, (wd_small hn).2.2.2]
  have H1 := Lib.hid H
  have hd : decide (n < 0) = false := by simpa using h
  clear H hn hv e0
  go_enter Try.func46, Try.ntmps46
  go_wp2_with fail
  ((with_reducible refine (H1.out _).mono ?_); rintro e w1 ⟨rfl, hb1⟩)
  obtain ⟨hc1, hf1⟩ := bcell hb1
  have hz1_w_0 : w.heap.size < w1.heap.size := by have h := hb1.size; (try simp at h); omega
  go_wp2_with ((with_reducible show bodyPost _ _ _ _ _ _); refine bodyPost_ret (by simp [results, Try.results46, go_sem, hc1, hf1, hz1_w_0]; try rfl) rfl ?_; exact ⟨rfl, by (repeat' (first | (with_reducible exact Below.refl _ _) | (with_reducible assumption) | (with_reducible refine below_alloc ?_ _) | (with_reducible refine Below.drew ?_) | (with_reducible refine Below.setCell ?_ ?_ _) | (with_reducible refine below_after ?_ (by assumption)) | go_size))⟩)
/-- Of: the integer. -/
theorem of_any (n : Int) (h : -9223372036854775808 ≤ n) (h' : n ≤ 9223372036854775807) (w : World) :
    Calls Try.prog 46 #[.int .i64 n] w fun e w' => e = .returned (.agg #[.bool (zs (n)), .int .u64 (wd (Int.natAbs (n)) 0), .int .u64 (wd (Int.natAbs (n)) 1), .int .u64 (wd (Int.natAbs (n)) 2), .int .u64 (wd (Int.natAbs (n)) 3)]) ∧ Below w.heap.size w w' := by
  by_cases h0 : n < 0
  · exact of_neg_any n h0 h w
  · exact of_pos_any n (by omega) h' w
end Go.Proofs.Ytkpochkfijplaaa
