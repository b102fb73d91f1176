/-
  The walk of shipyardlaw02.WideDivisors: Gcd divides both numbers, and what divides both divides it.
-/
import Derived.Test.YtnbdccobfmlhbaaDoorPlain
namespace Go.Proofs.YtnbdccobfmlhbaaDoor
set_option linter.all false
open Go Go.RowKit Wd
set_option maxRecDepth 100000
theorem gcd_both (s t : Bool) (a b g : Nat) (ha : a < 2 ^ 256) (hb : b < 2 ^ 256) (hg : Nat.gcd a b = g) (w : World) (hT : Tabs w) :
    Calls Tryd.prog 18 #[(.agg #[.bool (s), .int .u64 (wd (a) 0), .int .u64 (wd (a) 1), .int .u64 (wd (a) 2), .int .u64 (wd (a) 3)]), (.agg #[.bool (t), .int .u64 (wd (b) 0), .int .u64 (wd (b) 1), .int .u64 (wd (b) 2), .int .u64 (wd (b) 3)])] w fun e w' => e = .returned (.agg #[.bool (false), .int .u64 (wd (g) 0), .int .u64 (wd (g) 1), .int .u64 (wd (g) 2), .int .u64 (wd (g) 3)]) ∧ Below w.heap.size w w' := by
  have h := gcd_any s t a b ha hb w hT.1
  rw [hg, w_nat] at h
  exact h
theorem divR_divides (s : Bool) (a g : Nat) (hg : g ≠ 0) (h : a % g = 0) (t : Bool) : divR (val s a) (val t g) = 0 := by
  rw [(div_keep (s := s) (t := t) (a := a) (b := g) (by omega) (Or.inr h)).2.1, h]; unfold val; cases t <;> simp
theorem divE_pos (g : Nat) (hg : g ≠ 0) (t : Bool) : divE (val t g) = 0 := by unfold divE val; cases t <;> simp [hg]
/-- Div by what divides: some quotient, nothing left, no error. -/
theorem div_clean (s t : Bool) (a g : Nat) (ha : a < 2 ^ 256) (hg : g < 2 ^ 256) (h0 : g ≠ 0) (h : a % g = 0) : ∃ q : Int, ∀ w : World,
    Calls Tryd.prog 16 #[(.agg #[.bool (s), .int .u64 (wd (a) 0), .int .u64 (wd (a) 1), .int .u64 (wd (a) 2), .int .u64 (wd (a) 3)]), (.agg #[.bool (t), .int .u64 (wd (g) 0), .int .u64 (wd (g) 1), .int .u64 (wd (g) 2), .int .u64 (wd (g) 3)])] w fun e w' => e = .returned (.tuple #[(.agg #[.bool (zs (q)), .int .u64 (wd (Int.natAbs (q)) 0), .int .u64 (wd (Int.natAbs (q)) 1), .int .u64 (wd (Int.natAbs (q)) 2), .int .u64 (wd (Int.natAbs (q)) 3)]), .agg #[.bool false, .int .u64 0, .int .u64 0, .int .u64 0, .int .u64 0], .int .i64 0]) ∧ Below w.heap.size w w' := by
  refine ⟨divQ (val s a) (val t g), fun w => ?_⟩
  have h1 := div_any s t a g ha hg w
  rw [divR_divides s a g h0 h t, divE_pos g h0 t, z_zero] at h1
  exact h1
/-- What is left of a division is below 2^256, and nothing where the divisor divides. -/
theorem divR_abs (s t : Bool) (a b : Nat) (hb : b < 2 ^ 256) (h0 : b ≠ 0) : (divR (val s a) (val t b)).natAbs < 2 ^ 256 := by
  have hm := Nat.mod_lt a (Nat.pos_of_ne_zero h0)
  by_cases h : (s != t) = false ∨ a % b = 0
  · rw [(div_keep (by omega) h).2.1, abs_val]; omega
  · rw [(div_turn (by omega) (by cases s <;> cases t <;> simp_all) (by simp_all)).2.1, abs_val]; omega
theorem divR_none (s t : Bool) (a b : Nat) (h0 : b ≠ 0) (h : divR (val s a) (val t b) = 0) : a % b = 0 := by
  have hm := Nat.mod_lt a (Nat.pos_of_ne_zero h0)
  have ev : ∀ (u : Bool) (n : Nat), val u n = 0 → n = 0 := fun u n h => by
    have := abs_val u n; rw [h] at this; simpa using this.symm
  by_cases hc : (s != t) = false ∨ a % b = 0
  · rw [(div_keep (by omega) hc).2.1] at h; exact ev _ _ h
  · rw [(div_turn (by omega) (by cases s <;> cases t <;> simp_all) (by simp_all)).2.1] at h
    have := ev _ _ h
    omega
theorem div_some (s t : Bool) (a b : Nat) (ha : a < 2 ^ 256) (hb : b < 2 ^ 256) (h0 : b ≠ 0) : ∃ q x : Int, x.natAbs < 2 ^ 256 ∧ (x = 0 ↔ a % b = 0) ∧ ∀ w : World,
    Calls Tryd.prog 16 #[(.agg #[.bool (s), .int .u64 (wd (a) 0), .int .u64 (wd (a) 1), .int .u64 (wd (a) 2), .int .u64 (wd (a) 3)]), (.agg #[.bool (t), .int .u64 (wd (b) 0), .int .u64 (wd (b) 1), .int .u64 (wd (b) 2), .int .u64 (wd (b) 3)])] w fun e w' => e = .returned (.tuple #[(.agg #[.bool (zs (q)), .int .u64 (wd (Int.natAbs (q)) 0), .int .u64 (wd (Int.natAbs (q)) 1), .int .u64 (wd (Int.natAbs (q)) 2), .int .u64 (wd (Int.natAbs (q)) 3)]), (.agg #[.bool (zs (x)), .int .u64 (wd (Int.natAbs (x)) 0), .int .u64 (wd (Int.natAbs (x)) 1), .int .u64 (wd (Int.natAbs (x)) 2), .int .u64 (wd (Int.natAbs (x)) 3)]), .int .i64 0]) ∧ Below w.heap.size w w' := by
  refine ⟨divQ (val s a) (val t b), divR (val s a) (val t b), divR_abs s t a b hb h0, ⟨divR_none s t a b h0, fun h => divR_divides s a b h0 h t⟩, fun w => ?_⟩
  have h1 := div_any s t a b ha hb w
  rw [divE_pos b h0 t] at h1
  exact h1
theorem divisors_none (s t r : Bool) (c : Nat) (w : World) (hT : Tabs w) :
    Calls Tryd.prog 6 #[(.agg #[.bool (s), .int .u64 (wd (0) 0), .int .u64 (wd (0) 1), .int .u64 (wd (0) 2), .int .u64 (wd (0) 3)]), (.agg #[.bool (t), .int .u64 (wd (0) 0), .int .u64 (wd (0) 1), .int .u64 (wd (0) 2), .int .u64 (wd (0) 3)]), (.agg #[.bool (r), .int .u64 (wd (c) 0), .int .u64 (wd (c) 1), .int .u64 (wd (c) 2), .int .u64 (wd (c) 3)])] w fun e w' => e = .returned (.bool true) ∧ Below w.heap.size w w' := by
  have H1 := Lib.hid (fun w hT => gcd_both s t 0 0 0 (by decide) (by decide) rfl w hT)
  have P1 := Lib.hid (plain_zero s)
  have P2 := Lib.hid (plain_zero t)
  have K := Lib.hid awake_any
  have q0 := eq_00
  have q1 := fun w => eq_wide0 false 0 (by decide) w
  have e0 : (false == false && eqN 0 0) = true := by unfold eqN; simp
  rw [e0] at q1
  have HT := Lib.hid hT
  clear hT e0
  go_enter Tryd.func6, Tryd.ntmps6
  go_wp2_with fail
  ((with_reducible refine (H1.out _ (HT.out.later (by (repeat' (first | (with_reducible exact Below.refl _ _) | (with_reducible assumption) | (with_reducible refine below_alloc ?_ _) | (with_reducible refine Below.drew ?_) | (with_reducible refine Below.setCell ?_ ?_ _) | (with_reducible refine below_after ?_ (by assumption)) | go_size))))).mono ?_); rintro e w1 ⟨rfl, hb1⟩)
  obtain ⟨hc1, hf1⟩ := bcell hb1
  have hz1_w_0 : w.heap.size < w1.heap.size := by have h := hb1.size; (try simp at h); omega
  have hz1_w_1 : w.heap.size + 1 < w1.heap.size := by have h := hb1.size; (try simp at h); omega
  have hz1_w_2 : w.heap.size + 1 + 1 < w1.heap.size := by have h := hb1.size; (try simp at h); omega
  go_upto_region 2 with (fail)
  refine wp_world (fun x => (∀ o, x.cell? ⟨w.heap.size, o, none⟩ = (#[.bool (s), .int .u64 (wd (0) 0), .int .u64 (wd (0) 1), .int .u64 (wd (0) 2), .int .u64 (wd (0) 3)] : Array Value)[o]?) ∧ (∀ o, x.cell? ⟨w.heap.size + 1, o, none⟩ = (#[.bool (t), .int .u64 (wd (0) 0), .int .u64 (wd (0) 1), .int .u64 (wd (0) 2), .int .u64 (wd (0) 3)] : Array Value)[o]?) ∧ (∀ o, x.cell? ⟨w1.heap.size, o, none⟩ = (#[.bool (false), .int .u64 (wd (0) 0), .int .u64 (wd (0) 1), .int .u64 (wd (0) 2), .int .u64 (wd (0) 3)] : Array Value)[o]?) ∧ (∀ o, x.frozen? ⟨w.heap.size, o, none⟩ = false) ∧ (∀ o, x.frozen? ⟨w.heap.size + 1, o, none⟩ = false) ∧ (∀ o, x.frozen? ⟨w1.heap.size, o, none⟩ = false) ∧ w.heap.size < x.heap.size ∧ w.heap.size + 1 < x.heap.size ∧ w1.heap.size < x.heap.size ∧ Below w.heap.size w x) ⟨fun o => by simp [go_sem, hc1, hf1, hz1_w_0, hz1_w_1, hz1_w_2], fun o => by simp [go_sem, hc1, hf1, hz1_w_0, hz1_w_1, hz1_w_2], fun o => by simp [go_sem, hc1, hf1, hz1_w_0, hz1_w_1, hz1_w_2], fun o => by simp [go_sem, hc1, hf1, hz1_w_0, hz1_w_1, hz1_w_2], fun o => by simp [go_sem, hc1, hf1, hz1_w_0, hz1_w_1, hz1_w_2], fun o => by simp [go_sem, hc1, hf1, hz1_w_0, hz1_w_1, hz1_w_2], by (first | omega | (simp [go_sem, hc1, hf1, hz1_w_0, hz1_w_1, hz1_w_2]; done) | (simp [go_sem, hc1, hf1, hz1_w_0, hz1_w_1, hz1_w_2]; omega)), by (first | omega | (simp [go_sem, hc1, hf1, hz1_w_0, hz1_w_1, hz1_w_2]; done) | (simp [go_sem, hc1, hf1, hz1_w_0, hz1_w_1, hz1_w_2]; omega)), by (first | omega | (simp [go_sem, hc1, hf1, hz1_w_0, hz1_w_1, hz1_w_2]; done) | (simp [go_sem, hc1, hf1, hz1_w_0, hz1_w_1, hz1_w_2]; omega)), by (repeat' (first | (with_reducible exact Below.refl _ _) | (with_reducible assumption) | (with_reducible refine below_alloc ?_ _) | (with_reducible refine Below.drew ?_) | (with_reducible refine Below.setCell ?_ ?_ _) | (with_reducible refine below_after ?_ (by assumption)) | go_size))⟩ ?_
  rintro A ⟨hAc0, hAc1, hAc2, hAf0, hAf1, hAf2, hAz0, hAz1, hAz2, hAb⟩
  clear hc1 hf1
  go_wp2_with fail
  ((with_reducible refine (P1.out _).mono ?_); rintro e w2 ⟨rfl, hb2⟩)
  have hk2 : Kp A.heap.size [] A w2 := (by (repeat (first | (with_reducible assumption) | (with_reducible exact Kp.refl (Nat.le_refl _)) | (with_reducible refine Kp.drew ?_) | (with_reducible refine Kp.alloc ?_ _) | ((with_reducible refine Kp.put ?_ ?_ _); focus (first | (left; go_size; done) | (right; simp; done))) | ((with_reducible apply Kp.later); (with_reducible assumption)))))
  have h2c0 := fun o => (hk2.cell _ o hAz0 (by simp)).trans (hAc0 o)
  have h2f0 := fun o => (hk2.froz _ o hAz0).trans (hAf0 o)
  have h2z0 := Nat.lt_of_lt_of_le hAz0 hk2.size
  have h2c1 := fun o => (hk2.cell _ o hAz1 (by simp)).trans (hAc1 o)
  have h2f1 := fun o => (hk2.froz _ o hAz1).trans (hAf1 o)
  have h2z1 := Nat.lt_of_lt_of_le hAz1 hk2.size
  have h2c2 := fun o => (hk2.cell _ o hAz2 (by simp)).trans (hAc2 o)
  have h2f2 := fun o => (hk2.froz _ o hAz2).trans (hAf2 o)
  have h2z2 := Nat.lt_of_lt_of_le hAz2 hk2.size
  go_wp2_with fail
  ((with_reducible refine (P2.out _).mono ?_); rintro e w3 ⟨rfl, hb3⟩)
  have hk3 : Kp A.heap.size [] A w3 := (by (repeat (first | (with_reducible assumption) | (with_reducible exact Kp.refl (Nat.le_refl _)) | (with_reducible refine Kp.drew ?_) | (with_reducible refine Kp.alloc ?_ _) | ((with_reducible refine Kp.put ?_ ?_ _); focus (first | (left; go_size; done) | (right; simp; done))) | ((with_reducible apply Kp.later); (with_reducible assumption)))))
  have h3c0 := fun o => (hk3.cell _ o hAz0 (by simp)).trans (hAc0 o)
  have h3f0 := fun o => (hk3.froz _ o hAz0).trans (hAf0 o)
  have h3z0 := Nat.lt_of_lt_of_le hAz0 hk3.size
  have h3c1 := fun o => (hk3.cell _ o hAz1 (by simp)).trans (hAc1 o)
  have h3f1 := fun o => (hk3.froz _ o hAz1).trans (hAf1 o)
  have h3z1 := Nat.lt_of_lt_of_le hAz1 hk3.size
  have h3c2 := fun o => (hk3.cell _ o hAz2 (by simp)).trans (hAc2 o)
  have h3f2 := fun o => (hk3.froz _ o hAz2).trans (hAf2 o)
  have h3z2 := Nat.lt_of_lt_of_le hAz2 hk3.size
  go_wp2_with fail
  ((with_reducible refine (K.out _ (HT.out.later (by (repeat' (first | (with_reducible exact Below.refl _ _) | (with_reducible assumption) | (with_reducible refine below_alloc ?_ _) | (with_reducible refine Below.drew ?_) | (with_reducible refine Below.setCell ?_ ?_ _) | (with_reducible refine below_after ?_ (by assumption)) | go_size))))).mono ?_); rintro e w4 ⟨rfl, hb4⟩)
  have hk4 : Kp A.heap.size [] A w4 := (by (repeat (first | (with_reducible assumption) | (with_reducible exact Kp.refl (Nat.le_refl _)) | (with_reducible refine Kp.drew ?_) | (with_reducible refine Kp.alloc ?_ _) | ((with_reducible refine Kp.put ?_ ?_ _); focus (first | (left; go_size; done) | (right; simp; done))) | ((with_reducible apply Kp.later); (with_reducible assumption)))))
  have h4c0 := fun o => (hk4.cell _ o hAz0 (by simp)).trans (hAc0 o)
  have h4f0 := fun o => (hk4.froz _ o hAz0).trans (hAf0 o)
  have h4z0 := Nat.lt_of_lt_of_le hAz0 hk4.size
  have h4c1 := fun o => (hk4.cell _ o hAz1 (by simp)).trans (hAc1 o)
  have h4f1 := fun o => (hk4.froz _ o hAz1).trans (hAf1 o)
  have h4z1 := Nat.lt_of_lt_of_le hAz1 hk4.size
  have h4c2 := fun o => (hk4.cell _ o hAz2 (by simp)).trans (hAc2 o)
  have h4f2 := fun o => (hk4.froz _ o hAz2).trans (hAf2 o)
  have h4z2 := Nat.lt_of_lt_of_le hAz2 hk4.size
  go_wp2
  go_ret
  exact ⟨rfl, by (repeat' (first | (with_reducible exact Below.refl _ _) | (with_reducible assumption) | (with_reducible refine below_alloc ?_ _) | (with_reducible refine Below.drew ?_) | (with_reducible refine Below.setCell ?_ ?_ _) | (with_reducible refine below_after ?_ (by assumption)) | go_size))⟩
set_option maxHeartbeats 2000000 in
theorem divisors_a (s t r : Bool) (a b c g : Nat) (hg : g = Nat.gcd a b) (ha : a < 2 ^ 256) (hb : b < 2 ^ 256) (hc : c < 2 ^ 256) (h : a ≠ 0) (w : World) (hT : Tabs w) :
    Calls Tryd.prog 6 #[(.agg #[.bool (s), .int .u64 (wd (a) 0), .int .u64 (wd (a) 1), .int .u64 (wd (a) 2), .int .u64 (wd (a) 3)]), (.agg #[.bool (t), .int .u64 (wd (b) 0), .int .u64 (wd (b) 1), .int .u64 (wd (b) 2), .int .u64 (wd (b) 3)]), (.agg #[.bool (r), .int .u64 (wd (c) 0), .int .u64 (wd (c) 1), .int .u64 (wd (c) 2), .int .u64 (wd (c) 3)])] w fun e w' => e = .returned (.bool true) ∧ Below w.heap.size w w' := by
  have hab : a ≠ 0 ∨ b ≠ 0 := Or.inl h
  have P1 := Lib.hid (plain_pos s a ha h)
  have qa := eq_wide0_pos s a ha h
  have hg0 : g ≠ 0 := by rw [hg]; exact fun h => (by have := Nat.gcd_eq_zero_iff.1 h; omega)
  have hgl : g < 2 ^ 256 := by
    have h1 := Nat.gcd_dvd_left a b
    have h2 := Nat.gcd_dvd_right a b
    rw [← hg] at h1 h2
    rcases hab with h | h
    · exact Nat.lt_of_le_of_lt (Nat.le_of_dvd (Nat.pos_of_ne_zero h) h1) ha
    · exact Nat.lt_of_le_of_lt (Nat.le_of_dvd (Nat.pos_of_ne_zero h) h2) hb
  obtain ⟨q1, D1⟩ := div_clean s false a g ha hgl hg0 (by rw [hg]; exact Nat.mod_eq_zero_of_dvd (Nat.gcd_dvd_left a b))
  obtain ⟨q2, D2⟩ := div_clean t false b g hb hgl hg0 (by rw [hg]; exact Nat.mod_eq_zero_of_dvd (Nat.gcd_dvd_right a b))
  have H1 := Lib.hid (fun w hT => gcd_both s t a b g ha hb hg.symm w hT)
  have D1 := Lib.hid D1
  have D2 := Lib.hid D2
  have K := Lib.hid awake_any
  have q0 := eq_00
  have HT := Lib.hid hT
  have HG := Lib.hid hg
  have HGL := Lib.hid hgl
  have HA := Lib.hid ha
  have HB := Lib.hid hb
  have HC := Lib.hid hc
  clear hT hg0 hgl hg ha hb hc
  clear hab h
  go_enter Tryd.func6, Tryd.ntmps6
  go_wp2_with fail
  ((with_reducible refine (H1.out _ (HT.out.later (by (repeat' (first | (with_reducible exact Below.refl _ _) | (with_reducible assumption) | (with_reducible refine below_alloc ?_ _) | (with_reducible refine Below.drew ?_) | (with_reducible refine Below.setCell ?_ ?_ _) | (with_reducible refine below_after ?_ (by assumption)) | go_size))))).mono ?_); rintro e w1 ⟨rfl, hb1⟩)
  obtain ⟨hc1, hf1⟩ := bcell hb1
  have hz1_w_0 : w.heap.size < w1.heap.size := by have h := hb1.size; (try simp at h); omega
  have hz1_w_1 : w.heap.size + 1 < w1.heap.size := by have h := hb1.size; (try simp at h); omega
  have hz1_w_2 : w.heap.size + 1 + 1 < w1.heap.size := by have h := hb1.size; (try simp at h); omega
  go_upto_region 2 with (fail)
  refine wp_world (fun x => (∀ o, x.cell? ⟨w.heap.size, o, none⟩ = (#[.bool (s), .int .u64 (wd (a) 0), .int .u64 (wd (a) 1), .int .u64 (wd (a) 2), .int .u64 (wd (a) 3)] : Array Value)[o]?) ∧ (∀ o, x.cell? ⟨w.heap.size + 1, o, none⟩ = (#[.bool (t), .int .u64 (wd (b) 0), .int .u64 (wd (b) 1), .int .u64 (wd (b) 2), .int .u64 (wd (b) 3)] : Array Value)[o]?) ∧ (∀ o, x.cell? ⟨w.heap.size + 1 + 1, o, none⟩ = (#[.bool (r), .int .u64 (wd (c) 0), .int .u64 (wd (c) 1), .int .u64 (wd (c) 2), .int .u64 (wd (c) 3)] : Array Value)[o]?) ∧ (∀ o, x.cell? ⟨w1.heap.size, o, none⟩ = (#[.bool (false), .int .u64 (wd (g) 0), .int .u64 (wd (g) 1), .int .u64 (wd (g) 2), .int .u64 (wd (g) 3)] : Array Value)[o]?) ∧ (∀ o, x.frozen? ⟨w.heap.size, o, none⟩ = false) ∧ (∀ o, x.frozen? ⟨w.heap.size + 1, o, none⟩ = false) ∧ (∀ o, x.frozen? ⟨w.heap.size + 1 + 1, o, none⟩ = false) ∧ (∀ o, x.frozen? ⟨w1.heap.size, o, none⟩ = false) ∧ w.heap.size < x.heap.size ∧ w.heap.size + 1 < x.heap.size ∧ w.heap.size + 1 + 1 < x.heap.size ∧ w1.heap.size < x.heap.size ∧ Below w.heap.size w x) ⟨fun o => by simp [go_sem, hc1, hf1, hz1_w_0, hz1_w_1, hz1_w_2], fun o => by simp [go_sem, hc1, hf1, hz1_w_0, hz1_w_1, hz1_w_2], fun o => by simp [go_sem, hc1, hf1, hz1_w_0, hz1_w_1, hz1_w_2], fun o => by simp [go_sem, hc1, hf1, hz1_w_0, hz1_w_1, hz1_w_2], fun o => by simp [go_sem, hc1, hf1, hz1_w_0, hz1_w_1, hz1_w_2], fun o => by simp [go_sem, hc1, hf1, hz1_w_0, hz1_w_1, hz1_w_2], fun o => by simp [go_sem, hc1, hf1, hz1_w_0, hz1_w_1, hz1_w_2], fun o => by simp [go_sem, hc1, hf1, hz1_w_0, hz1_w_1, hz1_w_2], by (first | omega | (simp [go_sem, hc1, hf1, hz1_w_0, hz1_w_1, hz1_w_2]; done) | (simp [go_sem, hc1, hf1, hz1_w_0, hz1_w_1, hz1_w_2]; omega)), by (first | omega | (simp [go_sem, hc1, hf1, hz1_w_0, hz1_w_1, hz1_w_2]; done) | (simp [go_sem, hc1, hf1, hz1_w_0, hz1_w_1, hz1_w_2]; omega)), by (first | omega | (simp [go_sem, hc1, hf1, hz1_w_0, hz1_w_1, hz1_w_2]; done) | (simp [go_sem, hc1, hf1, hz1_w_0, hz1_w_1, hz1_w_2]; omega)), by (first | omega | (simp [go_sem, hc1, hf1, hz1_w_0, hz1_w_1, hz1_w_2]; done) | (simp [go_sem, hc1, hf1, hz1_w_0, hz1_w_1, hz1_w_2]; omega)), by (repeat' (first | (with_reducible exact Below.refl _ _) | (with_reducible assumption) | (with_reducible refine below_alloc ?_ _) | (with_reducible refine Below.drew ?_) | (with_reducible refine Below.setCell ?_ ?_ _) | (with_reducible refine below_after ?_ (by assumption)) | go_size))⟩ ?_
  rintro A ⟨hAc0, hAc1, hAc2, hAc3, hAf0, hAf1, hAf2, hAf3, hAz0, hAz1, hAz2, hAz3, hAb⟩
  clear hc1 hf1
  go_wp2_with fail
  ((with_reducible refine (P1.out _).mono ?_); rintro e w2 ⟨rfl, hb2⟩)
  have hk2 : Kp A.heap.size [] A w2 := (by (repeat (first | (with_reducible assumption) | (with_reducible exact Kp.refl (Nat.le_refl _)) | (with_reducible refine Kp.drew ?_) | (with_reducible refine Kp.alloc ?_ _) | ((with_reducible refine Kp.put ?_ ?_ _); focus (first | (left; go_size; done) | (right; simp; done))) | ((with_reducible apply Kp.later); (with_reducible assumption)))))
  have h2c0 := fun o => (hk2.cell _ o hAz0 (by simp)).trans (hAc0 o)
  have h2f0 := fun o => (hk2.froz _ o hAz0).trans (hAf0 o)
  have h2z0 := Nat.lt_of_lt_of_le hAz0 hk2.size
  have h2c1 := fun o => (hk2.cell _ o hAz1 (by simp)).trans (hAc1 o)
  have h2f1 := fun o => (hk2.froz _ o hAz1).trans (hAf1 o)
  have h2z1 := Nat.lt_of_lt_of_le hAz1 hk2.size
  have h2c2 := fun o => (hk2.cell _ o hAz2 (by simp)).trans (hAc2 o)
  have h2f2 := fun o => (hk2.froz _ o hAz2).trans (hAf2 o)
  have h2z2 := Nat.lt_of_lt_of_le hAz2 hk2.size
  have h2c3 := fun o => (hk2.cell _ o hAz3 (by simp)).trans (hAc3 o)
  have h2f3 := fun o => (hk2.froz _ o hAz3).trans (hAf3 o)
  have h2z3 := Nat.lt_of_lt_of_le hAz3 hk2.size
  go_upto_region 4 with (fail)
  refine wp_world (fun x => (∀ o, x.cell? ⟨w.heap.size, o, none⟩ = (#[.bool (s), .int .u64 (wd (a) 0), .int .u64 (wd (a) 1), .int .u64 (wd (a) 2), .int .u64 (wd (a) 3)] : Array Value)[o]?) ∧ (∀ o, x.cell? ⟨w.heap.size + 1, o, none⟩ = (#[.bool (t), .int .u64 (wd (b) 0), .int .u64 (wd (b) 1), .int .u64 (wd (b) 2), .int .u64 (wd (b) 3)] : Array Value)[o]?) ∧ (∀ o, x.cell? ⟨w.heap.size + 1 + 1, o, none⟩ = (#[.bool (r), .int .u64 (wd (c) 0), .int .u64 (wd (c) 1), .int .u64 (wd (c) 2), .int .u64 (wd (c) 3)] : Array Value)[o]?) ∧ (∀ o, x.cell? ⟨w1.heap.size, o, none⟩ = (#[.bool (false), .int .u64 (wd (g) 0), .int .u64 (wd (g) 1), .int .u64 (wd (g) 2), .int .u64 (wd (g) 3)] : Array Value)[o]?) ∧ (∀ o, x.frozen? ⟨w.heap.size, o, none⟩ = false) ∧ (∀ o, x.frozen? ⟨w.heap.size + 1, o, none⟩ = false) ∧ (∀ o, x.frozen? ⟨w.heap.size + 1 + 1, o, none⟩ = false) ∧ (∀ o, x.frozen? ⟨w1.heap.size, o, none⟩ = false) ∧ w.heap.size < x.heap.size ∧ w.heap.size + 1 < x.heap.size ∧ w.heap.size + 1 + 1 < x.heap.size ∧ w1.heap.size < x.heap.size ∧ Below w.heap.size w x) ⟨fun o => by simp [go_sem, h2c0, h2f0, h2z0, h2c1, h2f1, h2z1, h2c2, h2f2, h2z2, h2c3, h2f3, h2z3], fun o => by simp [go_sem, h2c0, h2f0, h2z0, h2c1, h2f1, h2z1, h2c2, h2f2, h2z2, h2c3, h2f3, h2z3], fun o => by simp [go_sem, h2c0, h2f0, h2z0, h2c1, h2f1, h2z1, h2c2, h2f2, h2z2, h2c3, h2f3, h2z3], fun o => by simp [go_sem, h2c0, h2f0, h2z0, h2c1, h2f1, h2z1, h2c2, h2f2, h2z2, h2c3, h2f3, h2z3], fun o => by simp [go_sem, h2c0, h2f0, h2z0, h2c1, h2f1, h2z1, h2c2, h2f2, h2z2, h2c3, h2f3, h2z3], fun o => by simp [go_sem, h2c0, h2f0, h2z0, h2c1, h2f1, h2z1, h2c2, h2f2, h2z2, h2c3, h2f3, h2z3], fun o => by simp [go_sem, h2c0, h2f0, h2z0, h2c1, h2f1, h2z1, h2c2, h2f2, h2z2, h2c3, h2f3, h2z3], fun o => by simp [go_sem, h2c0, h2f0, h2z0, h2c1, h2f1, h2z1, h2c2, h2f2, h2z2, h2c3, h2f3, h2z3], by (first | omega | (simp [go_sem, h2c0, h2f0, h2z0, h2c1, h2f1, h2z1, h2c2, h2f2, h2z2, h2c3, h2f3, h2z3]; done) | (simp [go_sem, h2c0, h2f0, h2z0, h2c1, h2f1, h2z1, h2c2, h2f2, h2z2, h2c3, h2f3, h2z3]; omega)), by (first | omega | (simp [go_sem, h2c0, h2f0, h2z0, h2c1, h2f1, h2z1, h2c2, h2f2, h2z2, h2c3, h2f3, h2z3]; done) | (simp [go_sem, h2c0, h2f0, h2z0, h2c1, h2f1, h2z1, h2c2, h2f2, h2z2, h2c3, h2f3, h2z3]; omega)), by (first | omega | (simp [go_sem, h2c0, h2f0, h2z0, h2c1, h2f1, h2z1, h2c2, h2f2, h2z2, h2c3, h2f3, h2z3]; done) | (simp [go_sem, h2c0, h2f0, h2z0, h2c1, h2f1, h2z1, h2c2, h2f2, h2z2, h2c3, h2f3, h2z3]; omega)), by (first | omega | (simp [go_sem, h2c0, h2f0, h2z0, h2c1, h2f1, h2z1, h2c2, h2f2, h2z2, h2c3, h2f3, h2z3]; done) | (simp [go_sem, h2c0, h2f0, h2z0, h2c1, h2f1, h2z1, h2c2, h2f2, h2z2, h2c3, h2f3, h2z3]; omega)), by (repeat' (first | (with_reducible exact Below.refl _ _) | (with_reducible assumption) | (with_reducible refine below_alloc ?_ _) | (with_reducible refine Below.drew ?_) | (with_reducible refine Below.setCell ?_ ?_ _) | (with_reducible refine below_after ?_ (by assumption)) | go_size))⟩ ?_
  rintro B ⟨hBc0, hBc1, hBc2, hBc3, hBf0, hBf1, hBf2, hBf3, hBz0, hBz1, hBz2, hBz3, hBb⟩
  go_wp2_with fail
  ((with_reducible refine (D1.out _).mono ?_); rintro e w4 ⟨rfl, hb4⟩)
  have hk4 : Kp B.heap.size [] B w4 := (by (repeat (first | (with_reducible assumption) | (with_reducible exact Kp.refl (Nat.le_refl _)) | (with_reducible refine Kp.drew ?_) | (with_reducible refine Kp.alloc ?_ _) | ((with_reducible refine Kp.put ?_ ?_ _); focus (first | (left; go_size; done) | (right; simp; done))) | ((with_reducible apply Kp.later); (with_reducible assumption)))))
  have h4c0 := fun o => (hk4.cell _ o hBz0 (by simp)).trans (hBc0 o)
  have h4f0 := fun o => (hk4.froz _ o hBz0).trans (hBf0 o)
  have h4z0 := Nat.lt_of_lt_of_le hBz0 hk4.size
  have h4c1 := fun o => (hk4.cell _ o hBz1 (by simp)).trans (hBc1 o)
  have h4f1 := fun o => (hk4.froz _ o hBz1).trans (hBf1 o)
  have h4z1 := Nat.lt_of_lt_of_le hBz1 hk4.size
  have h4c2 := fun o => (hk4.cell _ o hBz2 (by simp)).trans (hBc2 o)
  have h4f2 := fun o => (hk4.froz _ o hBz2).trans (hBf2 o)
  have h4z2 := Nat.lt_of_lt_of_le hBz2 hk4.size
  have h4c3 := fun o => (hk4.cell _ o hBz3 (by simp)).trans (hBc3 o)
  have h4f3 := fun o => (hk4.froz _ o hBz3).trans (hBf3 o)
  have h4z3 := Nat.lt_of_lt_of_le hBz3 hk4.size
  go_upto_region 5 with (fail)
  refine wp_world (fun x => (∀ o, x.cell? ⟨w.heap.size, o, none⟩ = (#[.bool (s), .int .u64 (wd (a) 0), .int .u64 (wd (a) 1), .int .u64 (wd (a) 2), .int .u64 (wd (a) 3)] : Array Value)[o]?) ∧ (∀ o, x.cell? ⟨w.heap.size + 1, o, none⟩ = (#[.bool (t), .int .u64 (wd (b) 0), .int .u64 (wd (b) 1), .int .u64 (wd (b) 2), .int .u64 (wd (b) 3)] : Array Value)[o]?) ∧ (∀ o, x.cell? ⟨w.heap.size + 1 + 1, o, none⟩ = (#[.bool (r), .int .u64 (wd (c) 0), .int .u64 (wd (c) 1), .int .u64 (wd (c) 2), .int .u64 (wd (c) 3)] : Array Value)[o]?) ∧ (∀ o, x.cell? ⟨w1.heap.size, o, none⟩ = (#[.bool (false), .int .u64 (wd (g) 0), .int .u64 (wd (g) 1), .int .u64 (wd (g) 2), .int .u64 (wd (g) 3)] : Array Value)[o]?) ∧ (∀ o, x.cell? ⟨w4.heap.size + 1, o, none⟩ = (#[.bool false, .int .u64 0, .int .u64 0, .int .u64 0, .int .u64 0] : Array Value)[o]?) ∧ (∀ o, x.frozen? ⟨w.heap.size, o, none⟩ = false) ∧ (∀ o, x.frozen? ⟨w.heap.size + 1, o, none⟩ = false) ∧ (∀ o, x.frozen? ⟨w.heap.size + 1 + 1, o, none⟩ = false) ∧ (∀ o, x.frozen? ⟨w1.heap.size, o, none⟩ = false) ∧ (∀ o, x.frozen? ⟨w4.heap.size + 1, o, none⟩ = false) ∧ w.heap.size < x.heap.size ∧ w.heap.size + 1 < x.heap.size ∧ w.heap.size + 1 + 1 < x.heap.size ∧ w1.heap.size < x.heap.size ∧ w4.heap.size + 1 < x.heap.size ∧ Below w.heap.size w x) ⟨fun o => by simp [go_sem, h4c0, h4f0, h4z0, h4c1, h4f1, h4z1, h4c2, h4f2, h4z2, h4c3, h4f3, h4z3], fun o => by simp [go_sem, h4c0, h4f0, h4z0, h4c1, h4f1, h4z1, h4c2, h4f2, h4z2, h4c3, h4f3, h4z3], fun o => by simp [go_sem, h4c0, h4f0, h4z0, h4c1, h4f1, h4z1, h4c2, h4f2, h4z2, h4c3, h4f3, h4z3], fun o => by simp [go_sem, h4c0, h4f0, h4z0, h4c1, h4f1, h4z1, h4c2, h4f2, h4z2, h4c3, h4f3, h4z3], fun o => by simp [go_sem, h4c0, h4f0, h4z0, h4c1, h4f1, h4z1, h4c2, h4f2, h4z2, h4c3, h4f3, h4z3], fun o => by simp [go_sem, h4c0, h4f0, h4z0, h4c1, h4f1, h4z1, h4c2, h4f2, h4z2, h4c3, h4f3, h4z3], fun o => by simp [go_sem, h4c0, h4f0, h4z0, h4c1, h4f1, h4z1, h4c2, h4f2, h4z2, h4c3, h4f3, h4z3], fun o => by simp [go_sem, h4c0, h4f0, h4z0, h4c1, h4f1, h4z1, h4c2, h4f2, h4z2, h4c3, h4f3, h4z3], fun o => by simp [go_sem, h4c0, h4f0, h4z0, h4c1, h4f1, h4z1, h4c2, h4f2, h4z2, h4c3, h4f3, h4z3], fun o => by simp [go_sem, h4c0, h4f0, h4z0, h4c1, h4f1, h4z1, h4c2, h4f2, h4z2, h4c3, h4f3, h4z3], by (first | omega | (simp [go_sem, h4c0, h4f0, h4z0, h4c1, h4f1, h4z1, h4c2, h4f2, h4z2, h4c3, h4f3, h4z3]; done) | (simp [go_sem, h4c0, h4f0, h4z0, h4c1, h4f1, h4z1, h4c2, h4f2, h4z2, h4c3, h4f3, h4z3]; omega)), by (first | omega | (simp [go_sem, h4c0, h4f0, h4z0, h4c1, h4f1, h4z1, h4c2, h4f2, h4z2, h4c3, h4f3, h4z3]; done) | (simp [go_sem, h4c0, h4f0, h4z0, h4c1, h4f1, h4z1, h4c2, h4f2, h4z2, h4c3, h4f3, h4z3]; omega)), by (first | omega | (simp [go_sem, h4c0, h4f0, h4z0, h4c1, h4f1, h4z1, h4c2, h4f2, h4z2, h4c3, h4f3, h4z3]; done) | (simp [go_sem, h4c0, h4f0, h4z0, h4c1, h4f1, h4z1, h4c2, h4f2, h4z2, h4c3, h4f3, h4z3]; omega)), by (first | omega | (simp [go_sem, h4c0, h4f0, h4z0, h4c1, h4f1, h4z1, h4c2, h4f2, h4z2, h4c3, h4f3, h4z3]; done) | (simp [go_sem, h4c0, h4f0, h4z0, h4c1, h4f1, h4z1, h4c2, h4f2, h4z2, h4c3, h4f3, h4z3]; omega)), by (first | omega | (simp [go_sem, h4c0, h4f0, h4z0, h4c1, h4f1, h4z1, h4c2, h4f2, h4z2, h4c3, h4f3, h4z3]; done) | (simp [go_sem, h4c0, h4f0, h4z0, h4c1, h4f1, h4z1, h4c2, h4f2, h4z2, h4c3, h4f3, h4z3]; omega)), by (repeat' (first | (with_reducible exact Below.refl _ _) | (with_reducible assumption) | (with_reducible refine below_alloc ?_ _) | (with_reducible refine Below.drew ?_) | (with_reducible refine Below.setCell ?_ ?_ _) | (with_reducible refine below_after ?_ (by assumption)) | go_size))⟩ ?_
  rintro C ⟨hCc0, hCc1, hCc2, hCc3, hCc4, hCf0, hCf1, hCf2, hCf3, hCf4, hCz0, hCz1, hCz2, hCz3, hCz4, hCb⟩
  go_wp2_with fail
  ((with_reducible refine (D2.out _).mono ?_); rintro e w5 ⟨rfl, hb5⟩)
  have hk5 : Kp C.heap.size [] C w5 := (by (repeat (first | (with_reducible assumption) | (with_reducible exact Kp.refl (Nat.le_refl _)) | (with_reducible refine Kp.drew ?_) | (with_reducible refine Kp.alloc ?_ _) | ((with_reducible refine Kp.put ?_ ?_ _); focus (first | (left; go_size; done) | (right; simp; done))) | ((with_reducible apply Kp.later); (with_reducible assumption)))))
  have h5c0 := fun o => (hk5.cell _ o hCz0 (by simp)).trans (hCc0 o)
  have h5f0 := fun o => (hk5.froz _ o hCz0).trans (hCf0 o)
  have h5z0 := Nat.lt_of_lt_of_le hCz0 hk5.size
  have h5c1 := fun o => (hk5.cell _ o hCz1 (by simp)).trans (hCc1 o)
  have h5f1 := fun o => (hk5.froz _ o hCz1).trans (hCf1 o)
  have h5z1 := Nat.lt_of_lt_of_le hCz1 hk5.size
  have h5c2 := fun o => (hk5.cell _ o hCz2 (by simp)).trans (hCc2 o)
  have h5f2 := fun o => (hk5.froz _ o hCz2).trans (hCf2 o)
  have h5z2 := Nat.lt_of_lt_of_le hCz2 hk5.size
  have h5c3 := fun o => (hk5.cell _ o hCz3 (by simp)).trans (hCc3 o)
  have h5f3 := fun o => (hk5.froz _ o hCz3).trans (hCf3 o)
  have h5z3 := Nat.lt_of_lt_of_le hCz3 hk5.size
  have h5c4 := fun o => (hk5.cell _ o hCz4 (by simp)).trans (hCc4 o)
  have h5f4 := fun o => (hk5.froz _ o hCz4).trans (hCf4 o)
  have h5z4 := Nat.lt_of_lt_of_le hCz4 hk5.size
  go_upto_region 6 with (fail)
  refine wp_world (fun x => (∀ o, x.cell? ⟨w.heap.size, o, none⟩ = (#[.bool (s), .int .u64 (wd (a) 0), .int .u64 (wd (a) 1), .int .u64 (wd (a) 2), .int .u64 (wd (a) 3)] : Array Value)[o]?) ∧ (∀ o, x.cell? ⟨w.heap.size + 1, o, none⟩ = (#[.bool (t), .int .u64 (wd (b) 0), .int .u64 (wd (b) 1), .int .u64 (wd (b) 2), .int .u64 (wd (b) 3)] : Array Value)[o]?) ∧ (∀ o, x.cell? ⟨w.heap.size + 1 + 1, o, none⟩ = (#[.bool (r), .int .u64 (wd (c) 0), .int .u64 (wd (c) 1), .int .u64 (wd (c) 2), .int .u64 (wd (c) 3)] : Array Value)[o]?) ∧ (∀ o, x.cell? ⟨w1.heap.size, o, none⟩ = (#[.bool (false), .int .u64 (wd (g) 0), .int .u64 (wd (g) 1), .int .u64 (wd (g) 2), .int .u64 (wd (g) 3)] : Array Value)[o]?) ∧ (∀ o, x.cell? ⟨w4.heap.size + 1, o, none⟩ = (#[.bool false, .int .u64 0, .int .u64 0, .int .u64 0, .int .u64 0] : Array Value)[o]?) ∧ (∀ o, x.cell? ⟨w5.heap.size + 1, o, none⟩ = (#[.bool false, .int .u64 0, .int .u64 0, .int .u64 0, .int .u64 0] : Array Value)[o]?) ∧ (∀ o, x.frozen? ⟨w.heap.size, o, none⟩ = false) ∧ (∀ o, x.frozen? ⟨w.heap.size + 1, o, none⟩ = false) ∧ (∀ o, x.frozen? ⟨w.heap.size + 1 + 1, o, none⟩ = false) ∧ (∀ o, x.frozen? ⟨w1.heap.size, o, none⟩ = false) ∧ (∀ o, x.frozen? ⟨w4.heap.size + 1, o, none⟩ = false) ∧ (∀ o, x.frozen? ⟨w5.heap.size + 1, o, none⟩ = false) ∧ w.heap.size < x.heap.size ∧ w.heap.size + 1 < x.heap.size ∧ w.heap.size + 1 + 1 < x.heap.size ∧ w1.heap.size < x.heap.size ∧ w4.heap.size + 1 < x.heap.size ∧ w5.heap.size + 1 < x.heap.size ∧ Below w.heap.size w x) ⟨fun o => by simp [go_sem, h5c0, h5f0, h5z0, h5c1, h5f1, h5z1, h5c2, h5f2, h5z2, h5c3, h5f3, h5z3, h5c4, h5f4, h5z4, Nat.lt_of_succ_lt h5z4], fun o => by simp [go_sem, h5c0, h5f0, h5z0, h5c1, h5f1, h5z1, h5c2, h5f2, h5z2, h5c3, h5f3, h5z3, h5c4, h5f4, h5z4, Nat.lt_of_succ_lt h5z4], fun o => by simp [go_sem, h5c0, h5f0, h5z0, h5c1, h5f1, h5z1, h5c2, h5f2, h5z2, h5c3, h5f3, h5z3, h5c4, h5f4, h5z4, Nat.lt_of_succ_lt h5z4], fun o => by simp [go_sem, h5c0, h5f0, h5z0, h5c1, h5f1, h5z1, h5c2, h5f2, h5z2, h5c3, h5f3, h5z3, h5c4, h5f4, h5z4, Nat.lt_of_succ_lt h5z4], fun o => by simp [go_sem, h5c0, h5f0, h5z0, h5c1, h5f1, h5z1, h5c2, h5f2, h5z2, h5c3, h5f3, h5z3, h5c4, h5f4, h5z4, Nat.lt_of_succ_lt h5z4], fun o => by simp [go_sem, h5c0, h5f0, h5z0, h5c1, h5f1, h5z1, h5c2, h5f2, h5z2, h5c3, h5f3, h5z3, h5c4, h5f4, h5z4, Nat.lt_of_succ_lt h5z4], fun o => by simp [go_sem, h5c0, h5f0, h5z0, h5c1, h5f1, h5z1, h5c2, h5f2, h5z2, h5c3, h5f3, h5z3, h5c4, h5f4, h5z4, Nat.lt_of_succ_lt h5z4], fun o => by simp [go_sem, h5c0, h5f0, h5z0, h5c1, h5f1, h5z1, h5c2, h5f2, h5z2, h5c3, h5f3, h5z3, h5c4, h5f4, h5z4, Nat.lt_of_succ_lt h5z4], fun o => by simp [go_sem, h5c0, h5f0, h5z0, h5c1, h5f1, h5z1, h5c2, h5f2, h5z2, h5c3, h5f3, h5z3, h5c4, h5f4, h5z4, Nat.lt_of_succ_lt h5z4], fun o => by simp [go_sem, h5c0, h5f0, h5z0, h5c1, h5f1, h5z1, h5c2, h5f2, h5z2, h5c3, h5f3, h5z3, h5c4, h5f4, h5z4, Nat.lt_of_succ_lt h5z4], fun o => by simp [go_sem, h5c0, h5f0, h5z0, h5c1, h5f1, h5z1, h5c2, h5f2, h5z2, h5c3, h5f3, h5z3, h5c4, h5f4, h5z4, Nat.lt_of_succ_lt h5z4], fun o => by simp [go_sem, h5c0, h5f0, h5z0, h5c1, h5f1, h5z1, h5c2, h5f2, h5z2, h5c3, h5f3, h5z3, h5c4, h5f4, h5z4, Nat.lt_of_succ_lt h5z4], by (first | omega | (simp [go_sem, h5c0, h5f0, h5z0, h5c1, h5f1, h5z1, h5c2, h5f2, h5z2, h5c3, h5f3, h5z3, h5c4, h5f4, h5z4, Nat.lt_of_succ_lt h5z4]; done) | (simp [go_sem, h5c0, h5f0, h5z0, h5c1, h5f1, h5z1, h5c2, h5f2, h5z2, h5c3, h5f3, h5z3, h5c4, h5f4, h5z4, Nat.lt_of_succ_lt h5z4]; omega)), by (first | omega | (simp [go_sem, h5c0, h5f0, h5z0, h5c1, h5f1, h5z1, h5c2, h5f2, h5z2, h5c3, h5f3, h5z3, h5c4, h5f4, h5z4, Nat.lt_of_succ_lt h5z4]; done) | (simp [go_sem, h5c0, h5f0, h5z0, h5c1, h5f1, h5z1, h5c2, h5f2, h5z2, h5c3, h5f3, h5z3, h5c4, h5f4, h5z4, Nat.lt_of_succ_lt h5z4]; omega)), by (first | omega | (simp [go_sem, h5c0, h5f0, h5z0, h5c1, h5f1, h5z1, h5c2, h5f2, h5z2, h5c3, h5f3, h5z3, h5c4, h5f4, h5z4, Nat.lt_of_succ_lt h5z4]; done) | (simp [go_sem, h5c0, h5f0, h5z0, h5c1, h5f1, h5z1, h5c2, h5f2, h5z2, h5c3, h5f3, h5z3, h5c4, h5f4, h5z4, Nat.lt_of_succ_lt h5z4]; omega)), by (first | omega | (simp [go_sem, h5c0, h5f0, h5z0, h5c1, h5f1, h5z1, h5c2, h5f2, h5z2, h5c3, h5f3, h5z3, h5c4, h5f4, h5z4, Nat.lt_of_succ_lt h5z4]; done) | (simp [go_sem, h5c0, h5f0, h5z0, h5c1, h5f1, h5z1, h5c2, h5f2, h5z2, h5c3, h5f3, h5z3, h5c4, h5f4, h5z4, Nat.lt_of_succ_lt h5z4]; omega)), by (first | omega | (simp [go_sem, h5c0, h5f0, h5z0, h5c1, h5f1, h5z1, h5c2, h5f2, h5z2, h5c3, h5f3, h5z3, h5c4, h5f4, h5z4, Nat.lt_of_succ_lt h5z4]; done) | (simp [go_sem, h5c0, h5f0, h5z0, h5c1, h5f1, h5z1, h5c2, h5f2, h5z2, h5c3, h5f3, h5z3, h5c4, h5f4, h5z4, Nat.lt_of_succ_lt h5z4]; omega)), by (first | omega | (simp [go_sem, h5c0, h5f0, h5z0, h5c1, h5f1, h5z1, h5c2, h5f2, h5z2, h5c3, h5f3, h5z3, h5c4, h5f4, h5z4, Nat.lt_of_succ_lt h5z4]; done) | (simp [go_sem, h5c0, h5f0, h5z0, h5c1, h5f1, h5z1, h5c2, h5f2, h5z2, h5c3, h5f3, h5z3, h5c4, h5f4, h5z4, Nat.lt_of_succ_lt h5z4]; omega)), by (repeat' (first | (with_reducible exact Below.refl _ _) | (with_reducible assumption) | (with_reducible refine below_alloc ?_ _) | (with_reducible refine Below.drew ?_) | (with_reducible refine Below.setCell ?_ ?_ _) | (with_reducible refine below_after ?_ (by assumption)) | go_size))⟩ ?_
  rintro D ⟨hDc0, hDc1, hDc2, hDc3, hDc4, hDc5, hDf0, hDf1, hDf2, hDf3, hDf4, hDf5, hDz0, hDz1, hDz2, hDz3, hDz4, hDz5, hDb⟩
  go_upto_region 8 with (fail)
  by_cases hc0 : c = 0
  · subst hc0
    have P3 := Lib.hid (plain_zero r)
    go_wp2_with fail
    ((with_reducible refine (P3.out _).mono ?_); rintro e w6 ⟨rfl, hb6⟩)
    have hk6 : Kp D.heap.size [] D w6 := (by (repeat (first | (with_reducible assumption) | (with_reducible exact Kp.refl (Nat.le_refl _)) | (with_reducible refine Kp.drew ?_) | (with_reducible refine Kp.alloc ?_ _) | ((with_reducible refine Kp.put ?_ ?_ _); focus (first | (left; go_size; done) | (right; simp; done))) | ((with_reducible apply Kp.later); (with_reducible assumption)))))
    have h6c0 := fun o => (hk6.cell _ o hDz0 (by simp)).trans (hDc0 o)
    have h6f0 := fun o => (hk6.froz _ o hDz0).trans (hDf0 o)
    have h6z0 := Nat.lt_of_lt_of_le hDz0 hk6.size
    have h6c1 := fun o => (hk6.cell _ o hDz1 (by simp)).trans (hDc1 o)
    have h6f1 := fun o => (hk6.froz _ o hDz1).trans (hDf1 o)
    have h6z1 := Nat.lt_of_lt_of_le hDz1 hk6.size
    have h6c2 := fun o => (hk6.cell _ o hDz2 (by simp)).trans (hDc2 o)
    have h6f2 := fun o => (hk6.froz _ o hDz2).trans (hDf2 o)
    have h6z2 := Nat.lt_of_lt_of_le hDz2 hk6.size
    have h6c3 := fun o => (hk6.cell _ o hDz3 (by simp)).trans (hDc3 o)
    have h6f3 := fun o => (hk6.froz _ o hDz3).trans (hDf3 o)
    have h6z3 := Nat.lt_of_lt_of_le hDz3 hk6.size
    go_wp2_with fail
    ((with_reducible refine (K.out _ (HT.out.later (by (repeat' (first | (with_reducible exact Below.refl _ _) | (with_reducible assumption) | (with_reducible refine below_alloc ?_ _) | (with_reducible refine Below.drew ?_) | (with_reducible refine Below.setCell ?_ ?_ _) | (with_reducible refine below_after ?_ (by assumption)) | go_size))))).mono ?_); rintro e w7 ⟨rfl, hb7⟩)
    have hk7 : Kp D.heap.size [] D w7 := (by (repeat (first | (with_reducible assumption) | (with_reducible exact Kp.refl (Nat.le_refl _)) | (with_reducible refine Kp.drew ?_) | (with_reducible refine Kp.alloc ?_ _) | ((with_reducible refine Kp.put ?_ ?_ _); focus (first | (left; go_size; done) | (right; simp; done))) | ((with_reducible apply Kp.later); (with_reducible assumption)))))
    have h7c0 := fun o => (hk7.cell _ o hDz0 (by simp)).trans (hDc0 o)
    have h7f0 := fun o => (hk7.froz _ o hDz0).trans (hDf0 o)
    have h7z0 := Nat.lt_of_lt_of_le hDz0 hk7.size
    have h7c1 := fun o => (hk7.cell _ o hDz1 (by simp)).trans (hDc1 o)
    have h7f1 := fun o => (hk7.froz _ o hDz1).trans (hDf1 o)
    have h7z1 := Nat.lt_of_lt_of_le hDz1 hk7.size
    have h7c2 := fun o => (hk7.cell _ o hDz2 (by simp)).trans (hDc2 o)
    have h7f2 := fun o => (hk7.froz _ o hDz2).trans (hDf2 o)
    have h7z2 := Nat.lt_of_lt_of_le hDz2 hk7.size
    have h7c3 := fun o => (hk7.cell _ o hDz3 (by simp)).trans (hDc3 o)
    have h7f3 := fun o => (hk7.froz _ o hDz3).trans (hDf3 o)
    have h7z3 := Nat.lt_of_lt_of_le hDz3 hk7.size
    go_wp2
    go_ret
    exact ⟨rfl, by (repeat' (first | (with_reducible exact Below.refl _ _) | (with_reducible assumption) | (with_reducible refine below_alloc ?_ _) | (with_reducible refine Below.drew ?_) | (with_reducible refine Below.setCell ?_ ?_ _) | (with_reducible refine below_after ?_ (by assumption)) | go_size))⟩
  have P3 := Lib.hid (plain_pos r c HC.out hc0)
  have qc := eq_wide0_pos r c HC.out hc0
  obtain ⟨qx, nx, hx, hx0, D3⟩ := div_some s r a c HA.out HC.out hc0
  obtain ⟨qy, ny, hy, hy0, D4⟩ := div_some t r b c HB.out HC.out hc0
  obtain ⟨qz, nz, hz, hz0, D5⟩ := div_some false r g c HGL.out HC.out hc0
  have HD := Lib.hid (show (decide (nx = 0) = false) ∨ (decide (nx = 0) = true ∧ decide (ny = 0) = false) ∨ (decide (nx = 0) = true ∧ decide (ny = 0) = true ∧ decide (nz = 0) = true) from ?hd)
  case hd =>
    have hg := HG.out
    by_cases h1 : nx = 0
    · by_cases h2 : ny = 0
      · have h3 : nz = 0 := hz0.2 (Nat.mod_eq_zero_of_dvd (by rw [hg]; exact Nat.dvd_gcd (Nat.dvd_of_mod_eq_zero (hx0.1 h1)) (Nat.dvd_of_mod_eq_zero (hy0.1 h2))))
        exact Or.inr (Or.inr ⟨by simp [h1], by simp [h2], by simp [h3]⟩)
      · exact Or.inr (Or.inl ⟨by simp [h1], by simp [h2]⟩)
    · exact Or.inl (by simp [h1])
  have qx0 := eq_z0 nx hx
  have qy0 := eq_z0 ny hy
  have qz0 := eq_z0 nz hz
  clear hx hy hz hx0 hy0 hz0 hc0
  have D3 := Lib.hid D3
  have D4 := Lib.hid D4
  have D5 := Lib.hid D5
  go_wp2_with fail
  ((with_reducible refine (P3.out _).mono ?_); rintro e w6 ⟨rfl, hb6⟩)
  have hk6 : Kp D.heap.size [] D w6 := (by (repeat (first | (with_reducible assumption) | (with_reducible exact Kp.refl (Nat.le_refl _)) | (with_reducible refine Kp.drew ?_) | (with_reducible refine Kp.alloc ?_ _) | ((with_reducible refine Kp.put ?_ ?_ _); focus (first | (left; go_size; done) | (right; simp; done))) | ((with_reducible apply Kp.later); (with_reducible assumption)))))
  have h6c0 := fun o => (hk6.cell _ o hDz0 (by simp)).trans (hDc0 o)
  have h6f0 := fun o => (hk6.froz _ o hDz0).trans (hDf0 o)
  have h6z0 := Nat.lt_of_lt_of_le hDz0 hk6.size
  have h6c1 := fun o => (hk6.cell _ o hDz1 (by simp)).trans (hDc1 o)
  have h6f1 := fun o => (hk6.froz _ o hDz1).trans (hDf1 o)
  have h6z1 := Nat.lt_of_lt_of_le hDz1 hk6.size
  have h6c2 := fun o => (hk6.cell _ o hDz2 (by simp)).trans (hDc2 o)
  have h6f2 := fun o => (hk6.froz _ o hDz2).trans (hDf2 o)
  have h6z2 := Nat.lt_of_lt_of_le hDz2 hk6.size
  have h6c3 := fun o => (hk6.cell _ o hDz3 (by simp)).trans (hDc3 o)
  have h6f3 := fun o => (hk6.froz _ o hDz3).trans (hDf3 o)
  have h6z3 := Nat.lt_of_lt_of_le hDz3 hk6.size
  go_upto_region 10 with (fail)
  refine wp_world (fun x => (∀ o, x.cell? ⟨w.heap.size, o, none⟩ = (#[.bool (s), .int .u64 (wd (a) 0), .int .u64 (wd (a) 1), .int .u64 (wd (a) 2), .int .u64 (wd (a) 3)] : Array Value)[o]?) ∧ (∀ o, x.cell? ⟨w.heap.size + 1, o, none⟩ = (#[.bool (t), .int .u64 (wd (b) 0), .int .u64 (wd (b) 1), .int .u64 (wd (b) 2), .int .u64 (wd (b) 3)] : Array Value)[o]?) ∧ (∀ o, x.cell? ⟨w.heap.size + 1 + 1, o, none⟩ = (#[.bool (r), .int .u64 (wd (c) 0), .int .u64 (wd (c) 1), .int .u64 (wd (c) 2), .int .u64 (wd (c) 3)] : Array Value)[o]?) ∧ (∀ o, x.cell? ⟨w1.heap.size, o, none⟩ = (#[.bool (false), .int .u64 (wd (g) 0), .int .u64 (wd (g) 1), .int .u64 (wd (g) 2), .int .u64 (wd (g) 3)] : Array Value)[o]?) ∧ (∀ o, x.frozen? ⟨w.heap.size, o, none⟩ = false) ∧ (∀ o, x.frozen? ⟨w.heap.size + 1, o, none⟩ = false) ∧ (∀ o, x.frozen? ⟨w.heap.size + 1 + 1, o, none⟩ = false) ∧ (∀ o, x.frozen? ⟨w1.heap.size, o, none⟩ = false) ∧ w.heap.size < x.heap.size ∧ w.heap.size + 1 < x.heap.size ∧ w.heap.size + 1 + 1 < x.heap.size ∧ w1.heap.size < x.heap.size ∧ Below w.heap.size w x) ⟨fun o => by simp [go_sem, h6c0, h6f0, h6z0, h6c1, h6f1, h6z1, h6c2, h6f2, h6z2, h6c3, h6f3, h6z3], fun o => by simp [go_sem, h6c0, h6f0, h6z0, h6c1, h6f1, h6z1, h6c2, h6f2, h6z2, h6c3, h6f3, h6z3], fun o => by simp [go_sem, h6c0, h6f0, h6z0, h6c1, h6f1, h6z1, h6c2, h6f2, h6z2, h6c3, h6f3, h6z3], fun o => by simp [go_sem, h6c0, h6f0, h6z0, h6c1, h6f1, h6z1, h6c2, h6f2, h6z2, h6c3, h6f3, h6z3], fun o => by simp [go_sem, h6c0, h6f0, h6z0, h6c1, h6f1, h6z1, h6c2, h6f2, h6z2, h6c3, h6f3, h6z3], fun o => by simp [go_sem, h6c0, h6f0, h6z0, h6c1, h6f1, h6z1, h6c2, h6f2, h6z2, h6c3, h6f3, h6z3], fun o => by simp [go_sem, h6c0, h6f0, h6z0, h6c1, h6f1, h6z1, h6c2, h6f2, h6z2, h6c3, h6f3, h6z3], fun o => by simp [go_sem, h6c0, h6f0, h6z0, h6c1, h6f1, h6z1, h6c2, h6f2, h6z2, h6c3, h6f3, h6z3], by (first | omega | (simp [go_sem, h6c0, h6f0, h6z0, h6c1, h6f1, h6z1, h6c2, h6f2, h6z2, h6c3, h6f3, h6z3]; done) | (simp [go_sem, h6c0, h6f0, h6z0, h6c1, h6f1, h6z1, h6c2, h6f2, h6z2, h6c3, h6f3, h6z3]; omega)), by (first | omega | (simp [go_sem, h6c0, h6f0, h6z0, h6c1, h6f1, h6z1, h6c2, h6f2, h6z2, h6c3, h6f3, h6z3]; done) | (simp [go_sem, h6c0, h6f0, h6z0, h6c1, h6f1, h6z1, h6c2, h6f2, h6z2, h6c3, h6f3, h6z3]; omega)), by (first | omega | (simp [go_sem, h6c0, h6f0, h6z0, h6c1, h6f1, h6z1, h6c2, h6f2, h6z2, h6c3, h6f3, h6z3]; done) | (simp [go_sem, h6c0, h6f0, h6z0, h6c1, h6f1, h6z1, h6c2, h6f2, h6z2, h6c3, h6f3, h6z3]; omega)), by (first | omega | (simp [go_sem, h6c0, h6f0, h6z0, h6c1, h6f1, h6z1, h6c2, h6f2, h6z2, h6c3, h6f3, h6z3]; done) | (simp [go_sem, h6c0, h6f0, h6z0, h6c1, h6f1, h6z1, h6c2, h6f2, h6z2, h6c3, h6f3, h6z3]; omega)), by (repeat' (first | (with_reducible exact Below.refl _ _) | (with_reducible assumption) | (with_reducible refine below_alloc ?_ _) | (with_reducible refine Below.drew ?_) | (with_reducible refine Below.setCell ?_ ?_ _) | (with_reducible refine below_after ?_ (by assumption)) | go_size))⟩ ?_
  rintro E ⟨hEc0, hEc1, hEc2, hEc3, hEf0, hEf1, hEf2, hEf3, hEz0, hEz1, hEz2, hEz3, hEb⟩
  go_wp2_with fail
  ((with_reducible refine (D3.out _).mono ?_); rintro e w7 ⟨rfl, hb7⟩)
  have hk7 : Kp E.heap.size [] E w7 := (by (repeat (first | (with_reducible assumption) | (with_reducible exact Kp.refl (Nat.le_refl _)) | (with_reducible refine Kp.drew ?_) | (with_reducible refine Kp.alloc ?_ _) | ((with_reducible refine Kp.put ?_ ?_ _); focus (first | (left; go_size; done) | (right; simp; done))) | ((with_reducible apply Kp.later); (with_reducible assumption)))))
  have h7c0 := fun o => (hk7.cell _ o hEz0 (by simp)).trans (hEc0 o)
  have h7f0 := fun o => (hk7.froz _ o hEz0).trans (hEf0 o)
  have h7z0 := Nat.lt_of_lt_of_le hEz0 hk7.size
  have h7c1 := fun o => (hk7.cell _ o hEz1 (by simp)).trans (hEc1 o)
  have h7f1 := fun o => (hk7.froz _ o hEz1).trans (hEf1 o)
  have h7z1 := Nat.lt_of_lt_of_le hEz1 hk7.size
  have h7c2 := fun o => (hk7.cell _ o hEz2 (by simp)).trans (hEc2 o)
  have h7f2 := fun o => (hk7.froz _ o hEz2).trans (hEf2 o)
  have h7z2 := Nat.lt_of_lt_of_le hEz2 hk7.size
  have h7c3 := fun o => (hk7.cell _ o hEz3 (by simp)).trans (hEc3 o)
  have h7f3 := fun o => (hk7.froz _ o hEz3).trans (hEf3 o)
  have h7z3 := Nat.lt_of_lt_of_le hEz3 hk7.size
  go_upto_region 11 with (fail)
  refine wp_world (fun x => (∀ o, x.cell? ⟨w.heap.size + 1, o, none⟩ = (#[.bool (t), .int .u64 (wd (b) 0), .int .u64 (wd (b) 1), .int .u64 (wd (b) 2), .int .u64 (wd (b) 3)] : Array Value)[o]?) ∧ (∀ o, x.cell? ⟨w.heap.size + 1 + 1, o, none⟩ = (#[.bool (r), .int .u64 (wd (c) 0), .int .u64 (wd (c) 1), .int .u64 (wd (c) 2), .int .u64 (wd (c) 3)] : Array Value)[o]?) ∧ (∀ o, x.cell? ⟨w1.heap.size, o, none⟩ = (#[.bool (false), .int .u64 (wd (g) 0), .int .u64 (wd (g) 1), .int .u64 (wd (g) 2), .int .u64 (wd (g) 3)] : Array Value)[o]?) ∧ (∀ o, x.cell? ⟨w7.heap.size + 1, o, none⟩ = (#[.bool (zs (nx)), .int .u64 (wd (Int.natAbs (nx)) 0), .int .u64 (wd (Int.natAbs (nx)) 1), .int .u64 (wd (Int.natAbs (nx)) 2), .int .u64 (wd (Int.natAbs (nx)) 3)] : Array Value)[o]?) ∧ (∀ o, x.frozen? ⟨w.heap.size + 1, o, none⟩ = false) ∧ (∀ o, x.frozen? ⟨w.heap.size + 1 + 1, o, none⟩ = false) ∧ (∀ o, x.frozen? ⟨w1.heap.size, o, none⟩ = false) ∧ (∀ o, x.frozen? ⟨w7.heap.size + 1, o, none⟩ = false) ∧ w.heap.size + 1 < x.heap.size ∧ w.heap.size + 1 + 1 < x.heap.size ∧ w1.heap.size < x.heap.size ∧ w7.heap.size + 1 < x.heap.size ∧ Below w.heap.size w x) ⟨fun o => by simp [go_sem, h7c0, h7f0, h7z0, h7c1, h7f1, h7z1, h7c2, h7f2, h7z2, h7c3, h7f3, h7z3], fun o => by simp [go_sem, h7c0, h7f0, h7z0, h7c1, h7f1, h7z1, h7c2, h7f2, h7z2, h7c3, h7f3, h7z3], fun o => by simp [go_sem, h7c0, h7f0, h7z0, h7c1, h7f1, h7z1, h7c2, h7f2, h7z2, h7c3, h7f3, h7z3], fun o => by simp [go_sem, h7c0, h7f0, h7z0, h7c1, h7f1, h7z1, h7c2, h7f2, h7z2, h7c3, h7f3, h7z3], fun o => by simp [go_sem, h7c0, h7f0, h7z0, h7c1, h7f1, h7z1, h7c2, h7f2, h7z2, h7c3, h7f3, h7z3], fun o => by simp [go_sem, h7c0, h7f0, h7z0, h7c1, h7f1, h7z1, h7c2, h7f2, h7z2, h7c3, h7f3, h7z3], fun o => by simp [go_sem, h7c0, h7f0, h7z0, h7c1, h7f1, h7z1, h7c2, h7f2, h7z2, h7c3, h7f3, h7z3], fun o => by simp [go_sem, h7c0, h7f0, h7z0, h7c1, h7f1, h7z1, h7c2, h7f2, h7z2, h7c3, h7f3, h7z3], by (first | omega | (simp [go_sem, h7c0, h7f0, h7z0, h7c1, h7f1, h7z1, h7c2, h7f2, h7z2, h7c3, h7f3, h7z3]; done) | (simp [go_sem, h7c0, h7f0, h7z0, h7c1, h7f1, h7z1, h7c2, h7f2, h7z2, h7c3, h7f3, h7z3]; omega)), by (first | omega | (simp [go_sem, h7c0, h7f0, h7z0, h7c1, h7f1, h7z1, h7c2, h7f2, h7z2, h7c3, h7f3, h7z3]; done) | (simp [go_sem, h7c0, h7f0, h7z0, h7c1, h7f1, h7z1, h7c2, h7f2, h7z2, h7c3, h7f3, h7z3]; omega)), by (first | omega | (simp [go_sem, h7c0, h7f0, h7z0, h7c1, h7f1, h7z1, h7c2, h7f2, h7z2, h7c3, h7f3, h7z3]; done) | (simp [go_sem, h7c0, h7f0, h7z0, h7c1, h7f1, h7z1, h7c2, h7f2, h7z2, h7c3, h7f3, h7z3]; omega)), by (first | omega | (simp [go_sem, h7c0, h7f0, h7z0, h7c1, h7f1, h7z1, h7c2, h7f2, h7z2, h7c3, h7f3, h7z3]; done) | (simp [go_sem, h7c0, h7f0, h7z0, h7c1, h7f1, h7z1, h7c2, h7f2, h7z2, h7c3, h7f3, h7z3]; omega)), by (repeat' (first | (with_reducible exact Below.refl _ _) | (with_reducible assumption) | (with_reducible refine below_alloc ?_ _) | (with_reducible refine Below.drew ?_) | (with_reducible refine Below.setCell ?_ ?_ _) | (with_reducible refine below_after ?_ (by assumption)) | go_size))⟩ ?_
  rintro F ⟨hFc0, hFc1, hFc2, hFc3, hFf0, hFf1, hFf2, hFf3, hFz0, hFz1, hFz2, hFz3, hFb⟩
  go_wp2_with fail
  ((with_reducible refine (D4.out _).mono ?_); rintro e w8 ⟨rfl, hb8⟩)
  have hk8 : Kp F.heap.size [] F w8 := (by (repeat (first | (with_reducible assumption) | (with_reducible exact Kp.refl (Nat.le_refl _)) | (with_reducible refine Kp.drew ?_) | (with_reducible refine Kp.alloc ?_ _) | ((with_reducible refine Kp.put ?_ ?_ _); focus (first | (left; go_size; done) | (right; simp; done))) | ((with_reducible apply Kp.later); (with_reducible assumption)))))
  have h8c0 := fun o => (hk8.cell _ o hFz0 (by simp)).trans (hFc0 o)
  have h8f0 := fun o => (hk8.froz _ o hFz0).trans (hFf0 o)
  have h8z0 := Nat.lt_of_lt_of_le hFz0 hk8.size
  have h8c1 := fun o => (hk8.cell _ o hFz1 (by simp)).trans (hFc1 o)
  have h8f1 := fun o => (hk8.froz _ o hFz1).trans (hFf1 o)
  have h8z1 := Nat.lt_of_lt_of_le hFz1 hk8.size
  have h8c2 := fun o => (hk8.cell _ o hFz2 (by simp)).trans (hFc2 o)
  have h8f2 := fun o => (hk8.froz _ o hFz2).trans (hFf2 o)
  have h8z2 := Nat.lt_of_lt_of_le hFz2 hk8.size
  have h8c3 := fun o => (hk8.cell _ o hFz3 (by simp)).trans (hFc3 o)
  have h8f3 := fun o => (hk8.froz _ o hFz3).trans (hFf3 o)
  have h8z3 := Nat.lt_of_lt_of_le hFz3 hk8.size
  go_upto_region 12 with (fail)
  refine wp_world (fun x => (∀ o, x.cell? ⟨w.heap.size + 1 + 1, o, none⟩ = (#[.bool (r), .int .u64 (wd (c) 0), .int .u64 (wd (c) 1), .int .u64 (wd (c) 2), .int .u64 (wd (c) 3)] : Array Value)[o]?) ∧ (∀ o, x.cell? ⟨w1.heap.size, o, none⟩ = (#[.bool (false), .int .u64 (wd (g) 0), .int .u64 (wd (g) 1), .int .u64 (wd (g) 2), .int .u64 (wd (g) 3)] : Array Value)[o]?) ∧ (∀ o, x.cell? ⟨w7.heap.size + 1, o, none⟩ = (#[.bool (zs (nx)), .int .u64 (wd (Int.natAbs (nx)) 0), .int .u64 (wd (Int.natAbs (nx)) 1), .int .u64 (wd (Int.natAbs (nx)) 2), .int .u64 (wd (Int.natAbs (nx)) 3)] : Array Value)[o]?) ∧ (∀ o, x.cell? ⟨w8.heap.size + 1, o, none⟩ = (#[.bool (zs (ny)), .int .u64 (wd (Int.natAbs (ny)) 0), .int .u64 (wd (Int.natAbs (ny)) 1), .int .u64 (wd (Int.natAbs (ny)) 2), .int .u64 (wd (Int.natAbs (ny)) 3)] : Array Value)[o]?) ∧ (∀ o, x.frozen? ⟨w.heap.size + 1 + 1, o, none⟩ = false) ∧ (∀ o, x.frozen? ⟨w1.heap.size, o, none⟩ = false) ∧ (∀ o, x.frozen? ⟨w7.heap.size + 1, o, none⟩ = false) ∧ (∀ o, x.frozen? ⟨w8.heap.size + 1, o, none⟩ = false) ∧ w.heap.size + 1 + 1 < x.heap.size ∧ w1.heap.size < x.heap.size ∧ w7.heap.size + 1 < x.heap.size ∧ w8.heap.size + 1 < x.heap.size ∧ Below w.heap.size w x) ⟨fun o => by simp [go_sem, h8c0, h8f0, h8z0, h8c1, h8f1, h8z1, h8c2, h8f2, h8z2, h8c3, h8f3, h8z3, Nat.lt_of_succ_lt h8z3], fun o => by simp [go_sem, h8c0, h8f0, h8z0, h8c1, h8f1, h8z1, h8c2, h8f2, h8z2, h8c3, h8f3, h8z3, Nat.lt_of_succ_lt h8z3], fun o => by simp [go_sem, h8c0, h8f0, h8z0, h8c1, h8f1, h8z1, h8c2, h8f2, h8z2, h8c3, h8f3, h8z3, Nat.lt_of_succ_lt h8z3], fun o => by simp [go_sem, h8c0, h8f0, h8z0, h8c1, h8f1, h8z1, h8c2, h8f2, h8z2, h8c3, h8f3, h8z3, Nat.lt_of_succ_lt h8z3], fun o => by simp [go_sem, h8c0, h8f0, h8z0, h8c1, h8f1, h8z1, h8c2, h8f2, h8z2, h8c3, h8f3, h8z3, Nat.lt_of_succ_lt h8z3], fun o => by simp [go_sem, h8c0, h8f0, h8z0, h8c1, h8f1, h8z1, h8c2, h8f2, h8z2, h8c3, h8f3, h8z3, Nat.lt_of_succ_lt h8z3], fun o => by simp [go_sem, h8c0, h8f0, h8z0, h8c1, h8f1, h8z1, h8c2, h8f2, h8z2, h8c3, h8f3, h8z3, Nat.lt_of_succ_lt h8z3], fun o => by simp [go_sem, h8c0, h8f0, h8z0, h8c1, h8f1, h8z1, h8c2, h8f2, h8z2, h8c3, h8f3, h8z3, Nat.lt_of_succ_lt h8z3], by (first | omega | (simp [go_sem, h8c0, h8f0, h8z0, h8c1, h8f1, h8z1, h8c2, h8f2, h8z2, h8c3, h8f3, h8z3, Nat.lt_of_succ_lt h8z3]; done) | (simp [go_sem, h8c0, h8f0, h8z0, h8c1, h8f1, h8z1, h8c2, h8f2, h8z2, h8c3, h8f3, h8z3, Nat.lt_of_succ_lt h8z3]; omega)), by (first | omega | (simp [go_sem, h8c0, h8f0, h8z0, h8c1, h8f1, h8z1, h8c2, h8f2, h8z2, h8c3, h8f3, h8z3, Nat.lt_of_succ_lt h8z3]; done) | (simp [go_sem, h8c0, h8f0, h8z0, h8c1, h8f1, h8z1, h8c2, h8f2, h8z2, h8c3, h8f3, h8z3, Nat.lt_of_succ_lt h8z3]; omega)), by (first | omega | (simp [go_sem, h8c0, h8f0, h8z0, h8c1, h8f1, h8z1, h8c2, h8f2, h8z2, h8c3, h8f3, h8z3, Nat.lt_of_succ_lt h8z3]; done) | (simp [go_sem, h8c0, h8f0, h8z0, h8c1, h8f1, h8z1, h8c2, h8f2, h8z2, h8c3, h8f3, h8z3, Nat.lt_of_succ_lt h8z3]; omega)), by (first | omega | (simp [go_sem, h8c0, h8f0, h8z0, h8c1, h8f1, h8z1, h8c2, h8f2, h8z2, h8c3, h8f3, h8z3, Nat.lt_of_succ_lt h8z3]; done) | (simp [go_sem, h8c0, h8f0, h8z0, h8c1, h8f1, h8z1, h8c2, h8f2, h8z2, h8c3, h8f3, h8z3, Nat.lt_of_succ_lt h8z3]; omega)), by (repeat' (first | (with_reducible exact Below.refl _ _) | (with_reducible assumption) | (with_reducible refine below_alloc ?_ _) | (with_reducible refine Below.drew ?_) | (with_reducible refine Below.setCell ?_ ?_ _) | (with_reducible refine below_after ?_ (by assumption)) | go_size))⟩ ?_
  rintro G ⟨hGc0, hGc1, hGc2, hGc3, hGf0, hGf1, hGf2, hGf3, hGz0, hGz1, hGz2, hGz3, hGb⟩
  go_wp2_with fail
  ((with_reducible refine (D5.out _).mono ?_); rintro e w9 ⟨rfl, hb9⟩)
  have hk9 : Kp G.heap.size [] G w9 := (by (repeat (first | (with_reducible assumption) | (with_reducible exact Kp.refl (Nat.le_refl _)) | (with_reducible refine Kp.drew ?_) | (with_reducible refine Kp.alloc ?_ _) | ((with_reducible refine Kp.put ?_ ?_ _); focus (first | (left; go_size; done) | (right; simp; done))) | ((with_reducible apply Kp.later); (with_reducible assumption)))))
  have h9c0 := fun o => (hk9.cell _ o hGz0 (by simp)).trans (hGc0 o)
  have h9f0 := fun o => (hk9.froz _ o hGz0).trans (hGf0 o)
  have h9z0 := Nat.lt_of_lt_of_le hGz0 hk9.size
  have h9c1 := fun o => (hk9.cell _ o hGz1 (by simp)).trans (hGc1 o)
  have h9f1 := fun o => (hk9.froz _ o hGz1).trans (hGf1 o)
  have h9z1 := Nat.lt_of_lt_of_le hGz1 hk9.size
  have h9c2 := fun o => (hk9.cell _ o hGz2 (by simp)).trans (hGc2 o)
  have h9f2 := fun o => (hk9.froz _ o hGz2).trans (hGf2 o)
  have h9z2 := Nat.lt_of_lt_of_le hGz2 hk9.size
  have h9c3 := fun o => (hk9.cell _ o hGz3 (by simp)).trans (hGc3 o)
  have h9f3 := fun o => (hk9.froz _ o hGz3).trans (hGf3 o)
  have h9z3 := Nat.lt_of_lt_of_le hGz3 hk9.size
  go_upto_region 13 with (fail)
  refine wp_world (fun x => (∀ o, x.cell? ⟨w7.heap.size + 1, o, none⟩ = (#[.bool (zs (nx)), .int .u64 (wd (Int.natAbs (nx)) 0), .int .u64 (wd (Int.natAbs (nx)) 1), .int .u64 (wd (Int.natAbs (nx)) 2), .int .u64 (wd (Int.natAbs (nx)) 3)] : Array Value)[o]?) ∧ (∀ o, x.cell? ⟨w8.heap.size + 1, o, none⟩ = (#[.bool (zs (ny)), .int .u64 (wd (Int.natAbs (ny)) 0), .int .u64 (wd (Int.natAbs (ny)) 1), .int .u64 (wd (Int.natAbs (ny)) 2), .int .u64 (wd (Int.natAbs (ny)) 3)] : Array Value)[o]?) ∧ (∀ o, x.cell? ⟨w9.heap.size + 1, o, none⟩ = (#[.bool (zs (nz)), .int .u64 (wd (Int.natAbs (nz)) 0), .int .u64 (wd (Int.natAbs (nz)) 1), .int .u64 (wd (Int.natAbs (nz)) 2), .int .u64 (wd (Int.natAbs (nz)) 3)] : Array Value)[o]?) ∧ (∀ o, x.frozen? ⟨w7.heap.size + 1, o, none⟩ = false) ∧ (∀ o, x.frozen? ⟨w8.heap.size + 1, o, none⟩ = false) ∧ (∀ o, x.frozen? ⟨w9.heap.size + 1, o, none⟩ = false) ∧ w7.heap.size + 1 < x.heap.size ∧ w8.heap.size + 1 < x.heap.size ∧ w9.heap.size + 1 < x.heap.size ∧ Below w.heap.size w x) ⟨fun o => by simp [go_sem, h9c0, h9f0, h9z0, h9c1, h9f1, h9z1, h9c2, h9f2, h9z2, h9c3, h9f3, h9z3, Nat.lt_of_succ_lt h9z2, Nat.lt_of_succ_lt h9z3], fun o => by simp [go_sem, h9c0, h9f0, h9z0, h9c1, h9f1, h9z1, h9c2, h9f2, h9z2, h9c3, h9f3, h9z3, Nat.lt_of_succ_lt h9z2, Nat.lt_of_succ_lt h9z3], fun o => by simp [go_sem, h9c0, h9f0, h9z0, h9c1, h9f1, h9z1, h9c2, h9f2, h9z2, h9c3, h9f3, h9z3, Nat.lt_of_succ_lt h9z2, Nat.lt_of_succ_lt h9z3], fun o => by simp [go_sem, h9c0, h9f0, h9z0, h9c1, h9f1, h9z1, h9c2, h9f2, h9z2, h9c3, h9f3, h9z3, Nat.lt_of_succ_lt h9z2, Nat.lt_of_succ_lt h9z3], fun o => by simp [go_sem, h9c0, h9f0, h9z0, h9c1, h9f1, h9z1, h9c2, h9f2, h9z2, h9c3, h9f3, h9z3, Nat.lt_of_succ_lt h9z2, Nat.lt_of_succ_lt h9z3], fun o => by simp [go_sem, h9c0, h9f0, h9z0, h9c1, h9f1, h9z1, h9c2, h9f2, h9z2, h9c3, h9f3, h9z3, Nat.lt_of_succ_lt h9z2, Nat.lt_of_succ_lt h9z3], by (first | omega | (simp [go_sem, h9c0, h9f0, h9z0, h9c1, h9f1, h9z1, h9c2, h9f2, h9z2, h9c3, h9f3, h9z3, Nat.lt_of_succ_lt h9z2, Nat.lt_of_succ_lt h9z3]; done) | (simp [go_sem, h9c0, h9f0, h9z0, h9c1, h9f1, h9z1, h9c2, h9f2, h9z2, h9c3, h9f3, h9z3, Nat.lt_of_succ_lt h9z2, Nat.lt_of_succ_lt h9z3]; omega)), by (first | omega | (simp [go_sem, h9c0, h9f0, h9z0, h9c1, h9f1, h9z1, h9c2, h9f2, h9z2, h9c3, h9f3, h9z3, Nat.lt_of_succ_lt h9z2, Nat.lt_of_succ_lt h9z3]; done) | (simp [go_sem, h9c0, h9f0, h9z0, h9c1, h9f1, h9z1, h9c2, h9f2, h9z2, h9c3, h9f3, h9z3, Nat.lt_of_succ_lt h9z2, Nat.lt_of_succ_lt h9z3]; omega)), by (first | omega | (simp [go_sem, h9c0, h9f0, h9z0, h9c1, h9f1, h9z1, h9c2, h9f2, h9z2, h9c3, h9f3, h9z3, Nat.lt_of_succ_lt h9z2, Nat.lt_of_succ_lt h9z3]; done) | (simp [go_sem, h9c0, h9f0, h9z0, h9c1, h9f1, h9z1, h9c2, h9f2, h9z2, h9c3, h9f3, h9z3, Nat.lt_of_succ_lt h9z2, Nat.lt_of_succ_lt h9z3]; omega)), by (repeat' (first | (with_reducible exact Below.refl _ _) | (with_reducible assumption) | (with_reducible refine below_alloc ?_ _) | (with_reducible refine Below.drew ?_) | (with_reducible refine Below.setCell ?_ ?_ _) | (with_reducible refine below_after ?_ (by assumption)) | go_size))⟩ ?_
  rintro I ⟨hIc0, hIc1, hIc2, hIf0, hIf1, hIf2, hIz0, hIz1, hIz2, hIb⟩
  rcases HD.out with e1 | ⟨e1, e2⟩ | ⟨e1, e2, e3⟩
  · rw [e1] at qx0
    go_wp2_with fail
    ((with_reducible refine (K.out _ (HT.out.later (by (repeat' (first | (with_reducible exact Below.refl _ _) | (with_reducible assumption) | (with_reducible refine below_alloc ?_ _) | (with_reducible refine Below.drew ?_) | (with_reducible refine Below.setCell ?_ ?_ _) | (with_reducible refine below_after ?_ (by assumption)) | go_size))))).mono ?_); rintro e w10 ⟨rfl, hb10⟩)
    have hk10 : Kp I.heap.size [] I w10 := (by (repeat (first | (with_reducible assumption) | (with_reducible exact Kp.refl (Nat.le_refl _)) | (with_reducible refine Kp.drew ?_) | (with_reducible refine Kp.alloc ?_ _) | ((with_reducible refine Kp.put ?_ ?_ _); focus (first | (left; go_size; done) | (right; simp; done))) | ((with_reducible apply Kp.later); (with_reducible assumption)))))
    go_wp2
    go_ret
    exact ⟨rfl, by (repeat' (first | (with_reducible exact Below.refl _ _) | (with_reducible assumption) | (with_reducible refine below_alloc ?_ _) | (with_reducible refine Below.drew ?_) | (with_reducible refine Below.setCell ?_ ?_ _) | (with_reducible refine below_after ?_ (by assumption)) | go_size))⟩
  · rw [e1] at qx0
    rw [e2] at qy0
    go_wp2_with fail
    ((with_reducible refine (K.out _ (HT.out.later (by (repeat' (first | (with_reducible exact Below.refl _ _) | (with_reducible assumption) | (with_reducible refine below_alloc ?_ _) | (with_reducible refine Below.drew ?_) | (with_reducible refine Below.setCell ?_ ?_ _) | (with_reducible refine below_after ?_ (by assumption)) | go_size))))).mono ?_); rintro e w10 ⟨rfl, hb10⟩)
    have hk10 : Kp I.heap.size [] I w10 := (by (repeat (first | (with_reducible assumption) | (with_reducible exact Kp.refl (Nat.le_refl _)) | (with_reducible refine Kp.drew ?_) | (with_reducible refine Kp.alloc ?_ _) | ((with_reducible refine Kp.put ?_ ?_ _); focus (first | (left; go_size; done) | (right; simp; done))) | ((with_reducible apply Kp.later); (with_reducible assumption)))))
    go_wp2
    go_ret
    exact ⟨rfl, by (repeat' (first | (with_reducible exact Below.refl _ _) | (with_reducible assumption) | (with_reducible refine below_alloc ?_ _) | (with_reducible refine Below.drew ?_) | (with_reducible refine Below.setCell ?_ ?_ _) | (with_reducible refine below_after ?_ (by assumption)) | go_size))⟩
  · rw [e1] at qx0
    rw [e2] at qy0
    rw [e3] at qz0
    go_wp2_with fail
    ((with_reducible refine (K.out _ (HT.out.later (by (repeat' (first | (with_reducible exact Below.refl _ _) | (with_reducible assumption) | (with_reducible refine below_alloc ?_ _) | (with_reducible refine Below.drew ?_) | (with_reducible refine Below.setCell ?_ ?_ _) | (with_reducible refine below_after ?_ (by assumption)) | go_size))))).mono ?_); rintro e w10 ⟨rfl, hb10⟩)
    have hk10 : Kp I.heap.size [] I w10 := (by (repeat (first | (with_reducible assumption) | (with_reducible exact Kp.refl (Nat.le_refl _)) | (with_reducible refine Kp.drew ?_) | (with_reducible refine Kp.alloc ?_ _) | ((with_reducible refine Kp.put ?_ ?_ _); focus (first | (left; go_size; done) | (right; simp; done))) | ((with_reducible apply Kp.later); (with_reducible assumption)))))
    go_wp2
    go_ret
    exact ⟨rfl, by (repeat' (first | (with_reducible exact Below.refl _ _) | (with_reducible assumption) | (with_reducible refine below_alloc ?_ _) | (with_reducible refine Below.drew ?_) | (with_reducible refine Below.setCell ?_ ?_ _) | (with_reducible refine below_after ?_ (by assumption)) | go_size))⟩
set_option maxHeartbeats 2000000 in
theorem divisors_b (s t r : Bool) (a b c g : Nat) (hg : g = Nat.gcd a b) (ha : a < 2 ^ 256) (hb : b < 2 ^ 256) (hc : c < 2 ^ 256) (h0 : a = 0) (h : b ≠ 0) (w : World) (hT : Tabs w) :
    Calls Tryd.prog 6 #[(.agg #[.bool (s), .int .u64 (wd (a) 0), .int .u64 (wd (a) 1), .int .u64 (wd (a) 2), .int .u64 (wd (a) 3)]), (.agg #[.bool (t), .int .u64 (wd (b) 0), .int .u64 (wd (b) 1), .int .u64 (wd (b) 2), .int .u64 (wd (b) 3)]), (.agg #[.bool (r), .int .u64 (wd (c) 0), .int .u64 (wd (c) 1), .int .u64 (wd (c) 2), .int .u64 (wd (c) 3)])] w fun e w' => e = .returned (.bool true) ∧ Below w.heap.size w w' := by
  have hab : a ≠ 0 ∨ b ≠ 0 := Or.inr h
  have P1 := Lib.hid (show ∀ w, Calls Tryd.prog 24 #[(.agg #[.bool (s), .int .u64 (wd (a) 0), .int .u64 (wd (a) 1), .int .u64 (wd (a) 2), .int .u64 (wd (a) 3)])] w fun e w' => e = .returned (.agg #[.bool false, .int .u64 0, .int .u64 0, .int .u64 0, .int .u64 0]) ∧ Below w.heap.size w w' from fun w => by rw [h0]; exact plain_zero s w)
  have P2 := Lib.hid (plain_pos t b hb h)
  have qb := eq_wide0_pos t b hb h
  have hg0 : g ≠ 0 := by rw [hg]; exact fun h => (by have := Nat.gcd_eq_zero_iff.1 h; omega)
  have hgl : g < 2 ^ 256 := by
    have h1 := Nat.gcd_dvd_left a b
    have h2 := Nat.gcd_dvd_right a b
    rw [← hg] at h1 h2
    rcases hab with h | h
    · exact Nat.lt_of_le_of_lt (Nat.le_of_dvd (Nat.pos_of_ne_zero h) h1) ha
    · exact Nat.lt_of_le_of_lt (Nat.le_of_dvd (Nat.pos_of_ne_zero h) h2) hb
  obtain ⟨q1, D1⟩ := div_clean s false a g ha hgl hg0 (by rw [hg]; exact Nat.mod_eq_zero_of_dvd (Nat.gcd_dvd_left a b))
  obtain ⟨q2, D2⟩ := div_clean t false b g hb hgl hg0 (by rw [hg]; exact Nat.mod_eq_zero_of_dvd (Nat.gcd_dvd_right a b))
  have H1 := Lib.hid (fun w hT => gcd_both s t a b g ha hb hg.symm w hT)
  have D1 := Lib.hid D1
  have D2 := Lib.hid D2
  have K := Lib.hid awake_any
  have q0 := eq_00
  have HT := Lib.hid hT
  have HG := Lib.hid hg
  have HGL := Lib.hid hgl
  have HA := Lib.hid ha
  have HB := Lib.hid hb
  have HC := Lib.hid hc
  clear hT hg0 hgl hg ha hb hc
  clear hab h h0
  go_enter Tryd.func6, Tryd.ntmps6
  go_wp2_with fail
  ((with_reducible refine (H1.out _ (HT.out.later (by (repeat' (first | (with_reducible exact Below.refl _ _) | (with_reducible assumption) | (with_reducible refine below_alloc ?_ _) | (with_reducible refine Below.drew ?_) | (with_reducible refine Below.setCell ?_ ?_ _) | (with_reducible refine below_after ?_ (by assumption)) | go_size))))).mono ?_); rintro e w1 ⟨rfl, hb1⟩)
  obtain ⟨hc1, hf1⟩ := bcell hb1
  have hz1_w_0 : w.heap.size < w1.heap.size := by have h := hb1.size; (try simp at h); omega
  have hz1_w_1 : w.heap.size + 1 < w1.heap.size := by have h := hb1.size; (try simp at h); omega
  have hz1_w_2 : w.heap.size + 1 + 1 < w1.heap.size := by have h := hb1.size; (try simp at h); omega
  go_upto_region 2 with (fail)
  refine wp_world (fun x => (∀ o, x.cell? ⟨w.heap.size, o, none⟩ = (#[.bool (s), .int .u64 (wd (a) 0), .int .u64 (wd (a) 1), .int .u64 (wd (a) 2), .int .u64 (wd (a) 3)] : Array Value)[o]?) ∧ (∀ o, x.cell? ⟨w.heap.size + 1, o, none⟩ = (#[.bool (t), .int .u64 (wd (b) 0), .int .u64 (wd (b) 1), .int .u64 (wd (b) 2), .int .u64 (wd (b) 3)] : Array Value)[o]?) ∧ (∀ o, x.cell? ⟨w.heap.size + 1 + 1, o, none⟩ = (#[.bool (r), .int .u64 (wd (c) 0), .int .u64 (wd (c) 1), .int .u64 (wd (c) 2), .int .u64 (wd (c) 3)] : Array Value)[o]?) ∧ (∀ o, x.cell? ⟨w1.heap.size, o, none⟩ = (#[.bool (false), .int .u64 (wd (g) 0), .int .u64 (wd (g) 1), .int .u64 (wd (g) 2), .int .u64 (wd (g) 3)] : Array Value)[o]?) ∧ (∀ o, x.frozen? ⟨w.heap.size, o, none⟩ = false) ∧ (∀ o, x.frozen? ⟨w.heap.size + 1, o, none⟩ = false) ∧ (∀ o, x.frozen? ⟨w.heap.size + 1 + 1, o, none⟩ = false) ∧ (∀ o, x.frozen? ⟨w1.heap.size, o, none⟩ = false) ∧ w.heap.size < x.heap.size ∧ w.heap.size + 1 < x.heap.size ∧ w.heap.size + 1 + 1 < x.heap.size ∧ w1.heap.size < x.heap.size ∧ Below w.heap.size w x) ⟨fun o => by simp [go_sem, hc1, hf1, hz1_w_0, hz1_w_1, hz1_w_2], fun o => by simp [go_sem, hc1, hf1, hz1_w_0, hz1_w_1, hz1_w_2], fun o => by simp [go_sem, hc1, hf1, hz1_w_0, hz1_w_1, hz1_w_2], fun o => by simp [go_sem, hc1, hf1, hz1_w_0, hz1_w_1, hz1_w_2], fun o => by simp [go_sem, hc1, hf1, hz1_w_0, hz1_w_1, hz1_w_2], fun o => by simp [go_sem, hc1, hf1, hz1_w_0, hz1_w_1, hz1_w_2], fun o => by simp [go_sem, hc1, hf1, hz1_w_0, hz1_w_1, hz1_w_2], fun o => by simp [go_sem, hc1, hf1, hz1_w_0, hz1_w_1, hz1_w_2], by (first | omega | (simp [go_sem, hc1, hf1, hz1_w_0, hz1_w_1, hz1_w_2]; done) | (simp [go_sem, hc1, hf1, hz1_w_0, hz1_w_1, hz1_w_2]; omega)), by (first | omega | (simp [go_sem, hc1, hf1, hz1_w_0, hz1_w_1, hz1_w_2]; done) | (simp [go_sem, hc1, hf1, hz1_w_0, hz1_w_1, hz1_w_2]; omega)), by (first | omega | (simp [go_sem, hc1, hf1, hz1_w_0, hz1_w_1, hz1_w_2]; done) | (simp [go_sem, hc1, hf1, hz1_w_0, hz1_w_1, hz1_w_2]; omega)), by (first | omega | (simp [go_sem, hc1, hf1, hz1_w_0, hz1_w_1, hz1_w_2]; done) | (simp [go_sem, hc1, hf1, hz1_w_0, hz1_w_1, hz1_w_2]; omega)), by (repeat' (first | (with_reducible exact Below.refl _ _) | (with_reducible assumption) | (with_reducible refine below_alloc ?_ _) | (with_reducible refine Below.drew ?_) | (with_reducible refine Below.setCell ?_ ?_ _) | (with_reducible refine below_after ?_ (by assumption)) | go_size))⟩ ?_
  rintro A ⟨hAc0, hAc1, hAc2, hAc3, hAf0, hAf1, hAf2, hAf3, hAz0, hAz1, hAz2, hAz3, hAb⟩
  clear hc1 hf1
  go_wp2_with fail
  ((with_reducible refine (P1.out _).mono ?_); rintro e w2 ⟨rfl, hb2⟩)
  have hk2 : Kp A.heap.size [] A w2 := (by (repeat (first | (with_reducible assumption) | (with_reducible exact Kp.refl (Nat.le_refl _)) | (with_reducible refine Kp.drew ?_) | (with_reducible refine Kp.alloc ?_ _) | ((with_reducible refine Kp.put ?_ ?_ _); focus (first | (left; go_size; done) | (right; simp; done))) | ((with_reducible apply Kp.later); (with_reducible assumption)))))
  have h2c0 := fun o => (hk2.cell _ o hAz0 (by simp)).trans (hAc0 o)
  have h2f0 := fun o => (hk2.froz _ o hAz0).trans (hAf0 o)
  have h2z0 := Nat.lt_of_lt_of_le hAz0 hk2.size
  have h2c1 := fun o => (hk2.cell _ o hAz1 (by simp)).trans (hAc1 o)
  have h2f1 := fun o => (hk2.froz _ o hAz1).trans (hAf1 o)
  have h2z1 := Nat.lt_of_lt_of_le hAz1 hk2.size
  have h2c2 := fun o => (hk2.cell _ o hAz2 (by simp)).trans (hAc2 o)
  have h2f2 := fun o => (hk2.froz _ o hAz2).trans (hAf2 o)
  have h2z2 := Nat.lt_of_lt_of_le hAz2 hk2.size
  have h2c3 := fun o => (hk2.cell _ o hAz3 (by simp)).trans (hAc3 o)
  have h2f3 := fun o => (hk2.froz _ o hAz3).trans (hAf3 o)
  have h2z3 := Nat.lt_of_lt_of_le hAz3 hk2.size
  go_wp2_with fail
  ((with_reducible refine (P2.out _).mono ?_); rintro e w3 ⟨rfl, hb3⟩)
  have hk3 : Kp A.heap.size [] A w3 := (by (repeat (first | (with_reducible assumption) | (with_reducible exact Kp.refl (Nat.le_refl _)) | (with_reducible refine Kp.drew ?_) | (with_reducible refine Kp.alloc ?_ _) | ((with_reducible refine Kp.put ?_ ?_ _); focus (first | (left; go_size; done) | (right; simp; done))) | ((with_reducible apply Kp.later); (with_reducible assumption)))))
  have h3c0 := fun o => (hk3.cell _ o hAz0 (by simp)).trans (hAc0 o)
  have h3f0 := fun o => (hk3.froz _ o hAz0).trans (hAf0 o)
  have h3z0 := Nat.lt_of_lt_of_le hAz0 hk3.size
  have h3c1 := fun o => (hk3.cell _ o hAz1 (by simp)).trans (hAc1 o)
  have h3f1 := fun o => (hk3.froz _ o hAz1).trans (hAf1 o)
  have h3z1 := Nat.lt_of_lt_of_le hAz1 hk3.size
  have h3c2 := fun o => (hk3.cell _ o hAz2 (by simp)).trans (hAc2 o)
  have h3f2 := fun o => (hk3.froz _ o hAz2).trans (hAf2 o)
  have h3z2 := Nat.lt_of_lt_of_le hAz2 hk3.size
  have h3c3 := fun o => (hk3.cell _ o hAz3 (by simp)).trans (hAc3 o)
  have h3f3 := fun o => (hk3.froz _ o hAz3).trans (hAf3 o)
  have h3z3 := Nat.lt_of_lt_of_le hAz3 hk3.size
  go_upto_region 4 with (fail)
  refine wp_world (fun x => (∀ o, x.cell? ⟨w.heap.size, o, none⟩ = (#[.bool (s), .int .u64 (wd (a) 0), .int .u64 (wd (a) 1), .int .u64 (wd (a) 2), .int .u64 (wd (a) 3)] : Array Value)[o]?) ∧ (∀ o, x.cell? ⟨w.heap.size + 1, o, none⟩ = (#[.bool (t), .int .u64 (wd (b) 0), .int .u64 (wd (b) 1), .int .u64 (wd (b) 2), .int .u64 (wd (b) 3)] : Array Value)[o]?) ∧ (∀ o, x.cell? ⟨w.heap.size + 1 + 1, o, none⟩ = (#[.bool (r), .int .u64 (wd (c) 0), .int .u64 (wd (c) 1), .int .u64 (wd (c) 2), .int .u64 (wd (c) 3)] : Array Value)[o]?) ∧ (∀ o, x.cell? ⟨w1.heap.size, o, none⟩ = (#[.bool (false), .int .u64 (wd (g) 0), .int .u64 (wd (g) 1), .int .u64 (wd (g) 2), .int .u64 (wd (g) 3)] : Array Value)[o]?) ∧ (∀ o, x.frozen? ⟨w.heap.size, o, none⟩ = false) ∧ (∀ o, x.frozen? ⟨w.heap.size + 1, o, none⟩ = false) ∧ (∀ o, x.frozen? ⟨w.heap.size + 1 + 1, o, none⟩ = false) ∧ (∀ o, x.frozen? ⟨w1.heap.size, o, none⟩ = false) ∧ w.heap.size < x.heap.size ∧ w.heap.size + 1 < x.heap.size ∧ w.heap.size + 1 + 1 < x.heap.size ∧ w1.heap.size < x.heap.size ∧ Below w.heap.size w x) ⟨fun o => by simp [go_sem, h3c0, h3f0, h3z0, h3c1, h3f1, h3z1, h3c2, h3f2, h3z2, h3c3, h3f3, h3z3], fun o => by simp [go_sem, h3c0, h3f0, h3z0, h3c1, h3f1, h3z1, h3c2, h3f2, h3z2, h3c3, h3f3, h3z3], fun o => by simp [go_sem, h3c0, h3f0, h3z0, h3c1, h3f1, h3z1, h3c2, h3f2, h3z2, h3c3, h3f3, h3z3], fun o => by simp [go_sem, h3c0, h3f0, h3z0, h3c1, h3f1, h3z1, h3c2, h3f2, h3z2, h3c3, h3f3, h3z3], fun o => by simp [go_sem, h3c0, h3f0, h3z0, h3c1, h3f1, h3z1, h3c2, h3f2, h3z2, h3c3, h3f3, h3z3], fun o => by simp [go_sem, h3c0, h3f0, h3z0, h3c1, h3f1, h3z1, h3c2, h3f2, h3z2, h3c3, h3f3, h3z3], fun o => by simp [go_sem, h3c0, h3f0, h3z0, h3c1, h3f1, h3z1, h3c2, h3f2, h3z2, h3c3, h3f3, h3z3], fun o => by simp [go_sem, h3c0, h3f0, h3z0, h3c1, h3f1, h3z1, h3c2, h3f2, h3z2, h3c3, h3f3, h3z3], by (first | omega | (simp [go_sem, h3c0, h3f0, h3z0, h3c1, h3f1, h3z1, h3c2, h3f2, h3z2, h3c3, h3f3, h3z3]; done) | (simp [go_sem, h3c0, h3f0, h3z0, h3c1, h3f1, h3z1, h3c2, h3f2, h3z2, h3c3, h3f3, h3z3]; omega)), by (first | omega | (simp [go_sem, h3c0, h3f0, h3z0, h3c1, h3f1, h3z1, h3c2, h3f2, h3z2, h3c3, h3f3, h3z3]; done) | (simp [go_sem, h3c0, h3f0, h3z0, h3c1, h3f1, h3z1, h3c2, h3f2, h3z2, h3c3, h3f3, h3z3]; omega)), by (first | omega | (simp [go_sem, h3c0, h3f0, h3z0, h3c1, h3f1, h3z1, h3c2, h3f2, h3z2, h3c3, h3f3, h3z3]; done) | (simp [go_sem, h3c0, h3f0, h3z0, h3c1, h3f1, h3z1, h3c2, h3f2, h3z2, h3c3, h3f3, h3z3]; omega)), by (first | omega | (simp [go_sem, h3c0, h3f0, h3z0, h3c1, h3f1, h3z1, h3c2, h3f2, h3z2, h3c3, h3f3, h3z3]; done) | (simp [go_sem, h3c0, h3f0, h3z0, h3c1, h3f1, h3z1, h3c2, h3f2, h3z2, h3c3, h3f3, h3z3]; omega)), by (repeat' (first | (with_reducible exact Below.refl _ _) | (with_reducible assumption) | (with_reducible refine below_alloc ?_ _) | (with_reducible refine Below.drew ?_) | (with_reducible refine Below.setCell ?_ ?_ _) | (with_reducible refine below_after ?_ (by assumption)) | go_size))⟩ ?_
  rintro B ⟨hBc0, hBc1, hBc2, hBc3, hBf0, hBf1, hBf2, hBf3, hBz0, hBz1, hBz2, hBz3, hBb⟩
  go_wp2_with fail
  ((with_reducible refine (D1.out _).mono ?_); rintro e w4 ⟨rfl, hb4⟩)
  have hk4 : Kp B.heap.size [] B w4 := (by (repeat (first | (with_reducible assumption) | (with_reducible exact Kp.refl (Nat.le_refl _)) | (with_reducible refine Kp.drew ?_) | (with_reducible refine Kp.alloc ?_ _) | ((with_reducible refine Kp.put ?_ ?_ _); focus (first | (left; go_size; done) | (right; simp; done))) | ((with_reducible apply Kp.later); (with_reducible assumption)))))
  have h4c0 := fun o => (hk4.cell _ o hBz0 (by simp)).trans (hBc0 o)
  have h4f0 := fun o => (hk4.froz _ o hBz0).trans (hBf0 o)
  have h4z0 := Nat.lt_of_lt_of_le hBz0 hk4.size
  have h4c1 := fun o => (hk4.cell _ o hBz1 (by simp)).trans (hBc1 o)
  have h4f1 := fun o => (hk4.froz _ o hBz1).trans (hBf1 o)
  have h4z1 := Nat.lt_of_lt_of_le hBz1 hk4.size
  have h4c2 := fun o => (hk4.cell _ o hBz2 (by simp)).trans (hBc2 o)
  have h4f2 := fun o => (hk4.froz _ o hBz2).trans (hBf2 o)
  have h4z2 := Nat.lt_of_lt_of_le hBz2 hk4.size
  have h4c3 := fun o => (hk4.cell _ o hBz3 (by simp)).trans (hBc3 o)
  have h4f3 := fun o => (hk4.froz _ o hBz3).trans (hBf3 o)
  have h4z3 := Nat.lt_of_lt_of_le hBz3 hk4.size
  go_upto_region 5 with (fail)
  refine wp_world (fun x => (∀ o, x.cell? ⟨w.heap.size, o, none⟩ = (#[.bool (s), .int .u64 (wd (a) 0), .int .u64 (wd (a) 1), .int .u64 (wd (a) 2), .int .u64 (wd (a) 3)] : Array Value)[o]?) ∧ (∀ o, x.cell? ⟨w.heap.size + 1, o, none⟩ = (#[.bool (t), .int .u64 (wd (b) 0), .int .u64 (wd (b) 1), .int .u64 (wd (b) 2), .int .u64 (wd (b) 3)] : Array Value)[o]?) ∧ (∀ o, x.cell? ⟨w.heap.size + 1 + 1, o, none⟩ = (#[.bool (r), .int .u64 (wd (c) 0), .int .u64 (wd (c) 1), .int .u64 (wd (c) 2), .int .u64 (wd (c) 3)] : Array Value)[o]?) ∧ (∀ o, x.cell? ⟨w1.heap.size, o, none⟩ = (#[.bool (false), .int .u64 (wd (g) 0), .int .u64 (wd (g) 1), .int .u64 (wd (g) 2), .int .u64 (wd (g) 3)] : Array Value)[o]?) ∧ (∀ o, x.cell? ⟨w4.heap.size + 1, o, none⟩ = (#[.bool false, .int .u64 0, .int .u64 0, .int .u64 0, .int .u64 0] : Array Value)[o]?) ∧ (∀ o, x.frozen? ⟨w.heap.size, o, none⟩ = false) ∧ (∀ o, x.frozen? ⟨w.heap.size + 1, o, none⟩ = false) ∧ (∀ o, x.frozen? ⟨w.heap.size + 1 + 1, o, none⟩ = false) ∧ (∀ o, x.frozen? ⟨w1.heap.size, o, none⟩ = false) ∧ (∀ o, x.frozen? ⟨w4.heap.size + 1, o, none⟩ = false) ∧ w.heap.size < x.heap.size ∧ w.heap.size + 1 < x.heap.size ∧ w.heap.size + 1 + 1 < x.heap.size ∧ w1.heap.size < x.heap.size ∧ w4.heap.size + 1 < x.heap.size ∧ Below w.heap.size w x) ⟨fun o => by simp [go_sem, h4c0, h4f0, h4z0, h4c1, h4f1, h4z1, h4c2, h4f2, h4z2, h4c3, h4f3, h4z3], fun o => by simp [go_sem, h4c0, h4f0, h4z0, h4c1, h4f1, h4z1, h4c2, h4f2, h4z2, h4c3, h4f3, h4z3], fun o => by simp [go_sem, h4c0, h4f0, h4z0, h4c1, h4f1, h4z1, h4c2, h4f2, h4z2, h4c3, h4f3, h4z3], fun o => by simp [go_sem, h4c0, h4f0, h4z0, h4c1, h4f1, h4z1, h4c2, h4f2, h4z2, h4c3, h4f3, h4z3], fun o => by simp [go_sem, h4c0, h4f0, h4z0, h4c1, h4f1, h4z1, h4c2, h4f2, h4z2, h4c3, h4f3, h4z3], fun o => by simp [go_sem, h4c0, h4f0, h4z0, h4c1, h4f1, h4z1, h4c2, h4f2, h4z2, h4c3, h4f3, h4z3], fun o => by simp [go_sem, h4c0, h4f0, h4z0, h4c1, h4f1, h4z1, h4c2, h4f2, h4z2, h4c3, h4f3, h4z3], fun o => by simp [go_sem, h4c0, h4f0, h4z0, h4c1, h4f1, h4z1, h4c2, h4f2, h4z2, h4c3, h4f3, h4z3], fun o => by simp [go_sem, h4c0, h4f0, h4z0, h4c1, h4f1, h4z1, h4c2, h4f2, h4z2, h4c3, h4f3, h4z3], fun o => by simp [go_sem, h4c0, h4f0, h4z0, h4c1, h4f1, h4z1, h4c2, h4f2, h4z2, h4c3, h4f3, h4z3], by (first | omega | (simp [go_sem, h4c0, h4f0, h4z0, h4c1, h4f1, h4z1, h4c2, h4f2, h4z2, h4c3, h4f3, h4z3]; done) | (simp [go_sem, h4c0, h4f0, h4z0, h4c1, h4f1, h4z1, h4c2, h4f2, h4z2, h4c3, h4f3, h4z3]; omega)), by (first | omega | (simp [go_sem, h4c0, h4f0, h4z0, h4c1, h4f1, h4z1, h4c2, h4f2, h4z2, h4c3, h4f3, h4z3]; done) | (simp [go_sem, h4c0, h4f0, h4z0, h4c1, h4f1, h4z1, h4c2, h4f2, h4z2, h4c3, h4f3, h4z3]; omega)), by (first | omega | (simp [go_sem, h4c0, h4f0, h4z0, h4c1, h4f1, h4z1, h4c2, h4f2, h4z2, h4c3, h4f3, h4z3]; done) | (simp [go_sem, h4c0, h4f0, h4z0, h4c1, h4f1, h4z1, h4c2, h4f2, h4z2, h4c3, h4f3, h4z3]; omega)), by (first | omega | (simp [go_sem, h4c0, h4f0, h4z0, h4c1, h4f1, h4z1, h4c2, h4f2, h4z2, h4c3, h4f3, h4z3]; done) | (simp [go_sem, h4c0, h4f0, h4z0, h4c1, h4f1, h4z1, h4c2, h4f2, h4z2, h4c3, h4f3, h4z3]; omega)), by (first | omega | (simp [go_sem, h4c0, h4f0, h4z0, h4c1, h4f1, h4z1, h4c2, h4f2, h4z2, h4c3, h4f3, h4z3]; done) | (simp [go_sem, h4c0, h4f0, h4z0, h4c1, h4f1, h4z1, h4c2, h4f2, h4z2, h4c3, h4f3, h4z3]; omega)), by (repeat' (first | (with_reducible exact Below.refl _ _) | (with_reducible assumption) | (with_reducible refine below_alloc ?_ _) | (with_reducible refine Below.drew ?_) | (with_reducible refine Below.setCell ?_ ?_ _) | (with_reducible refine below_after ?_ (by assumption)) | go_size))⟩ ?_
  rintro C ⟨hCc0, hCc1, hCc2, hCc3, hCc4, hCf0, hCf1, hCf2, hCf3, hCf4, hCz0, hCz1, hCz2, hCz3, hCz4, hCb⟩
  go_wp2_with fail
  ((with_reducible refine (D2.out _).mono ?_); rintro e w5 ⟨rfl, hb5⟩)
  have hk5 : Kp C.heap.size [] C w5 := (by (repeat (first | (with_reducible assumption) | (with_reducible exact Kp.refl (Nat.le_refl _)) | (with_reducible refine Kp.drew ?_) | (with_reducible refine Kp.alloc ?_ _) | ((with_reducible refine Kp.put ?_ ?_ _); focus (first | (left; go_size; done) | (right; simp; done))) | ((with_reducible apply Kp.later); (with_reducible assumption)))))
  have h5c0 := fun o => (hk5.cell _ o hCz0 (by simp)).trans (hCc0 o)
  have h5f0 := fun o => (hk5.froz _ o hCz0).trans (hCf0 o)
  have h5z0 := Nat.lt_of_lt_of_le hCz0 hk5.size
  have h5c1 := fun o => (hk5.cell _ o hCz1 (by simp)).trans (hCc1 o)
  have h5f1 := fun o => (hk5.froz _ o hCz1).trans (hCf1 o)
  have h5z1 := Nat.lt_of_lt_of_le hCz1 hk5.size
  have h5c2 := fun o => (hk5.cell _ o hCz2 (by simp)).trans (hCc2 o)
  have h5f2 := fun o => (hk5.froz _ o hCz2).trans (hCf2 o)
  have h5z2 := Nat.lt_of_lt_of_le hCz2 hk5.size
  have h5c3 := fun o => (hk5.cell _ o hCz3 (by simp)).trans (hCc3 o)
  have h5f3 := fun o => (hk5.froz _ o hCz3).trans (hCf3 o)
  have h5z3 := Nat.lt_of_lt_of_le hCz3 hk5.size
  have h5c4 := fun o => (hk5.cell _ o hCz4 (by simp)).trans (hCc4 o)
  have h5f4 := fun o => (hk5.froz _ o hCz4).trans (hCf4 o)
  have h5z4 := Nat.lt_of_lt_of_le hCz4 hk5.size
  go_upto_region 6 with (fail)
  refine wp_world (fun x => (∀ o, x.cell? ⟨w.heap.size, o, none⟩ = (#[.bool (s), .int .u64 (wd (a) 0), .int .u64 (wd (a) 1), .int .u64 (wd (a) 2), .int .u64 (wd (a) 3)] : Array Value)[o]?) ∧ (∀ o, x.cell? ⟨w.heap.size + 1, o, none⟩ = (#[.bool (t), .int .u64 (wd (b) 0), .int .u64 (wd (b) 1), .int .u64 (wd (b) 2), .int .u64 (wd (b) 3)] : Array Value)[o]?) ∧ (∀ o, x.cell? ⟨w.heap.size + 1 + 1, o, none⟩ = (#[.bool (r), .int .u64 (wd (c) 0), .int .u64 (wd (c) 1), .int .u64 (wd (c) 2), .int .u64 (wd (c) 3)] : Array Value)[o]?) ∧ (∀ o, x.cell? ⟨w1.heap.size, o, none⟩ = (#[.bool (false), .int .u64 (wd (g) 0), .int .u64 (wd (g) 1), .int .u64 (wd (g) 2), .int .u64 (wd (g) 3)] : Array Value)[o]?) ∧ (∀ o, x.cell? ⟨w4.heap.size + 1, o, none⟩ = (#[.bool false, .int .u64 0, .int .u64 0, .int .u64 0, .int .u64 0] : Array Value)[o]?) ∧ (∀ o, x.cell? ⟨w5.heap.size + 1, o, none⟩ = (#[.bool false, .int .u64 0, .int .u64 0, .int .u64 0, .int .u64 0] : Array Value)[o]?) ∧ (∀ o, x.frozen? ⟨w.heap.size, o, none⟩ = false) ∧ (∀ o, x.frozen? ⟨w.heap.size + 1, o, none⟩ = false) ∧ (∀ o, x.frozen? ⟨w.heap.size + 1 + 1, o, none⟩ = false) ∧ (∀ o, x.frozen? ⟨w1.heap.size, o, none⟩ = false) ∧ (∀ o, x.frozen? ⟨w4.heap.size + 1, o, none⟩ = false) ∧ (∀ o, x.frozen? ⟨w5.heap.size + 1, o, none⟩ = false) ∧ w.heap.size < x.heap.size ∧ w.heap.size + 1 < x.heap.size ∧ w.heap.size + 1 + 1 < x.heap.size ∧ w1.heap.size < x.heap.size ∧ w4.heap.size + 1 < x.heap.size ∧ w5.heap.size + 1 < x.heap.size ∧ Below w.heap.size w x) ⟨fun o => by simp [go_sem, h5c0, h5f0, h5z0, h5c1, h5f1, h5z1, h5c2, h5f2, h5z2, h5c3, h5f3, h5z3, h5c4, h5f4, h5z4, Nat.lt_of_succ_lt h5z4], fun o => by simp [go_sem, h5c0, h5f0, h5z0, h5c1, h5f1, h5z1, h5c2, h5f2, h5z2, h5c3, h5f3, h5z3, h5c4, h5f4, h5z4, Nat.lt_of_succ_lt h5z4], fun o => by simp [go_sem, h5c0, h5f0, h5z0, h5c1, h5f1, h5z1, h5c2, h5f2, h5z2, h5c3, h5f3, h5z3, h5c4, h5f4, h5z4, Nat.lt_of_succ_lt h5z4], fun o => by simp [go_sem, h5c0, h5f0, h5z0, h5c1, h5f1, h5z1, h5c2, h5f2, h5z2, h5c3, h5f3, h5z3, h5c4, h5f4, h5z4, Nat.lt_of_succ_lt h5z4], fun o => by simp [go_sem, h5c0, h5f0, h5z0, h5c1, h5f1, h5z1, h5c2, h5f2, h5z2, h5c3, h5f3, h5z3, h5c4, h5f4, h5z4, Nat.lt_of_succ_lt h5z4], fun o => by simp [go_sem, h5c0, h5f0, h5z0, h5c1, h5f1, h5z1, h5c2, h5f2, h5z2, h5c3, h5f3, h5z3, h5c4, h5f4, h5z4, Nat.lt_of_succ_lt h5z4], fun o => by simp [go_sem, h5c0, h5f0, h5z0, h5c1, h5f1, h5z1, h5c2, h5f2, h5z2, h5c3, h5f3, h5z3, h5c4, h5f4, h5z4, Nat.lt_of_succ_lt h5z4], fun o => by simp [go_sem, h5c0, h5f0, h5z0, h5c1, h5f1, h5z1, h5c2, h5f2, h5z2, h5c3, h5f3, h5z3, h5c4, h5f4, h5z4, Nat.lt_of_succ_lt h5z4], fun o => by simp [go_sem, h5c0, h5f0, h5z0, h5c1, h5f1, h5z1, h5c2, h5f2, h5z2, h5c3, h5f3, h5z3, h5c4, h5f4, h5z4, Nat.lt_of_succ_lt h5z4], fun o => by simp [go_sem, h5c0, h5f0, h5z0, h5c1, h5f1, h5z1, h5c2, h5f2, h5z2, h5c3, h5f3, h5z3, h5c4, h5f4, h5z4, Nat.lt_of_succ_lt h5z4], fun o => by simp [go_sem, h5c0, h5f0, h5z0, h5c1, h5f1, h5z1, h5c2, h5f2, h5z2, h5c3, h5f3, h5z3, h5c4, h5f4, h5z4, Nat.lt_of_succ_lt h5z4], fun o => by simp [go_sem, h5c0, h5f0, h5z0, h5c1, h5f1, h5z1, h5c2, h5f2, h5z2, h5c3, h5f3, h5z3, h5c4, h5f4, h5z4, Nat.lt_of_succ_lt h5z4], by (first | omega | (simp [go_sem, h5c0, h5f0, h5z0, h5c1, h5f1, h5z1, h5c2, h5f2, h5z2, h5c3, h5f3, h5z3, h5c4, h5f4, h5z4, Nat.lt_of_succ_lt h5z4]; done) | (simp [go_sem, h5c0, h5f0, h5z0, h5c1, h5f1, h5z1, h5c2, h5f2, h5z2, h5c3, h5f3, h5z3, h5c4, h5f4, h5z4, Nat.lt_of_succ_lt h5z4]; omega)), by (first | omega | (simp [go_sem, h5c0, h5f0, h5z0, h5c1, h5f1, h5z1, h5c2, h5f2, h5z2, h5c3, h5f3, h5z3, h5c4, h5f4, h5z4, Nat.lt_of_succ_lt h5z4]; done) | (simp [go_sem, h5c0, h5f0, h5z0, h5c1, h5f1, h5z1, h5c2, h5f2, h5z2, h5c3, h5f3, h5z3, h5c4, h5f4, h5z4, Nat.lt_of_succ_lt h5z4]; omega)), by (first | omega | (simp [go_sem, h5c0, h5f0, h5z0, h5c1, h5f1, h5z1, h5c2, h5f2, h5z2, h5c3, h5f3, h5z3, h5c4, h5f4, h5z4, Nat.lt_of_succ_lt h5z4]; done) | (simp [go_sem, h5c0, h5f0, h5z0, h5c1, h5f1, h5z1, h5c2, h5f2, h5z2, h5c3, h5f3, h5z3, h5c4, h5f4, h5z4, Nat.lt_of_succ_lt h5z4]; omega)), by (first | omega | (simp [go_sem, h5c0, h5f0, h5z0, h5c1, h5f1, h5z1, h5c2, h5f2, h5z2, h5c3, h5f3, h5z3, h5c4, h5f4, h5z4, Nat.lt_of_succ_lt h5z4]; done) | (simp [go_sem, h5c0, h5f0, h5z0, h5c1, h5f1, h5z1, h5c2, h5f2, h5z2, h5c3, h5f3, h5z3, h5c4, h5f4, h5z4, Nat.lt_of_succ_lt h5z4]; omega)), by (first | omega | (simp [go_sem, h5c0, h5f0, h5z0, h5c1, h5f1, h5z1, h5c2, h5f2, h5z2, h5c3, h5f3, h5z3, h5c4, h5f4, h5z4, Nat.lt_of_succ_lt h5z4]; done) | (simp [go_sem, h5c0, h5f0, h5z0, h5c1, h5f1, h5z1, h5c2, h5f2, h5z2, h5c3, h5f3, h5z3, h5c4, h5f4, h5z4, Nat.lt_of_succ_lt h5z4]; omega)), by (first | omega | (simp [go_sem, h5c0, h5f0, h5z0, h5c1, h5f1, h5z1, h5c2, h5f2, h5z2, h5c3, h5f3, h5z3, h5c4, h5f4, h5z4, Nat.lt_of_succ_lt h5z4]; done) | (simp [go_sem, h5c0, h5f0, h5z0, h5c1, h5f1, h5z1, h5c2, h5f2, h5z2, h5c3, h5f3, h5z3, h5c4, h5f4, h5z4, Nat.lt_of_succ_lt h5z4]; omega)), by (repeat' (first | (with_reducible exact Below.refl _ _) | (with_reducible assumption) | (with_reducible refine below_alloc ?_ _) | (with_reducible refine Below.drew ?_) | (with_reducible refine Below.setCell ?_ ?_ _) | (with_reducible refine below_after ?_ (by assumption)) | go_size))⟩ ?_
  rintro D ⟨hDc0, hDc1, hDc2, hDc3, hDc4, hDc5, hDf0, hDf1, hDf2, hDf3, hDf4, hDf5, hDz0, hDz1, hDz2, hDz3, hDz4, hDz5, hDb⟩
  go_upto_region 8 with (fail)
  by_cases hc0 : c = 0
  · subst hc0
    have P3 := Lib.hid (plain_zero r)
    go_wp2_with fail
    ((with_reducible refine (P3.out _).mono ?_); rintro e w6 ⟨rfl, hb6⟩)
    have hk6 : Kp D.heap.size [] D w6 := (by (repeat (first | (with_reducible assumption) | (with_reducible exact Kp.refl (Nat.le_refl _)) | (with_reducible refine Kp.drew ?_) | (with_reducible refine Kp.alloc ?_ _) | ((with_reducible refine Kp.put ?_ ?_ _); focus (first | (left; go_size; done) | (right; simp; done))) | ((with_reducible apply Kp.later); (with_reducible assumption)))))
    have h6c0 := fun o => (hk6.cell _ o hDz0 (by simp)).trans (hDc0 o)
    have h6f0 := fun o => (hk6.froz _ o hDz0).trans (hDf0 o)
    have h6z0 := Nat.lt_of_lt_of_le hDz0 hk6.size
    have h6c1 := fun o => (hk6.cell _ o hDz1 (by simp)).trans (hDc1 o)
    have h6f1 := fun o => (hk6.froz _ o hDz1).trans (hDf1 o)
    have h6z1 := Nat.lt_of_lt_of_le hDz1 hk6.size
    have h6c2 := fun o => (hk6.cell _ o hDz2 (by simp)).trans (hDc2 o)
    have h6f2 := fun o => (hk6.froz _ o hDz2).trans (hDf2 o)
    have h6z2 := Nat.lt_of_lt_of_le hDz2 hk6.size
    have h6c3 := fun o => (hk6.cell _ o hDz3 (by simp)).trans (hDc3 o)
    have h6f3 := fun o => (hk6.froz _ o hDz3).trans (hDf3 o)
    have h6z3 := Nat.lt_of_lt_of_le hDz3 hk6.size
    go_wp2_with fail
    ((with_reducible refine (K.out _ (HT.out.later (by (repeat' (first | (with_reducible exact Below.refl _ _) | (with_reducible assumption) | (with_reducible refine below_alloc ?_ _) | (with_reducible refine Below.drew ?_) | (with_reducible refine Below.setCell ?_ ?_ _) | (with_reducible refine below_after ?_ (by assumption)) | go_size))))).mono ?_); rintro e w7 ⟨rfl, hb7⟩)
    have hk7 : Kp D.heap.size [] D w7 := (by (repeat (first | (with_reducible assumption) | (with_reducible exact Kp.refl (Nat.le_refl _)) | (with_reducible refine Kp.drew ?_) | (with_reducible refine Kp.alloc ?_ _) | ((with_reducible refine Kp.put ?_ ?_ _); focus (first | (left; go_size; done) | (right; simp; done))) | ((with_reducible apply Kp.later); (with_reducible assumption)))))
    have h7c0 := fun o => (hk7.cell _ o hDz0 (by simp)).trans (hDc0 o)
    have h7f0 := fun o => (hk7.froz _ o hDz0).trans (hDf0 o)
    have h7z0 := Nat.lt_of_lt_of_le hDz0 hk7.size
    have h7c1 := fun o => (hk7.cell _ o hDz1 (by simp)).trans (hDc1 o)
    have h7f1 := fun o => (hk7.froz _ o hDz1).trans (hDf1 o)
    have h7z1 := Nat.lt_of_lt_of_le hDz1 hk7.size
    have h7c2 := fun o => (hk7.cell _ o hDz2 (by simp)).trans (hDc2 o)
    have h7f2 := fun o => (hk7.froz _ o hDz2).trans (hDf2 o)
    have h7z2 := Nat.lt_of_lt_of_le hDz2 hk7.size
    have h7c3 := fun o => (hk7.cell _ o hDz3 (by simp)).trans (hDc3 o)
    have h7f3 := fun o => (hk7.froz _ o hDz3).trans (hDf3 o)
    have h7z3 := Nat.lt_of_lt_of_le hDz3 hk7.size
    go_wp2
    go_ret
    exact ⟨rfl, by (repeat' (first | (with_reducible exact Below.refl _ _) | (with_reducible assumption) | (with_reducible refine below_alloc ?_ _) | (with_reducible refine Below.drew ?_) | (with_reducible refine Below.setCell ?_ ?_ _) | (with_reducible refine below_after ?_ (by assumption)) | go_size))⟩
  have P3 := Lib.hid (plain_pos r c HC.out hc0)
  have qc := eq_wide0_pos r c HC.out hc0
  obtain ⟨qx, nx, hx, hx0, D3⟩ := div_some s r a c HA.out HC.out hc0
  obtain ⟨qy, ny, hy, hy0, D4⟩ := div_some t r b c HB.out HC.out hc0
  obtain ⟨qz, nz, hz, hz0, D5⟩ := div_some false r g c HGL.out HC.out hc0
  have HD := Lib.hid (show (decide (nx = 0) = false) ∨ (decide (nx = 0) = true ∧ decide (ny = 0) = false) ∨ (decide (nx = 0) = true ∧ decide (ny = 0) = true ∧ decide (nz = 0) = true) from ?hd)
  case hd =>
    have hg := HG.out
    by_cases h1 : nx = 0
    · by_cases h2 : ny = 0
      · have h3 : nz = 0 := hz0.2 (Nat.mod_eq_zero_of_dvd (by rw [hg]; exact Nat.dvd_gcd (Nat.dvd_of_mod_eq_zero (hx0.1 h1)) (Nat.dvd_of_mod_eq_zero (hy0.1 h2))))
        exact Or.inr (Or.inr ⟨by simp [h1], by simp [h2], by simp [h3]⟩)
      · exact Or.inr (Or.inl ⟨by simp [h1], by simp [h2]⟩)
    · exact Or.inl (by simp [h1])
  have qx0 := eq_z0 nx hx
  have qy0 := eq_z0 ny hy
  have qz0 := eq_z0 nz hz
  clear hx hy hz hx0 hy0 hz0 hc0
  have D3 := Lib.hid D3
  have D4 := Lib.hid D4
  have D5 := Lib.hid D5
  go_wp2_with fail
  ((with_reducible refine (P3.out _).mono ?_); rintro e w6 ⟨rfl, hb6⟩)
  have hk6 : Kp D.heap.size [] D w6 := (by (repeat (first | (with_reducible assumption) | (with_reducible exact Kp.refl (Nat.le_refl _)) | (with_reducible refine Kp.drew ?_) | (with_reducible refine Kp.alloc ?_ _) | ((with_reducible refine Kp.put ?_ ?_ _); focus (first | (left; go_size; done) | (right; simp; done))) | ((with_reducible apply Kp.later); (with_reducible assumption)))))
  have h6c0 := fun o => (hk6.cell _ o hDz0 (by simp)).trans (hDc0 o)
  have h6f0 := fun o => (hk6.froz _ o hDz0).trans (hDf0 o)
  have h6z0 := Nat.lt_of_lt_of_le hDz0 hk6.size
  have h6c1 := fun o => (hk6.cell _ o hDz1 (by simp)).trans (hDc1 o)
  have h6f1 := fun o => (hk6.froz _ o hDz1).trans (hDf1 o)
  have h6z1 := Nat.lt_of_lt_of_le hDz1 hk6.size
  have h6c2 := fun o => (hk6.cell _ o hDz2 (by simp)).trans (hDc2 o)
  have h6f2 := fun o => (hk6.froz _ o hDz2).trans (hDf2 o)
  have h6z2 := Nat.lt_of_lt_of_le hDz2 hk6.size
  have h6c3 := fun o => (hk6.cell _ o hDz3 (by simp)).trans (hDc3 o)
  have h6f3 := fun o => (hk6.froz _ o hDz3).trans (hDf3 o)
  have h6z3 := Nat.lt_of_lt_of_le hDz3 hk6.size
  go_upto_region 10 with (fail)
  refine wp_world (fun x => (∀ o, x.cell? ⟨w.heap.size, o, none⟩ = (#[.bool (s), .int .u64 (wd (a) 0), .int .u64 (wd (a) 1), .int .u64 (wd (a) 2), .int .u64 (wd (a) 3)] : Array Value)[o]?) ∧ (∀ o, x.cell? ⟨w.heap.size + 1, o, none⟩ = (#[.bool (t), .int .u64 (wd (b) 0), .int .u64 (wd (b) 1), .int .u64 (wd (b) 2), .int .u64 (wd (b) 3)] : Array Value)[o]?) ∧ (∀ o, x.cell? ⟨w.heap.size + 1 + 1, o, none⟩ = (#[.bool (r), .int .u64 (wd (c) 0), .int .u64 (wd (c) 1), .int .u64 (wd (c) 2), .int .u64 (wd (c) 3)] : Array Value)[o]?) ∧ (∀ o, x.cell? ⟨w1.heap.size, o, none⟩ = (#[.bool (false), .int .u64 (wd (g) 0), .int .u64 (wd (g) 1), .int .u64 (wd (g) 2), .int .u64 (wd (g) 3)] : Array Value)[o]?) ∧ (∀ o, x.frozen? ⟨w.heap.size, o, none⟩ = false) ∧ (∀ o, x.frozen? ⟨w.heap.size + 1, o, none⟩ = false) ∧ (∀ o, x.frozen? ⟨w.heap.size + 1 + 1, o, none⟩ = false) ∧ (∀ o, x.frozen? ⟨w1.heap.size, o, none⟩ = false) ∧ w.heap.size < x.heap.size ∧ w.heap.size + 1 < x.heap.size ∧ w.heap.size + 1 + 1 < x.heap.size ∧ w1.heap.size < x.heap.size ∧ Below w.heap.size w x) ⟨fun o => by simp [go_sem, h6c0, h6f0, h6z0, h6c1, h6f1, h6z1, h6c2, h6f2, h6z2, h6c3, h6f3, h6z3], fun o => by simp [go_sem, h6c0, h6f0, h6z0, h6c1, h6f1, h6z1, h6c2, h6f2, h6z2, h6c3, h6f3, h6z3], fun o => by simp [go_sem, h6c0, h6f0, h6z0, h6c1, h6f1, h6z1, h6c2, h6f2, h6z2, h6c3, h6f3, h6z3], fun o => by simp [go_sem, h6c0, h6f0, h6z0, h6c1, h6f1, h6z1, h6c2, h6f2, h6z2, h6c3, h6f3, h6z3], fun o => by simp [go_sem, h6c0, h6f0, h6z0, h6c1, h6f1, h6z1, h6c2, h6f2, h6z2, h6c3, h6f3, h6z3], fun o => by simp [go_sem, h6c0, h6f0, h6z0, h6c1, h6f1, h6z1, h6c2, h6f2, h6z2, h6c3, h6f3, h6z3], fun o => by simp [go_sem, h6c0, h6f0, h6z0, h6c1, h6f1, h6z1, h6c2, h6f2, h6z2, h6c3, h6f3, h6z3], fun o => by simp [go_sem, h6c0, h6f0, h6z0, h6c1, h6f1, h6z1, h6c2, h6f2, h6z2, h6c3, h6f3, h6z3], by (first | omega | (simp [go_sem, h6c0, h6f0, h6z0, h6c1, h6f1, h6z1, h6c2, h6f2, h6z2, h6c3, h6f3, h6z3]; done) | (simp [go_sem, h6c0, h6f0, h6z0, h6c1, h6f1, h6z1, h6c2, h6f2, h6z2, h6c3, h6f3, h6z3]; omega)), by (first | omega | (simp [go_sem, h6c0, h6f0, h6z0, h6c1, h6f1, h6z1, h6c2, h6f2, h6z2, h6c3, h6f3, h6z3]; done) | (simp [go_sem, h6c0, h6f0, h6z0, h6c1, h6f1, h6z1, h6c2, h6f2, h6z2, h6c3, h6f3, h6z3]; omega)), by (first | omega | (simp [go_sem, h6c0, h6f0, h6z0, h6c1, h6f1, h6z1, h6c2, h6f2, h6z2, h6c3, h6f3, h6z3]; done) | (simp [go_sem, h6c0, h6f0, h6z0, h6c1, h6f1, h6z1, h6c2, h6f2, h6z2, h6c3, h6f3, h6z3]; omega)), by (first | omega | (simp [go_sem, h6c0, h6f0, h6z0, h6c1, h6f1, h6z1, h6c2, h6f2, h6z2, h6c3, h6f3, h6z3]; done) | (simp [go_sem, h6c0, h6f0, h6z0, h6c1, h6f1, h6z1, h6c2, h6f2, h6z2, h6c3, h6f3, h6z3]; omega)), by (repeat' (first | (with_reducible exact Below.refl _ _) | (with_reducible assumption) | (with_reducible refine below_alloc ?_ _) | (with_reducible refine Below.drew ?_) | (with_reducible refine Below.setCell ?_ ?_ _) | (with_reducible refine below_after ?_ (by assumption)) | go_size))⟩ ?_
  rintro E ⟨hEc0, hEc1, hEc2, hEc3, hEf0, hEf1, hEf2, hEf3, hEz0, hEz1, hEz2, hEz3, hEb⟩
  go_wp2_with fail
  ((with_reducible refine (D3.out _).mono ?_); rintro e w7 ⟨rfl, hb7⟩)
  have hk7 : Kp E.heap.size [] E w7 := (by (repeat (first | (with_reducible assumption) | (with_reducible exact Kp.refl (Nat.le_refl _)) | (with_reducible refine Kp.drew ?_) | (with_reducible refine Kp.alloc ?_ _) | ((with_reducible refine Kp.put ?_ ?_ _); focus (first | (left; go_size; done) | (right; simp; done))) | ((with_reducible apply Kp.later); (with_reducible assumption)))))
  have h7c0 := fun o => (hk7.cell _ o hEz0 (by simp)).trans (hEc0 o)
  have h7f0 := fun o => (hk7.froz _ o hEz0).trans (hEf0 o)
  have h7z0 := Nat.lt_of_lt_of_le hEz0 hk7.size
  have h7c1 := fun o => (hk7.cell _ o hEz1 (by simp)).trans (hEc1 o)
  have h7f1 := fun o => (hk7.froz _ o hEz1).trans (hEf1 o)
  have h7z1 := Nat.lt_of_lt_of_le hEz1 hk7.size
  have h7c2 := fun o => (hk7.cell _ o hEz2 (by simp)).trans (hEc2 o)
  have h7f2 := fun o => (hk7.froz _ o hEz2).trans (hEf2 o)
  have h7z2 := Nat.lt_of_lt_of_le hEz2 hk7.size
  have h7c3 := fun o => (hk7.cell _ o hEz3 (by simp)).trans (hEc3 o)
  have h7f3 := fun o => (hk7.froz _ o hEz3).trans (hEf3 o)
  have h7z3 := Nat.lt_of_lt_of_le hEz3 hk7.size
  go_upto_region 11 with (fail)
  refine wp_world (fun x => (∀ o, x.cell? ⟨w.heap.size + 1, o, none⟩ = (#[.bool (t), .int .u64 (wd (b) 0), .int .u64 (wd (b) 1), .int .u64 (wd (b) 2), .int .u64 (wd (b) 3)] : Array Value)[o]?) ∧ (∀ o, x.cell? ⟨w.heap.size + 1 + 1, o, none⟩ = (#[.bool (r), .int .u64 (wd (c) 0), .int .u64 (wd (c) 1), .int .u64 (wd (c) 2), .int .u64 (wd (c) 3)] : Array Value)[o]?) ∧ (∀ o, x.cell? ⟨w1.heap.size, o, none⟩ = (#[.bool (false), .int .u64 (wd (g) 0), .int .u64 (wd (g) 1), .int .u64 (wd (g) 2), .int .u64 (wd (g) 3)] : Array Value)[o]?) ∧ (∀ o, x.cell? ⟨w7.heap.size + 1, o, none⟩ = (#[.bool (zs (nx)), .int .u64 (wd (Int.natAbs (nx)) 0), .int .u64 (wd (Int.natAbs (nx)) 1), .int .u64 (wd (Int.natAbs (nx)) 2), .int .u64 (wd (Int.natAbs (nx)) 3)] : Array Value)[o]?) ∧ (∀ o, x.frozen? ⟨w.heap.size + 1, o, none⟩ = false) ∧ (∀ o, x.frozen? ⟨w.heap.size + 1 + 1, o, none⟩ = false) ∧ (∀ o, x.frozen? ⟨w1.heap.size, o, none⟩ = false) ∧ (∀ o, x.frozen? ⟨w7.heap.size + 1, o, none⟩ = false) ∧ w.heap.size + 1 < x.heap.size ∧ w.heap.size + 1 + 1 < x.heap.size ∧ w1.heap.size < x.heap.size ∧ w7.heap.size + 1 < x.heap.size ∧ Below w.heap.size w x) ⟨fun o => by simp [go_sem, h7c0, h7f0, h7z0, h7c1, h7f1, h7z1, h7c2, h7f2, h7z2, h7c3, h7f3, h7z3], fun o => by simp [go_sem, h7c0, h7f0, h7z0, h7c1, h7f1, h7z1, h7c2, h7f2, h7z2, h7c3, h7f3, h7z3], fun o => by simp [go_sem, h7c0, h7f0, h7z0, h7c1, h7f1, h7z1, h7c2, h7f2, h7z2, h7c3, h7f3, h7z3], fun o => by simp [go_sem, h7c0, h7f0, h7z0, h7c1, h7f1, h7z1, h7c2, h7f2, h7z2, h7c3, h7f3, h7z3], fun o => by simp [go_sem, h7c0, h7f0, h7z0, h7c1, h7f1, h7z1, h7c2, h7f2, h7z2, h7c3, h7f3, h7z3], fun o => by simp [go_sem, h7c0, h7f0, h7z0, h7c1, h7f1, h7z1, h7c2, h7f2, h7z2, h7c3, h7f3, h7z3], fun o => by simp [go_sem, h7c0, h7f0, h7z0, h7c1, h7f1, h7z1, h7c2, h7f2, h7z2, h7c3, h7f3, h7z3], fun o => by simp [go_sem, h7c0, h7f0, h7z0, h7c1, h7f1, h7z1, h7c2, h7f2, h7z2, h7c3, h7f3, h7z3], by (first | omega | (simp [go_sem, h7c0, h7f0, h7z0, h7c1, h7f1, h7z1, h7c2, h7f2, h7z2, h7c3, h7f3, h7z3]; done) | (simp [go_sem, h7c0, h7f0, h7z0, h7c1, h7f1, h7z1, h7c2, h7f2, h7z2, h7c3, h7f3, h7z3]; omega)), by (first | omega | (simp [go_sem, h7c0, h7f0, h7z0, h7c1, h7f1, h7z1, h7c2, h7f2, h7z2, h7c3, h7f3, h7z3]; done) | (simp [go_sem, h7c0, h7f0, h7z0, h7c1, h7f1, h7z1, h7c2, h7f2, h7z2, h7c3, h7f3, h7z3]; omega)), by (first | omega | (simp [go_sem, h7c0, h7f0, h7z0, h7c1, h7f1, h7z1, h7c2, h7f2, h7z2, h7c3, h7f3, h7z3]; done) | (simp [go_sem, h7c0, h7f0, h7z0, h7c1, h7f1, h7z1, h7c2, h7f2, h7z2, h7c3, h7f3, h7z3]; omega)), by (first | omega | (simp [go_sem, h7c0, h7f0, h7z0, h7c1, h7f1, h7z1, h7c2, h7f2, h7z2, h7c3, h7f3, h7z3]; done) | (simp [go_sem, h7c0, h7f0, h7z0, h7c1, h7f1, h7z1, h7c2, h7f2, h7z2, h7c3, h7f3, h7z3]; omega)), by (repeat' (first | (with_reducible exact Below.refl _ _) | (with_reducible assumption) | (with_reducible refine below_alloc ?_ _) | (with_reducible refine Below.drew ?_) | (with_reducible refine Below.setCell ?_ ?_ _) | (with_reducible refine below_after ?_ (by assumption)) | go_size))⟩ ?_
  rintro F ⟨hFc0, hFc1, hFc2, hFc3, hFf0, hFf1, hFf2, hFf3, hFz0, hFz1, hFz2, hFz3, hFb⟩
  go_wp2_with fail
  ((with_reducible refine (D4.out _).mono ?_); rintro e w8 ⟨rfl, hb8⟩)
  have hk8 : Kp F.heap.size [] F w8 := (by (repeat (first | (with_reducible assumption) | (with_reducible exact Kp.refl (Nat.le_refl _)) | (with_reducible refine Kp.drew ?_) | (with_reducible refine Kp.alloc ?_ _) | ((with_reducible refine Kp.put ?_ ?_ _); focus (first | (left; go_size; done) | (right; simp; done))) | ((with_reducible apply Kp.later); (with_reducible assumption)))))
  have h8c0 := fun o => (hk8.cell _ o hFz0 (by simp)).trans (hFc0 o)
  have h8f0 := fun o => (hk8.froz _ o hFz0).trans (hFf0 o)
  have h8z0 := Nat.lt_of_lt_of_le hFz0 hk8.size
  have h8c1 := fun o => (hk8.cell _ o hFz1 (by simp)).trans (hFc1 o)
  have h8f1 := fun o => (hk8.froz _ o hFz1).trans (hFf1 o)
  have h8z1 := Nat.lt_of_lt_of_le hFz1 hk8.size
  have h8c2 := fun o => (hk8.cell _ o hFz2 (by simp)).trans (hFc2 o)
  have h8f2 := fun o => (hk8.froz _ o hFz2).trans (hFf2 o)
  have h8z2 := Nat.lt_of_lt_of_le hFz2 hk8.size
  have h8c3 := fun o => (hk8.cell _ o hFz3 (by simp)).trans (hFc3 o)
  have h8f3 := fun o => (hk8.froz _ o hFz3).trans (hFf3 o)
  have h8z3 := Nat.lt_of_lt_of_le hFz3 hk8.size
  go_upto_region 12 with (fail)
  refine wp_world (fun x => (∀ o, x.cell? ⟨w.heap.size + 1 + 1, o, none⟩ = (#[.bool (r), .int .u64 (wd (c) 0), .int .u64 (wd (c) 1), .int .u64 (wd (c) 2), .int .u64 (wd (c) 3)] : Array Value)[o]?) ∧ (∀ o, x.cell? ⟨w1.heap.size, o, none⟩ = (#[.bool (false), .int .u64 (wd (g) 0), .int .u64 (wd (g) 1), .int .u64 (wd (g) 2), .int .u64 (wd (g) 3)] : Array Value)[o]?) ∧ (∀ o, x.cell? ⟨w7.heap.size + 1, o, none⟩ = (#[.bool (zs (nx)), .int .u64 (wd (Int.natAbs (nx)) 0), .int .u64 (wd (Int.natAbs (nx)) 1), .int .u64 (wd (Int.natAbs (nx)) 2), .int .u64 (wd (Int.natAbs (nx)) 3)] : Array Value)[o]?) ∧ (∀ o, x.cell? ⟨w8.heap.size + 1, o, none⟩ = (#[.bool (zs (ny)), .int .u64 (wd (Int.natAbs (ny)) 0), .int .u64 (wd (Int.natAbs (ny)) 1), .int .u64 (wd (Int.natAbs (ny)) 2), .int .u64 (wd (Int.natAbs (ny)) 3)] : Array Value)[o]?) ∧ (∀ o, x.frozen? ⟨w.heap.size + 1 + 1, o, none⟩ = false) ∧ (∀ o, x.frozen? ⟨w1.heap.size, o, none⟩ = false) ∧ (∀ o, x.frozen? ⟨w7.heap.size + 1, o, none⟩ = false) ∧ (∀ o, x.frozen? ⟨w8.heap.size + 1, o, none⟩ = false) ∧ w.heap.size + 1 + 1 < x.heap.size ∧ w1.heap.size < x.heap.size ∧ w7.heap.size + 1 < x.heap.size ∧ w8.heap.size + 1 < x.heap.size ∧ Below w.heap.size w x) ⟨fun o => by simp [go_sem, h8c0, h8f0, h8z0, h8c1, h8f1, h8z1, h8c2, h8f2, h8z2, h8c3, h8f3, h8z3, Nat.lt_of_succ_lt h8z3], fun o => by simp [go_sem, h8c0, h8f0, h8z0, h8c1, h8f1, h8z1, h8c2, h8f2, h8z2, h8c3, h8f3, h8z3, Nat.lt_of_succ_lt h8z3], fun o => by simp [go_sem, h8c0, h8f0, h8z0, h8c1, h8f1, h8z1, h8c2, h8f2, h8z2, h8c3, h8f3, h8z3, Nat.lt_of_succ_lt h8z3], fun o => by simp [go_sem, h8c0, h8f0, h8z0, h8c1, h8f1, h8z1, h8c2, h8f2, h8z2, h8c3, h8f3, h8z3, Nat.lt_of_succ_lt h8z3], fun o => by simp [go_sem, h8c0, h8f0, h8z0, h8c1, h8f1, h8z1, h8c2, h8f2, h8z2, h8c3, h8f3, h8z3, Nat.lt_of_succ_lt h8z3], fun o => by simp [go_sem, h8c0, h8f0, h8z0, h8c1, h8f1, h8z1, h8c2, h8f2, h8z2, h8c3, h8f3, h8z3, Nat.lt_of_succ_lt h8z3], fun o => by simp [go_sem, h8c0, h8f0, h8z0, h8c1, h8f1, h8z1, h8c2, h8f2, h8z2, h8c3, h8f3, h8z3, Nat.lt_of_succ_lt h8z3], fun o => by simp [go_sem, h8c0, h8f0, h8z0, h8c1, h8f1, h8z1, h8c2, h8f2, h8z2, h8c3, h8f3, h8z3, Nat.lt_of_succ_lt h8z3], by (first | omega | (simp [go_sem, h8c0, h8f0, h8z0, h8c1, h8f1, h8z1, h8c2, h8f2, h8z2, h8c3, h8f3, h8z3, Nat.lt_of_succ_lt h8z3]; done) | (simp [go_sem, h8c0, h8f0, h8z0, h8c1, h8f1, h8z1, h8c2, h8f2, h8z2, h8c3, h8f3, h8z3, Nat.lt_of_succ_lt h8z3]; omega)), by (first | omega | (simp [go_sem, h8c0, h8f0, h8z0, h8c1, h8f1, h8z1, h8c2, h8f2, h8z2, h8c3, h8f3, h8z3, Nat.lt_of_succ_lt h8z3]; done) | (simp [go_sem, h8c0, h8f0, h8z0, h8c1, h8f1, h8z1, h8c2, h8f2, h8z2, h8c3, h8f3, h8z3, Nat.lt_of_succ_lt h8z3]; omega)), by (first | omega | (simp [go_sem, h8c0, h8f0, h8z0, h8c1, h8f1, h8z1, h8c2, h8f2, h8z2, h8c3, h8f3, h8z3, Nat.lt_of_succ_lt h8z3]; done) | (simp [go_sem, h8c0, h8f0, h8z0, h8c1, h8f1, h8z1, h8c2, h8f2, h8z2, h8c3, h8f3, h8z3, Nat.lt_of_succ_lt h8z3]; omega)), by (first | omega | (simp [go_sem, h8c0, h8f0, h8z0, h8c1, h8f1, h8z1, h8c2, h8f2, h8z2, h8c3, h8f3, h8z3, Nat.lt_of_succ_lt h8z3]; done) | (simp [go_sem, h8c0, h8f0, h8z0, h8c1, h8f1, h8z1, h8c2, h8f2, h8z2, h8c3, h8f3, h8z3, Nat.lt_of_succ_lt h8z3]; omega)), by (repeat' (first | (with_reducible exact Below.refl _ _) | (with_reducible assumption) | (with_reducible refine below_alloc ?_ _) | (with_reducible refine Below.drew ?_) | (with_reducible refine Below.setCell ?_ ?_ _) | (with_reducible refine below_after ?_ (by assumption)) | go_size))⟩ ?_
  rintro G ⟨hGc0, hGc1, hGc2, hGc3, hGf0, hGf1, hGf2, hGf3, hGz0, hGz1, hGz2, hGz3, hGb⟩
  go_wp2_with fail
  ((with_reducible refine (D5.out _).mono ?_); rintro e w9 ⟨rfl, hb9⟩)
  have hk9 : Kp G.heap.size [] G w9 := (by (repeat (first | (with_reducible assumption) | (with_reducible exact Kp.refl (Nat.le_refl _)) | (with_reducible refine Kp.drew ?_) | (with_reducible refine Kp.alloc ?_ _) | ((with_reducible refine Kp.put ?_ ?_ _); focus (first | (left; go_size; done) | (right; simp; done))) | ((with_reducible apply Kp.later); (with_reducible assumption)))))
  have h9c0 := fun o => (hk9.cell _ o hGz0 (by simp)).trans (hGc0 o)
  have h9f0 := fun o => (hk9.froz _ o hGz0).trans (hGf0 o)
  have h9z0 := Nat.lt_of_lt_of_le hGz0 hk9.size
  have h9c1 := fun o => (hk9.cell _ o hGz1 (by simp)).trans (hGc1 o)
  have h9f1 := fun o => (hk9.froz _ o hGz1).trans (hGf1 o)
  have h9z1 := Nat.lt_of_lt_of_le hGz1 hk9.size
  have h9c2 := fun o => (hk9.cell _ o hGz2 (by simp)).trans (hGc2 o)
  have h9f2 := fun o => (hk9.froz _ o hGz2).trans (hGf2 o)
  have h9z2 := Nat.lt_of_lt_of_le hGz2 hk9.size
  have h9c3 := fun o => (hk9.cell _ o hGz3 (by simp)).trans (hGc3 o)
  have h9f3 := fun o => (hk9.froz _ o hGz3).trans (hGf3 o)
  have h9z3 := Nat.lt_of_lt_of_le hGz3 hk9.size
  go_upto_region 13 with (fail)
  refine wp_world (fun x => (∀ o, x.cell? ⟨w7.heap.size + 1, o, none⟩ = (#[.bool (zs (nx)), .int .u64 (wd (Int.natAbs (nx)) 0), .int .u64 (wd (Int.natAbs (nx)) 1), .int .u64 (wd (Int.natAbs (nx)) 2), .int .u64 (wd (Int.natAbs (nx)) 3)] : Array Value)[o]?) ∧ (∀ o, x.cell? ⟨w8.heap.size + 1, o, none⟩ = (#[.bool (zs (ny)), .int .u64 (wd (Int.natAbs (ny)) 0), .int .u64 (wd (Int.natAbs (ny)) 1), .int .u64 (wd (Int.natAbs (ny)) 2), .int .u64 (wd (Int.natAbs (ny)) 3)] : Array Value)[o]?) ∧ (∀ o, x.cell? ⟨w9.heap.size + 1, o, none⟩ = (#[.bool (zs (nz)), .int .u64 (wd (Int.natAbs (nz)) 0), .int .u64 (wd (Int.natAbs (nz)) 1), .int .u64 (wd (Int.natAbs (nz)) 2), .int .u64 (wd (Int.natAbs (nz)) 3)] : Array Value)[o]?) ∧ (∀ o, x.frozen? ⟨w7.heap.size + 1, o, none⟩ = false) ∧ (∀ o, x.frozen? ⟨w8.heap.size + 1, o, none⟩ = false) ∧ (∀ o, x.frozen? ⟨w9.heap.size + 1, o, none⟩ = false) ∧ w7.heap.size + 1 < x.heap.size ∧ w8.heap.size + 1 < x.heap.size ∧ w9.heap.size + 1 < x.heap.size ∧ Below w.heap.size w x) ⟨fun o => by simp [go_sem, h9c0, h9f0, h9z0, h9c1, h9f1, h9z1, h9c2, h9f2, h9z2, h9c3, h9f3, h9z3, Nat.lt_of_succ_lt h9z2, Nat.lt_of_succ_lt h9z3], fun o => by simp [go_sem, h9c0, h9f0, h9z0, h9c1, h9f1, h9z1, h9c2, h9f2, h9z2, h9c3, h9f3, h9z3, Nat.lt_of_succ_lt h9z2, Nat.lt_of_succ_lt h9z3], fun o => by simp [go_sem, h9c0, h9f0, h9z0, h9c1, h9f1, h9z1, h9c2, h9f2, h9z2, h9c3, h9f3, h9z3, Nat.lt_of_succ_lt h9z2, Nat.lt_of_succ_lt h9z3], fun o => by simp [go_sem, h9c0, h9f0, h9z0, h9c1, h9f1, h9z1, h9c2, h9f2, h9z2, h9c3, h9f3, h9z3, Nat.lt_of_succ_lt h9z2, Nat.lt_of_succ_lt h9z3], fun o => by simp [go_sem, h9c0, h9f0, h9z0, h9c1, h9f1, h9z1, h9c2, h9f2, h9z2, h9c3, h9f3, h9z3, Nat.lt_of_succ_lt h9z2, Nat.lt_of_succ_lt h9z3], fun o => by simp [go_sem, h9c0, h9f0, h9z0, h9c1, h9f1, h9z1, h9c2, h9f2, h9z2, h9c3, h9f3, h9z3, Nat.lt_of_succ_lt h9z2, Nat.lt_of_succ_lt h9z3], by (first | omega | (simp [go_sem, h9c0, h9f0, h9z0, h9c1, h9f1, h9z1, h9c2, h9f2, h9z2, h9c3, h9f3, h9z3, Nat.lt_of_succ_lt h9z2, Nat.lt_of_succ_lt h9z3]; done) | (simp [go_sem, h9c0, h9f0, h9z0, h9c1, h9f1, h9z1, h9c2, h9f2, h9z2, h9c3, h9f3, h9z3, Nat.lt_of_succ_lt h9z2, Nat.lt_of_succ_lt h9z3]; omega)), by (first | omega | (simp [go_sem, h9c0, h9f0, h9z0, h9c1, h9f1, h9z1, h9c2, h9f2, h9z2, h9c3, h9f3, h9z3, Nat.lt_of_succ_lt h9z2, Nat.lt_of_succ_lt h9z3]; done) | (simp [go_sem, h9c0, h9f0, h9z0, h9c1, h9f1, h9z1, h9c2, h9f2, h9z2, h9c3, h9f3, h9z3, Nat.lt_of_succ_lt h9z2, Nat.lt_of_succ_lt h9z3]; omega)), by (first | omega | (simp [go_sem, h9c0, h9f0, h9z0, h9c1, h9f1, h9z1, h9c2, h9f2, h9z2, h9c3, h9f3, h9z3, Nat.lt_of_succ_lt h9z2, Nat.lt_of_succ_lt h9z3]; done) | (simp [go_sem, h9c0, h9f0, h9z0, h9c1, h9f1, h9z1, h9c2, h9f2, h9z2, h9c3, h9f3, h9z3, Nat.lt_of_succ_lt h9z2, Nat.lt_of_succ_lt h9z3]; omega)), by (repeat' (first | (with_reducible exact Below.refl _ _) | (with_reducible assumption) | (with_reducible refine below_alloc ?_ _) | (with_reducible refine Below.drew ?_) | (with_reducible refine Below.setCell ?_ ?_ _) | (with_reducible refine below_after ?_ (by assumption)) | go_size))⟩ ?_
  rintro I ⟨hIc0, hIc1, hIc2, hIf0, hIf1, hIf2, hIz0, hIz1, hIz2, hIb⟩
  rcases HD.out with e1 | ⟨e1, e2⟩ | ⟨e1, e2, e3⟩
  · rw [e1] at qx0
    go_wp2_with fail
    ((with_reducible refine (K.out _ (HT.out.later (by (repeat' (first | (with_reducible exact Below.refl _ _) | (with_reducible assumption) | (with_reducible refine below_alloc ?_ _) | (with_reducible refine Below.drew ?_) | (with_reducible refine Below.setCell ?_ ?_ _) | (with_reducible refine below_after ?_ (by assumption)) | go_size))))).mono ?_); rintro e w10 ⟨rfl, hb10⟩)
    have hk10 : Kp I.heap.size [] I w10 := (by (repeat (first | (with_reducible assumption) | (with_reducible exact Kp.refl (Nat.le_refl _)) | (with_reducible refine Kp.drew ?_) | (with_reducible refine Kp.alloc ?_ _) | ((with_reducible refine Kp.put ?_ ?_ _); focus (first | (left; go_size; done) | (right; simp; done))) | ((with_reducible apply Kp.later); (with_reducible assumption)))))
    go_wp2
    go_ret
    exact ⟨rfl, by (repeat' (first | (with_reducible exact Below.refl _ _) | (with_reducible assumption) | (with_reducible refine below_alloc ?_ _) | (with_reducible refine Below.drew ?_) | (with_reducible refine Below.setCell ?_ ?_ _) | (with_reducible refine below_after ?_ (by assumption)) | go_size))⟩
  · rw [e1] at qx0
    rw [e2] at qy0
    go_wp2_with fail
    ((with_reducible refine (K.out _ (HT.out.later (by (repeat' (first | (with_reducible exact Below.refl _ _) | (with_reducible assumption) | (with_reducible refine below_alloc ?_ _) | (with_reducible refine Below.drew ?_) | (with_reducible refine Below.setCell ?_ ?_ _) | (with_reducible refine below_after ?_ (by assumption)) | go_size))))).mono ?_); rintro e w10 ⟨rfl, hb10⟩)
    have hk10 : Kp I.heap.size [] I w10 := (by (repeat (first | (with_reducible assumption) | (with_reducible exact Kp.refl (Nat.le_refl _)) | (with_reducible refine Kp.drew ?_) | (with_reducible refine Kp.alloc ?_ _) | ((with_reducible refine Kp.put ?_ ?_ _); focus (first | (left; go_size; done) | (right; simp; done))) | ((with_reducible apply Kp.later); (with_reducible assumption)))))
    go_wp2
    go_ret
    exact ⟨rfl, by (repeat' (first | (with_reducible exact Below.refl _ _) | (with_reducible assumption) | (with_reducible refine below_alloc ?_ _) | (with_reducible refine Below.drew ?_) | (with_reducible refine Below.setCell ?_ ?_ _) | (with_reducible refine below_after ?_ (by assumption)) | go_size))⟩
  · rw [e1] at qx0
    rw [e2] at qy0
    rw [e3] at qz0
    go_wp2_with fail
    ((with_reducible refine (K.out _ (HT.out.later (by (repeat' (first | (with_reducible exact Below.refl _ _) | (with_reducible assumption) | (with_reducible refine below_alloc ?_ _) | (with_reducible refine Below.drew ?_) | (with_reducible refine Below.setCell ?_ ?_ _) | (with_reducible refine below_after ?_ (by assumption)) | go_size))))).mono ?_); rintro e w10 ⟨rfl, hb10⟩)
    have hk10 : Kp I.heap.size [] I w10 := (by (repeat (first | (with_reducible assumption) | (with_reducible exact Kp.refl (Nat.le_refl _)) | (with_reducible refine Kp.drew ?_) | (with_reducible refine Kp.alloc ?_ _) | ((with_reducible refine Kp.put ?_ ?_ _); focus (first | (left; go_size; done) | (right; simp; done))) | ((with_reducible apply Kp.later); (with_reducible assumption)))))
    go_wp2
    go_ret
    exact ⟨rfl, by (repeat' (first | (with_reducible exact Below.refl _ _) | (with_reducible assumption) | (with_reducible refine below_alloc ?_ _) | (with_reducible refine Below.drew ?_) | (with_reducible refine Below.setCell ?_ ?_ _) | (with_reducible refine below_after ?_ (by assumption)) | go_size))⟩
/-- The whole law. -/
theorem divisors_walk (s : Bool) (a : Nat) (ha : a < 2 ^ 256) (t : Bool) (b : Nat) (hb : b < 2 ^ 256) (r : Bool) (c : Nat) (hc : c < 2 ^ 256) (w : World) (hT : Tabs w) :
    Calls Tryd.prog 6 #[(.agg #[.bool (s), .int .u64 (wd (a) 0), .int .u64 (wd (a) 1), .int .u64 (wd (a) 2), .int .u64 (wd (a) 3)]), (.agg #[.bool (t), .int .u64 (wd (b) 0), .int .u64 (wd (b) 1), .int .u64 (wd (b) 2), .int .u64 (wd (b) 3)]), (.agg #[.bool (r), .int .u64 (wd (c) 0), .int .u64 (wd (c) 1), .int .u64 (wd (c) 2), .int .u64 (wd (c) 3)])] w fun e w' => e = .returned (.bool true) ∧ Below w.heap.size w w' := by
  by_cases h : a = 0
  · by_cases h' : b = 0
    · subst h h'
      exact divisors_none s t r c w hT
    · exact divisors_b s t r a b c _ rfl ha hb hc h h' w hT
  · exact divisors_a s t r a b c _ rfl ha hb hc h w hT
end Go.Proofs.YtnbdccobfmlhbaaDoor
