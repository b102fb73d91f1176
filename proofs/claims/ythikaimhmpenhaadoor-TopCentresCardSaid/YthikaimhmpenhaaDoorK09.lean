/-
  What package ratio's larger, plus and short return, of integers that fit in a word.
  Plain arithmetic of the greatest common divisor by odd parts; no program in sight.
  (Written by wip/pack.py out of XFSgB, XFGcdM.)
-/
import Derived.Test.YthikaimhmpenhaaDoorK06
import Derived.Test.YthikaimhmpenhaaDoorK07
import Derived.Test.YthikaimhmpenhaaDoorK08
import Derived.Test.YthikaimhmpenhaaDoorK05

namespace Go.Proofs.YthikaimhmpenhaaDoor
set_option linter.all false
open Go Go.RowKit Wd
set_option maxRecDepth 100000
theorem get_longS (s : Bool) (S k : Nat) (h : 1 ≤ k) (h' : k < 9) : (#[.bool (s), .int .u64 ↑S, .int .u64 0, .int .u64 0, .int .u64 0, .int .u64 0, .int .u64 0, .int .u64 0, .int .u64 0, .int .u64 0] : Array Value)[1 + k]? = some (.int .u64 0) := by
  match k, h, h' with
  | 1, _, _ | 2, _, _ | 3, _, _ | 4, _, _ | 5, _, _ | 6, _, _ | 7, _, _ | 8, _, _ => rfl
theorem set_longS0 {w : World} {s : Bool} {B S S' : Nat} (h : ∀ o, w.cell? ⟨B, o, none⟩ = (#[.bool (s), .int .u64 ↑S, .int .u64 0, .int .u64 0, .int .u64 0, .int .u64 0, .int .u64 0, .int .u64 0, .int .u64 0, .int .u64 0] : Array Value)[o]?) :
    ∀ o, (w.setCell ⟨B, 1 + 0, none⟩ (.int .u64 (S' : Int))).cell? ⟨B, o, none⟩ = (#[.bool (s), .int .u64 ↑S', .int .u64 0, .int .u64 0, .int .u64 0, .int .u64 0, .int .u64 0, .int .u64 0, .int .u64 0, .int .u64 0] : Array Value)[o]? := by
  have h0 := set_at (i := 1) (v := .int .u64 (S' : Int)) h
  exact h0
theorem set_longS1 {w : World} {s : Bool} {B S k : Nat} (hk : 1 ≤ k) (hk' : k < 9) (h : ∀ o, w.cell? ⟨B, o, none⟩ = (#[.bool (s), .int .u64 ↑S, .int .u64 0, .int .u64 0, .int .u64 0, .int .u64 0, .int .u64 0, .int .u64 0, .int .u64 0, .int .u64 0] : Array Value)[o]?) :
    ∀ o, (w.setCell ⟨B, 1 + k, none⟩ (.int .u64 0)).cell? ⟨B, o, none⟩ = (#[.bool (s), .int .u64 ↑S, .int .u64 0, .int .u64 0, .int .u64 0, .int .u64 0, .int .u64 0, .int .u64 0, .int .u64 0, .int .u64 0] : Array Value)[o]? := by
  have h0 := set_at (i := 1 + k) (v := .int .u64 0) h
  intro o
  rw [h0 o]
  match k, hk, hk' with
  | 1, _, _ | 2, _, _ | 3, _, _ | 4, _, _ | 5, _, _ | 6, _, _ | 7, _, _ | 8, _, _ => rfl
def PluI (w : World) (s t : Bool) (S b : Nat) (wr : World) : Prop :=
  (∀ o, wr.cell? ⟨w.heap.size, o, none⟩ = (#[.bool (s), .int .u64 ↑S, .int .u64 0, .int .u64 0, .int .u64 0, .int .u64 0, .int .u64 0, .int .u64 0, .int .u64 0, .int .u64 0] : Array Value)[o]?) ∧ (∀ o, wr.cell? ⟨w.heap.size + 1, o, none⟩ = (#[.bool (t), .int .u64 ↑b, .int .u64 0, .int .u64 0, .int .u64 0, .int .u64 0, .int .u64 0, .int .u64 0, .int .u64 0, .int .u64 0] : Array Value)[o]?)
  ∧ (∀ o, wr.cell? ⟨w.heap.size + 1 + 1, o, none⟩ = (#[.bool false, .int .u64 (((0) : Nat) : Int), .int .u64 0, .int .u64 0, .int .u64 0, .int .u64 0, .int .u64 0, .int .u64 0, .int .u64 0, .int .u64 0] : Array Value)[o]?)
  ∧ (∀ o, wr.frozen? ⟨w.heap.size, o, none⟩ = false) ∧ (∀ o, wr.frozen? ⟨w.heap.size + 1 + 1, o, none⟩ = false)
  ∧ w.heap.size + 1 + 1 < wr.heap.size ∧ Below w.heap.size w wr
theorem PluI.set0 {w wr : World} {s t : Bool} {S S' b : Nat} (h : PluI w s t S b wr) : PluI w s t S' b (wr.setCell ⟨w.heap.size, 1 + 0, none⟩ (.int .u64 (S' : Int))) := by
  obtain ⟨c0, c1, c2, f0, f2, z, hb⟩ := h
  exact ⟨set_longS0 c0, set_far (by omega) c1, set_far (by omega) c2, fun o => by rw [World.frozen?_setCell]; exact f0 o, fun o => by rw [World.frozen?_setCell]; exact f2 o, by simpa using z, hb.setCell (by simp) _⟩
theorem PluI.set1 {w wr : World} {s t : Bool} {S b k : Nat} (hk : 1 ≤ k) (hk' : k < 9) (h : PluI w s t S b wr) : PluI w s t S b (wr.setCell ⟨w.heap.size, 1 + k, none⟩ (.int .u64 0)) := by
  obtain ⟨c0, c1, c2, f0, f2, z, hb⟩ := h
  exact ⟨set_longS1 hk hk' c0, set_far (by omega) c1, set_far (by omega) c2, fun o => by rw [World.frozen?_setCell]; exact f0 o, fun o => by rw [World.frozen?_setCell]; exact f2 o, by simpa using z, hb.setCell (by simp) _⟩
theorem PluI.drew {w wr : World} {s t : Bool} {S b : Nat} (h : PluI w s t S b wr) : PluI w s t S b wr.drew := by
  obtain ⟨c0, c1, c2, f0, f2, z, hb⟩ := h
  exact ⟨c0, c1, c2, f0, f2, z, hb.drew⟩
set_option maxHeartbeats 1000000 in
theorem lplus_same (s : Bool) (a b : Nat) (hab : a + b < 18446744073709551616) (w : World) :
    Calls Tryd.prog 75 #[(.agg #[.bool (s), .int .u64 ↑a, .int .u64 0, .int .u64 0, .int .u64 0, .int .u64 0, .int .u64 0, .int .u64 0, .int .u64 0, .int .u64 0]), (.agg #[.bool (s), .int .u64 ↑b, .int .u64 0, .int .u64 0, .int .u64 0, .int .u64 0, .int .u64 0, .int .u64 0, .int .u64 0, .int .u64 0])] w fun e w' => e = .returned (.agg #[.bool (s), .int .u64 (((a + b) : Nat) : Int), .int .u64 0, .int .u64 0, .int .u64 0, .int .u64 0, .int .u64 0, .int .u64 0, .int .u64 0, .int .u64 0]) ∧ Below w.heap.size w w' := by
  have r0 := run_add64_nn a b (by omega) (by omega)
  rw [show lo64 a b = a + b by unfold lo64; exact Nat.mod_eq_of_lt hab, show hi64 a b = 0 by unfold hi64; exact Nat.div_eq_of_lt hab] at r0
  have r1 := run_add64_nn 0 0 (by omega) (by omega)
  rw [show lo64 0 0 = 0 by unfold lo64; rfl, show hi64 0 0 = 0 by unfold hi64; rfl] at r1
  simp only [Int.natCast_zero, Int.cast_ofNat_Int] at r0 r1
  obtain ⟨P, hP⟩ : ∃ P, P = a + b := ⟨_, rfl⟩
  rw [← hP] at r0
  rw [← hP]
  clear hP hab
  go_enter Tryd.func75, Tryd.ntmps75
  go_wp2
  go_loopw [5, 14] (fun c i wr => ∃ k S : Nat, k ≤ 9 ∧ i = .int .i64 k ∧ c = .int .u64 0 ∧ (k = 0 ∧ S = a ∨ 1 ≤ k ∧ S = P) ∧ PluI w s s S b wr) (fun _ i _ => 9 - (intOf i).toNat)
  case atStart =>
    exact ⟨0, a, by omega, rfl, rfl, Or.inl ⟨rfl, rfl⟩, fun o => by simp [go_sem], fun o => by simp [go_sem], fun o => by simp [go_sem], fun o => by simp [go_sem], fun o => by simp [go_sem], by simp, by go_grown⟩
  case round =>
    obtain ⟨k, S, hk, rfl, rfl, hS, HM⟩ := hrel
    have HM0 := Lib.hid HM
    obtain ⟨c0, c1, c2, f0, f2, hz, hb⟩ := HM
    by_cases hlt : k < 9
    · have hf := f0 (1 + k)
      rcases hS with ⟨rfl, rfl⟩ | ⟨h1, rfl⟩
      · go_wp2
        go_region
        go_wp2
        go_roundw
        case rel => exact ⟨1, P, by omega, rfl, rfl, Or.inr ⟨by omega, rfl⟩, (HM0.out.set0 (S' := P)).drew⟩
        case measure => simp [intOf]
      · have d0 := (c0 (1 + k)).trans (get_longS _ S k h1 hlt)
        have d1 := (c1 (1 + k)).trans (get_longS _ b k h1 hlt)
        clear c0 c1
        go_wp2
        go_region
        go_wp2
        go_roundw
        case rel => exact ⟨k + 1, S, by omega, by go_num, rfl, Or.inr ⟨by omega, rfl⟩, (HM0.out.set1 h1 hlt).drew⟩
        case measure => simp [intOf]; omega
    · obtain rfl : k = 9 := by omega
      obtain rfl : S = P := by omega
      have z0 : w.heap.size < wr.heap.size := by omega
      go_wp2_with ((with_reducible show bodyPost _ _ _ _ _ _); refine bodyPost_ret (by simp [results, Tryd.results75, go_sem, c0, c2, f2, hz]; try rfl) rfl ?_; exact ⟨rfl, by (repeat' first | (with_reducible first | exact Bq0 | assumption | refine Bq1 ?_ | refine Bq2 ?_ | refine Bq3 ?_ ?_ | refine Bq4 ?_ (by assumption)) | go_size)⟩)
set_option maxHeartbeats 1000000 in
theorem shortI (s : Bool) (S : Nat) (w : World) :
    Calls Tryd.prog 79 #[(.agg #[.bool (s), .int .u64 ↑S, .int .u64 0, .int .u64 0, .int .u64 0, .int .u64 0, .int .u64 0, .int .u64 0, .int .u64 0, .int .u64 0])] w fun e w' => e = .returned (.tuple #[(.agg #[.bool (s), .int .u64 ↑S, .int .u64 0, .int .u64 0, .int .u64 0]), .bool true]) ∧ Below w.heap.size w w' := by
  have k1 := array_at9
  go_enter Tryd.func79, Tryd.ntmps79
  go_wp2
  refine wp_loop_rounds 6 ?_
  iterate 5 (rw [rounds_succ]; go_wp2)
  rw [rounds_succ]
  go_wp2
  go_region
  go_wp2_with ((with_reducible show bodyPost _ _ _ _ _ _); refine bodyPost_ret (by simp [results, Tryd.results79, go_sem, ]; try rfl) rfl ?_; exact ⟨rfl, by (repeat' first | (with_reducible first | exact Bq0 | assumption | refine Bq1 ?_ | refine Bq2 ?_ | refine Bq3 ?_ ?_ | refine Bq4 ?_ (by assumption)) | go_size)⟩)
set_option maxHeartbeats 1000000 in
theorem largerI (s t : Bool) (a b : Nat) (w : World) :
    Calls Tryd.prog 95 #[(.agg #[.bool (s), .int .u64 ↑a, .int .u64 0, .int .u64 0, .int .u64 0, .int .u64 0, .int .u64 0, .int .u64 0, .int .u64 0, .int .u64 0]), (.agg #[.bool (t), .int .u64 ↑b, .int .u64 0, .int .u64 0, .int .u64 0, .int .u64 0, .int .u64 0, .int .u64 0, .int .u64 0, .int .u64 0])] w fun e w' => e = .returned (.int .i64 (if b < a then 1 else if a < b then -1 else 0)) ∧ Below w.heap.size w w' := by
  by_cases h1 : b < a
  · rw [if_pos h1]
    have h2 : ¬ ((a : Int) = (b : Int)) := by omega
    have h3 : (b : Int) < (a : Int) := by omega
    clear h1
    go_enter Tryd.func95, Tryd.ntmps95
    go_wp2
    refine wp_loop_rounds 10 ?_
    iterate 8 (rw [rounds_succ]; go_wp2; go_region; go_wp2)
    rw [rounds_succ]
    go_wp2
    go_region
    go_wp2
    go_region
    go_wp2_with ((with_reducible show bodyPost _ _ _ _ _ _); refine bodyPost_ret (by simp [results, Tryd.results95, go_sem, ]; try rfl) rfl ?_; exact ⟨rfl, by (repeat' first | (with_reducible first | exact Bq0 | assumption | refine Bq1 ?_ | refine Bq2 ?_ | refine Bq3 ?_ ?_ | refine Bq4 ?_ (by assumption)) | go_size)⟩)
  · rw [if_neg h1]
    by_cases h2 : a < b
    · rw [if_pos h2]
      have h4 : ¬ ((a : Int) = (b : Int)) := by omega
      have h3 : ¬ ((b : Int) < (a : Int)) := by omega
      clear h1 h2
      go_enter Tryd.func95, Tryd.ntmps95
      go_wp2
      refine wp_loop_rounds 10 ?_
      iterate 8 (rw [rounds_succ]; go_wp2; go_region; go_wp2)
      rw [rounds_succ]
      go_wp2
      go_region
      go_wp2
      go_region
      go_wp2_with ((with_reducible show bodyPost _ _ _ _ _ _); refine bodyPost_ret (by simp [results, Tryd.results95, go_sem, ]; try rfl) rfl ?_; exact ⟨rfl, by (repeat' first | (with_reducible first | exact Bq0 | assumption | refine Bq1 ?_ | refine Bq2 ?_ | refine Bq3 ?_ ?_ | refine Bq4 ?_ (by assumption)) | go_size)⟩)
    · rw [if_neg h2]
      obtain rfl : a = b := by omega
      clear h1 h2
      go_enter Tryd.func95, Tryd.ntmps95
      go_wp2
      refine wp_loop_rounds 10 ?_
      iterate 8 (rw [rounds_succ]; go_wp2; go_region; go_wp2)
      rw [rounds_succ]
      go_wp2
      go_region
      go_wp2
      rw [rounds_succ]
      go_wp2_with ((with_reducible show bodyPost _ _ _ _ _ _); refine bodyPost_ret (by simp [results, Tryd.results95, go_sem, ]; try rfl) rfl ?_; exact ⟨rfl, by (repeat' first | (with_reducible first | exact Bq0 | assumption | refine Bq1 ?_ | refine Bq2 ?_ | refine Bq3 ?_ ?_ | refine Bq4 ?_ (by assumption)) | go_size)⟩)
end Go.Proofs.YthikaimhmpenhaaDoor

namespace Go.Proofs.YthikaimhmpenhaaDoor.Wd
set_option linter.all false
theorem cop_pow {k y : Nat} (hy : y % 2 = 1) : Nat.Coprime (2 ^ k) y := by
  apply Nat.Coprime.pow_left
  unfold Nat.Coprime
  rw [Nat.gcd_rec, hy]; simp
theorem gcd_strip {k x y : Nat} (hy : y % 2 = 1) : Nat.gcd (2 ^ k * x) y = Nat.gcd x y := Nat.Coprime.gcd_mul_left_cancel x (cop_pow hy)
theorem gcd_twos {n m x y : Nat} (hx : x % 2 = 1) (hy : y % 2 = 1) : Nat.gcd (2 ^ n * x) (2 ^ m * y) = 2 ^ min n m * Nat.gcd x y := by
  by_cases h : n ≤ m
  · rw [Nat.min_eq_left h, show 2 ^ m = 2 ^ n * 2 ^ (m - n) by rw [← Nat.pow_add]; congr 1; omega, Nat.mul_assoc, Nat.gcd_mul_left, Nat.gcd_comm, gcd_strip hx, Nat.gcd_comm]
  · rw [Nat.min_eq_right (by omega), show 2 ^ n = 2 ^ m * 2 ^ (n - m) by rw [← Nat.pow_add]; congr 1; omega, Nat.mul_assoc, Nat.gcd_mul_left, gcd_strip hy]
@[irreducible] def GcdIn (a b x y g : Nat) : Prop := x % 2 = 1 ∧ y % 2 = 1 ∧ x < 2 ^ 256 ∧ y < 2 ^ 256 ∧ Nat.gcd x y = Nat.gcd (oddP a) (oddP b) ∧ x + y ≤ g
theorem GcdIn.start {a b : Nat} (ha0 : 0 < a) (ha : a < 2 ^ 256) (hb0 : 0 < b) (hb : b < 2 ^ 256) : GcdIn a b (oddP a) (oddP b) (oddP a + oddP b) := by
  obtain ⟨h1, h2, h3⟩ := twos_spec ha0 ha
  obtain ⟨k1, k2, k3⟩ := twos_spec hb0 hb
  have l1 : oddP a ≤ a := by conv => rhs; rw [h1]
                             exact Nat.le_mul_of_pos_left _ (Nat.pow_pos (by omega))
  have l2 : oddP b ≤ b := by conv => rhs; rw [k1]
                             exact Nat.le_mul_of_pos_left _ (Nat.pow_pos (by omega))
  unfold GcdIn
  exact ⟨h2, k2, Nat.lt_of_le_of_lt l1 ha, Nat.lt_of_le_of_lt l2 hb, rfl, Nat.le_refl _⟩
theorem GcdIn.swap {a b x y g : Nat} (h : GcdIn a b x y g) : GcdIn a b y x g := by
  unfold GcdIn at *
  obtain ⟨h1, h2, h3, h4, h5, h6⟩ := h
  exact ⟨h2, h1, h4, h3, by rw [Nat.gcd_comm]; exact h5, by omega⟩
theorem GcdIn.lt {a b x y g : Nat} (h : GcdIn a b x y g) : x < 2 ^ 256 ∧ y < 2 ^ 256 := by
  unfold GcdIn at h; exact ⟨h.2.2.1, h.2.2.2.1⟩
theorem GcdIn.next {a b x y g : Nat} (h : GcdIn a b x y g) (hl : y < x) : GcdIn a b (oddP (x - y)) y (oddP (x - y) + y) ∧ oddP (x - y) + y < g ∧ 0 < x - y ∧ x - y < 2 ^ 256 := by
  unfold GcdIn at *
  obtain ⟨h1, h2, h3, h4, h5, h6⟩ := h
  have h7 : x - y < 2 ^ 256 := by omega
  obtain ⟨k1, k2, k3⟩ := twos_spec (by omega : 0 < x - y) h7
  have hy0 : 0 < y := by omega
  have l : oddP (x - y) ≤ x - y := by conv => rhs; rw [k1]
                                      exact Nat.le_mul_of_pos_left _ (Nat.pow_pos (by omega))
  refine ⟨⟨k2, h2, by omega, h4, ?_, Nat.le_refl _⟩, by omega, by omega, h7⟩
  rw [← h5, ← gcd_strip (k := twos (x - y)) h2, ← k1, Nat.gcd_sub_self_left (Nat.le_of_lt hl)]
theorem GcdIn.done {a b x g : Nat} (ha0 : 0 < a) (ha : a < 2 ^ 256) (hb0 : 0 < b) (hb : b < 2 ^ 256) (h : GcdIn a b x x g) : 2 ^ min (twos a) (twos b) * x = Nat.gcd a b := by
  unfold GcdIn at h
  obtain ⟨h1, h2, h3⟩ := twos_spec ha0 ha
  obtain ⟨k1, k2, k3⟩ := twos_spec hb0 hb
  have e := gcd_twos (n := twos a) (m := twos b) h2 k2
  rw [← h1, ← k1, ← h.2.2.2.2.1, Nat.gcd_self] at e
  exact e.symm
theorem gcd_lt {a b : Nat} (ha0 : 0 < a) (ha : a < 2 ^ 256) : Nat.gcd a b < 2 ^ 256 := Nat.lt_of_le_of_lt (Nat.le_of_dvd ha0 (Nat.gcd_dvd_left a b)) ha
theorem tw_zero {x : Nat} (h : 2 * x < 2 ^ 256) : tw x 0 = 2 * x := by unfold tw; rw [Nat.add_zero, Nat.mod_eq_of_lt h]
theorem pow_part {i n x : Nat} (hi : i < n) : 2 * (2 ^ i * x) ≤ 2 ^ n * x := by
  have h := Nat.pow_le_pow_right (n := 2) (by omega) (by omega : i + 1 ≤ n)
  have h2 := Nat.mul_le_mul_right x h
  rw [Nat.pow_succ, Nat.mul_comm (2 ^ i) 2, Nat.mul_assoc] at h2
  exact h2
@[irreducible] def pwx (k x : Nat) : Nat := 2 ^ k * x
theorem pwx_zero (x : Nat) : pwx 0 x = x := by unfold pwx; simp
theorem pwx_next {i n x : Nat} (hi : i < n) (hl : pwx n x < 2 ^ 256) : pwx i x < 2 ^ 256 ∧ tw (pwx i x) 0 = pwx (i + 1) x := by
  unfold pwx at *
  have h := pow_part (x := x) hi
  have h2 : 2 * (2 ^ i * x) < 2 ^ 256 := Nat.lt_of_le_of_lt h hl
  refine ⟨by omega, ?_⟩
  rw [tw_zero h2, Nat.pow_succ, Nat.mul_comm (2 ^ i) 2, Nat.mul_assoc]
theorem GcdIn.pwx {a b x g : Nat} (ha0 : 0 < a) (ha : a < 2 ^ 256) (hb0 : 0 < b) (hb : b < 2 ^ 256) (h : GcdIn a b x x g) : Wd.pwx (min (twos a) (twos b)) x = Nat.gcd a b := by
  unfold Wd.pwx; exact h.done ha0 ha hb0 hb
end Go.Proofs.YthikaimhmpenhaaDoor.Wd
