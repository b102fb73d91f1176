/-
  Plain arithmetic of factors 2, of shifts of four words, and of the greatest common divisor; no program in sight.
  What odd and Gcd of package wide return, for all inputs.
  From the statements' arguments and listed tables to the walks' own words: for all laws of this seat.
  (Written by wip/pack.py out of XFOddM, XFWideG, XFFrame.)
-/
import Derived.Test.YthikaimhmpenhaaDoorK02
import Derived.Lib.TrailingZeros
import Derived.Test.YthikaimhmpenhaaDoorK04
import Derived.Laws.Bits64b
import Derived.Test.YthikaimhmpenhaaDoorK01
import Derived.Test.YthikaimhmpenhaaDoorCards
import Derived.Test.YthikaimhmpenhaaDoorTie
import Derived.ProofKit
import Derived.OpenShut
import Derived.Deep.DeepHandedRow
import Derived.Deep.Matrix
import Derived.Lib.LaidTab
import Derived.LaidSub

namespace Go.Proofs.YthikaimhmpenhaaDoor.Wd
set_option linter.all false
@[irreducible] def twos (a : Nat) : Nat := Lib.ctz 256 a
@[irreducible] def oddP (a : Nat) : Nat := a / 2 ^ twos a
theorem twos_spec {a : Nat} (h0 : 0 < a) (ha : a < 2 ^ 256) : a = 2 ^ twos a * oddP a ∧ oddP a % 2 = 1 ∧ twos a < 256 := by
  obtain ⟨m, hm, hk⟩ := Lib.ctzFrom_spec 256 a h0 ha
  have e : twos a = Lib.ctzFrom 256 a := by unfold twos Lib.ctz; rw [if_neg (by omega)]
  unfold oddP
  rw [e]
  have hp := Nat.pow_pos (n := Lib.ctzFrom 256 a) (by omega : 0 < 2)
  have hq : a / 2 ^ Lib.ctzFrom 256 a = 2 * m + 1 := by
    generalize 2 ^ Lib.ctzFrom 256 a = p at *
    rw [hm, Nat.mul_div_cancel_left _ hp]
  rw [hq]
  exact ⟨hm, by omega, hk⟩
theorem two_odd_unique : ∀ (j k m n : Nat), 2 ^ j * (2 * m + 1) = 2 ^ k * (2 * n + 1) → j = k ∧ m = n
  | 0, 0, m, n, h => by simp at h; omega
  | 0, k + 1, m, n, h => by rw [Nat.pow_succ, Nat.mul_comm (2 ^ k), Nat.mul_assoc] at h; omega
  | j + 1, 0, m, n, h => by rw [Nat.pow_succ, Nat.mul_comm (2 ^ j), Nat.mul_assoc] at h; omega
  | j + 1, k + 1, m, n, h => by
    rw [Nat.pow_succ, Nat.pow_succ, Nat.mul_comm (2 ^ j), Nat.mul_comm (2 ^ k), Nat.mul_assoc, Nat.mul_assoc] at h
    have := two_odd_unique j k m n (by omega)
    omega
theorem twos_of {a k o : Nat} (h0 : 0 < a) (ha : a < 2 ^ 256) (h : a = 2 ^ k * o) (ho : o % 2 = 1) : twos a = k ∧ oddP a = o := by
  obtain ⟨h1, h2, h3⟩ := twos_spec h0 ha
  have := two_odd_unique (twos a) k (oddP a / 2) (o / 2) (by
    rw [show 2 * (oddP a / 2) + 1 = oddP a by omega, show 2 * (o / 2) + 1 = o by omega, ← h1, h])
  omega
theorem shift_nat (x i k : Nat) (hk : k < 64) : x / 2 ^ k / 2 ^ (64 * i) % 18446744073709551616 = wn x i / 2 ^ k + (wn x (i + 1) * 2 ^ (64 - k)) % 18446744073709551616 ∧ wn x i / 2 ^ k < 2 ^ (64 - k) ∧ (wn x (i + 1) * 2 ^ (64 - k)) % 18446744073709551616 % 2 ^ (64 - k) = 0 := by
  have e : 18446744073709551616 = 2 ^ k * 2 ^ (64 - k) := by rw [← Nat.pow_add, show k + (64 - k) = 64 by omega]
  unfold wn
  rw [pow_next, Nat.div_div_eq_div_mul, Nat.mul_comm (2 ^ k), ← Nat.div_div_eq_div_mul, ← Nat.div_div_eq_div_mul x]
  generalize x / 2 ^ (64 * i) = y
  have hp := Nat.pow_pos (n := k) (by omega : 0 < 2)
  have hq := Nat.pow_pos (n := 64 - k) (by omega : 0 < 2)
  generalize 2 ^ k = p at *
  generalize 2 ^ (64 - k) = q at *
  rw [e]
  have h1 : y / (p * q) % (p * q) * q % (p * q) = y / (p * q) % p * q := by
    rw [Nat.mul_mod_mul_right, Nat.mod_mul_right_mod]
  rw [h1]
  refine ⟨?_, ?_, by rw [Nat.mul_mod_left]⟩
  · rw [Nat.mod_mul_right_div_self]
    conv => lhs; rw [Nat.mul_comm p q, Nat.mod_mul]
    rw [Nat.div_div_eq_div_mul]
    congr 1
    rw [Nat.mul_comm q]
  · rw [Nat.mod_mul_right_div_self]; exact Nat.mod_lt _ hq
theorem wd_shift (x i k : Nat) (hk : k < 64) : wd (x / 2 ^ k) i = bits .or .u64 (wd x i / 2 ^ k) (IntKind.u64.wrap (wd x (i + 1) * 2 ^ (64 - k))) := by
  obtain ⟨h1, h2, h3⟩ := shift_nat x i k hk
  have e1 : wd x i / 2 ^ k = ((wn x i / 2 ^ k : Nat) : Int) := by rw [wd_wn, Int.natCast_ediv, Int.natCast_pow]; rfl
  have e2 : IntKind.u64.wrap (wd x (i + 1) * 2 ^ (64 - k)) = ((wn x (i + 1) * 2 ^ (64 - k) % 18446744073709551616 : Nat) : Int) := by
    rw [wd_wn, IntKind.wrap_u64, Int.natCast_emod, Int.natCast_mul, Int.natCast_pow]; rfl
  have hl : wn x i / 2 ^ k < 18446744073709551616 := Nat.lt_of_le_of_lt (Nat.div_le_self _ _) (wn_lt x i)
  rw [e1, e2, u64_or_nat _ _ hl (Nat.mod_lt _ (by omega)), Nat.or_comm, nat_join (64 - k) _ _ h3 h2]
  unfold wd
  rw [h1, Nat.add_comm]
theorem wd_shift_top (x k : Nat) (hx : x < 2 ^ 256) (hk : k < 64) : wd (x / 2 ^ k) 3 = wd x 3 / 2 ^ k := by
  obtain ⟨h1, -, -⟩ := shift_nat x 3 k hk
  have e1 : wd x 3 / 2 ^ k = ((wn x 3 / 2 ^ k : Nat) : Int) := by rw [wd_wn, Int.natCast_ediv, Int.natCast_pow]; rfl
  have e2 : wn x (3 + 1) = 0 := wn_high _ _ hx
  rw [e1]
  unfold wd
  rw [h1, e2]; simp
theorem odd_parts {a j k : Nat} (h0 : 0 < a) (ha : a < 2 ^ 256) (hj : a % 2 ^ (64 * j) = 0) (hk : k = Lib.ctz 64 (wn a j)) (hw : wn a j ≠ 0) : twos a = 64 * j + k ∧ oddP a = a / 2 ^ (64 * j) / 2 ^ k ∧ k < 64 := by
  obtain ⟨m, hm, hk64⟩ := Lib.ctzFrom_spec 64 (wn a j) (by omega) (wn_lt a j)
  have ek : k = Lib.ctzFrom 64 (wn a j) := by rw [hk]; unfold Lib.ctz; rw [if_neg hw]
  rw [← ek] at hm hk64
  have hs := split_at a j
  rw [hj, hm, Nat.zero_add] at hs
  generalize a / 2 ^ (64 * j) / 18446744073709551616 = H at hs
  have e : 18446744073709551616 = 2 ^ k * (2 * 2 ^ (63 - k)) := by
    rw [← Nat.mul_assoc, Nat.mul_comm (2 ^ k) 2, Nat.mul_assoc, ← Nat.pow_add, show k + (63 - k) = 63 by omega]
  have hs2 : a = 2 ^ (64 * j + k) * (2 * (m + 2 ^ (63 - k) * H) + 1) := by
    rw [hs, e, Nat.pow_add]
    generalize 2 ^ (64 * j) = J
    generalize 2 ^ k = K
    generalize 2 ^ (63 - k) = M
    rw [Nat.mul_assoc J K]
    have e3 : K * (2 * m + 1) + K * (2 * M) * H = K * (2 * (m + M * H) + 1) := by
      rw [Nat.mul_assoc, ← Nat.mul_add, Nat.mul_add 2 m, Nat.mul_assoc 2 M]
      exact congrArg (K * ·) (by omega)
    rw [← e3]
  obtain ⟨h1, h2⟩ := twos_of h0 ha hs2 (by omega)
  refine ⟨h1, ?_, hk64⟩
  rw [h2, Nat.div_div_eq_div_mul, ← Nat.pow_add]
  conv => rhs; rw [hs2]
  rw [Nat.mul_div_cancel_left _ (Nat.pow_pos (by omega))]
@[irreducible] def dn (a j : Nat) : Nat := a / 2 ^ (64 * j)
@[irreducible] def Low0 (a j : Nat) : Prop := a % 2 ^ (64 * j) = 0
theorem dn_zero (a : Nat) : dn a 0 = a := by unfold dn; simp
theorem dn_word (a j i : Nat) : wd (dn a j) i = wd a (j + i) := by
  unfold dn wd
  rw [Nat.div_div_eq_div_mul, ← Nat.pow_add]; congr 4; omega
theorem dn_first (a j : Nat) : wd (dn a j) 0 = (wn a j : Int) := by rw [dn_word, wd_wn]; rfl
theorem dn_lt {a : Nat} (j : Nat) (ha : a < 2 ^ 256) : dn a j < 2 ^ 256 := by unfold dn; exact Nat.lt_of_le_of_lt (Nat.div_le_self _ _) ha
theorem Low0.start (a : Nat) : Low0 a 0 := by unfold Low0; simp [Nat.mod_one]
theorem Low0.next {a j : Nat} (h0 : 0 < a) (ha : a < 2 ^ 256) (hj : j ≤ 3) (h : Low0 a j) (hz : wn a j = 0) : Low0 a (j + 1) ∧ j + 1 ≤ 3 := by
  unfold Low0 at *
  have h1 : a % 2 ^ (64 * (j + 1)) = 0 := by rw [mod_next, h, hz]; simp
  refine ⟨h1, ?_⟩
  apply Nat.lt_of_not_le
  intro h4
  obtain rfl : j = 3 := by omega
  rw [show 64 * (3 + 1) = 256 from rfl, Nat.mod_eq_of_lt ha] at h1
  omega
theorem dn_odd {a j k : Nat} (h0 : 0 < a) (ha : a < 2 ^ 256) (hj : Low0 a j) (hk : k = Lib.ctz 64 (wn a j)) (hw : wn a j ≠ 0) : twos a = 64 * j + k ∧ oddP a = dn a j / 2 ^ k ∧ k < 64 := by
  unfold Low0 at hj
  unfold dn
  exact odd_parts h0 ha hj hk hw
theorem wd_above {x : Nat} (i : Nat) (hi : 4 ≤ i) (h : x < 2 ^ 256) : wd x i = 0 := by
  unfold wd
  rw [Nat.div_eq_of_lt (Nat.lt_of_lt_of_le h (Nat.pow_le_pow_right (by omega) (by omega)))]; rfl
end Go.Proofs.YthikaimhmpenhaaDoor.Wd

namespace Go.Proofs.YthikaimhmpenhaaDoor
set_option linter.all false
open Go Go.RowKit Wd
set_option maxRecDepth 100000
def Tab64 (w : World) : Prop := 0 < w.heap.size ∧ ∀ j, j < 64 → w.cell? ⟨0, j, none⟩ = some (.int .u8 (Lib.deBruijn64tab.getD j 0))
theorem Tab64.later {w w' : World} (h : Tab64 w) (hb : Below w.heap.size w w') : Tab64 w' := ⟨Nat.lt_of_lt_of_le h.1 hb.size, fun j hj => (hb.cell (p := ⟨0, j, none⟩) h.1).trans (h.2 j hj)⟩
theorem tz_key (x a : Nat) (hx : x < 18446744073709551616) (hx0 : x ≠ 0) (hlow : x &&& (18446744073709551616 - x) = a) :
    IntKind.u64.wrap (bits BinOp.and IntKind.u64 (x : Int) (IntKind.u64.wrap (-(x : Int))) * 285870213051353865) / 288230376151711744 = ((a * 285870213051353865 % 18446744073709551616 / 288230376151711744 : Nat) : Int) := by
  have e1 : IntKind.u64.wrap (-(x : Int)) = ((18446744073709551616 - x : Nat) : Int) := by rw [IntKind.wrap_u64]; omega
  rw [e1, u64_and_nat x _ hx (by omega), hlow, IntKind.wrap_u64]
  omega
set_option maxHeartbeats 1000000 in
theorem tz_core (x k idx : Nat) (w : World) (hx0 : ((x : Int) == 0) = false)
    (key : IntKind.u64.wrap (bits BinOp.and IntKind.u64 (x : Int) (IntKind.u64.wrap (-(x : Int))) * 285870213051353865) / 288230376151711744 = (idx : Int))
    (hi : idx < 64) (hk : k < 64) (hcell : w.cell? ⟨0, idx, none⟩ = some (.int .u8 k)) :
    Calls Tryd.prog 98 #[.int .u64 (x : Int)] w fun e w' => e = .returned (.int .i64 k) ∧ w' = w := by
  go_enter Tryd.func98, Tryd.ntmps98
  go_wp2_with (simp only [key])
  go_ret
  exact ⟨rfl, rfl⟩
theorem tz_any (x : Nat) (hx : x < 18446744073709551616) (hx0 : x ≠ 0) (w : World) (hT : Tab64 w) :
    Calls Tryd.prog 98 #[.int .u64 (x : Int)] w fun e w' => e = .returned (.int .i64 (Lib.ctz 64 x : Nat)) ∧ w' = w := by
  obtain ⟨hlow, hk⟩ := Lib.lowest_bit 64 x hx0 hx
  obtain ⟨hi, htab⟩ := Lib.deBruijn64_at _ hk
  have hcell := hT.2 _ hi
  rw [htab] at hcell
  exact tz_core x _ _ w (by simp; omega) (tz_key x _ hx hx0 hlow) hi hk hcell
def OddMem (w : World) (x : Nat) (wr : World) : Prop :=
  (∀ o, wr.cell? ⟨w.heap.size, o, none⟩ = (#[.int .u64 (wd (x) 0), .int .u64 (wd (x) 1), .int .u64 (wd (x) 2), .int .u64 (wd (x) 3)] : Array Value)[o]?) ∧ (∀ o, wr.cell? ⟨w.heap.size + 1, o, none⟩ = (#[.int .u64 0, .int .u64 0, .int .u64 0, .int .u64 0] : Array Value)[o]?)
  ∧ (∀ o, wr.frozen? ⟨w.heap.size, o, none⟩ = false) ∧ (∀ o, wr.frozen? ⟨w.heap.size + 1, o, none⟩ = false) ∧ w.heap.size + 1 < wr.heap.size ∧ Below w.heap.size w wr
set_option maxHeartbeats 2000000 in
theorem odd_any (a : Nat) (h0 : 0 < a) (ha : a < 2 ^ 256) (w : World) (hT : Tab64 w) :
    Calls Tryd.prog 88 #[(.agg #[.int .u64 (wd (a) 0), .int .u64 (wd (a) 1), .int .u64 (wd (a) 2), .int .u64 (wd (a) 3)])] w fun e w' => e = .returned (.tuple #[(.agg #[.int .u64 (wd (oddP a) 0), .int .u64 (wd (oddP a) 1), .int .u64 (wd (oddP a) 2), .int .u64 (wd (oddP a) 3)]), .int .i64 (twos a : Int)]) ∧ Below w.heap.size w w' := by
  have HA := Lib.hid ha
  have H0 := Lib.hid h0
  have HT := Lib.hid hT
  clear ha h0 hT
  go_enter Tryd.func88, Tryd.ntmps88
  go_wp2
  go_loopw [4] (fun n wr => ∃ j : Nat, j ≤ 3 ∧ n = .int .i64 (64 * (j : Int)) ∧ Low0 a j ∧ OddMem w (dn a j) wr) (fun n _ => (256 - intOf n).toNat)
  case atStart =>
    refine ⟨0, by omega, rfl, Low0.start a, ?_⟩
    rw [dn_zero]
    refine ⟨fun o => by simp [go_sem], fun o => by simp [go_sem], fun o => by simp [go_sem], fun o => by simp [go_sem], by simp, by go_grown⟩
  case round =>
    obtain ⟨j, hj, rfl, HL, HM⟩ := hrel
    have e0 := dn_first a j
    have HM0 := Lib.hid HM
    obtain ⟨c0, c1, f0, f1, hz, hb⟩ := HM
    by_cases hw : wn a j = 0
    · have hd : wd (dn a j) 0 = 0 := by rw [e0, hw]; rfl
      obtain ⟨HL', hj'⟩ := HL.next H0.out HA.out hj hw
      clear e0
      have HW := Lib.hid hw
      clear hw
      go_wp2
      go_roundw
      case rel =>
        refine ⟨j + 1, hj', by go_num, HL', ?_⟩
        have x0 : wd (dn a (j + 1)) 0 = wd (dn a j) 1 := by rw [dn_word, dn_word]
        have x1 : wd (dn a (j + 1)) 1 = wd (dn a j) 2 := by rw [dn_word, dn_word]
        have x2 : wd (dn a (j + 1)) 2 = wd (dn a j) 3 := by rw [dn_word, dn_word]
        have x3 : wd (dn a (j + 1)) 3 = 0 := by rw [dn_word]; exact wd_above _ (by omega) HA.out
        unfold OddMem
        rw [x0, x1, x2, x3]
        refine ⟨set_at (set_at (set_at (set_at c0))), set_far (by omega) (set_far (by omega) (set_far (by omega) (set_far (by omega) c1))), fun o => by simp [f0], fun o => by simp [f1], by simpa using hz, by (repeat' first | (with_reducible first | exact Bq0 | assumption | refine Bq1 ?_ | refine Bq2 ?_ | refine Bq3 ?_ ?_ | refine Bq4 ?_ (by assumption)) | go_size)⟩
      case measure => simp [intOf]; omega
    · have hd : (wd (dn a j) 0 == 0) = false := by rw [e0]; simp; omega
      have HZ := tz_any (wn a j) (wn_lt a j) hw wr (HT.out.later hb)
      obtain ⟨k, hk⟩ : ∃ k, k = Lib.ctz 64 (wn a j) := ⟨_, rfl⟩
      obtain ⟨k1, k2, k3⟩ := dn_odd H0.out HA.out HL hk hw
      rw [← hk, ← e0] at HZ
      have KZ := Lib.hid HZ
      have K1 := Lib.hid k1
      have K2 := Lib.hid k2
      have hy := Lib.hid (dn_lt j HA.out)
      clear k1 k2 hk hw HL HZ e0
      generalize dn a j = y at *
      have m1 : min k 64 = k := by omega
      have m2 : min (64 - k) 64 = 64 - k := by omega
      have m3 : (64 - (k : Int)).toNat = 64 - k := by omega
      have m4 : (0 : Int) ≤ 64 - (k : Int) := by omega
      go_wp2_with fail
      ((with_reducible refine (KZ.out).mono ?_); rintro e w1 ⟨rfl, rfl⟩)
      go_wp2
      refine wp_loop_rounds 5 ?_
      rw [rounds_succ]; go_upto_region 11 with (fail)
      refine wp_world (fun x => (∀ o, x.cell? ⟨w.heap.size, o, none⟩ = (#[.int .u64 (wd y 0 / 2 ^ k), .int .u64 (wd y 1), .int .u64 (wd y 2), .int .u64 (wd y 3)] : Array Value)[o]?) ∧ (∀ o, x.cell? ⟨w.heap.size + 1, o, none⟩ = (#[.int .u64 0, .int .u64 0, .int .u64 0, .int .u64 0] : Array Value)[o]?) ∧ (∀ o, x.frozen? ⟨w.heap.size, o, none⟩ = false) ∧ (∀ o, x.frozen? ⟨w.heap.size + 1, o, none⟩ = false) ∧ w.heap.size < x.heap.size ∧ w.heap.size + 1 < x.heap.size ∧ Below w.heap.size w x) ⟨set_at c0, fun o => by simp [go_sem, c0, c1, f0, f1, hz], fun o => by simp [go_sem, c0, c1, f0, f1, hz], fun o => by simp [go_sem, c0, c1, f0, f1, hz], by (first | omega | (simp [go_sem, c0, c1, f0, f1, hz]; done) | (simp [go_sem, c0, c1, f0, f1, hz]; omega)), by (first | omega | (simp [go_sem, c0, c1, f0, f1, hz]; done) | (simp [go_sem, c0, c1, f0, f1, hz]; omega)), by (repeat' first | (with_reducible first | exact Bq0 | assumption | refine Bq1 ?_ | refine Bq2 ?_ | refine Bq3 ?_ ?_ | refine Bq4 ?_ (by assumption)) | go_size)⟩ ?_
      rintro A ⟨hAc0, hAc1, hAf0, hAf1, hAz0, hAz1, hAb⟩
      clear c0 c1 f0 f1 hz hb
      go_region; go_wp2
      rw [rounds_succ]; go_upto_region 11 with (fail)
      refine wp_world (fun x => (∀ o, x.cell? ⟨w.heap.size, o, none⟩ = (#[.int .u64 (bits .or .u64 (wd y 0 / 2 ^ k) (IntKind.u64.wrap (wd y 1 * 2 ^ (64 - k)))), .int .u64 (wd y 1 / 2 ^ k), .int .u64 (wd y 2), .int .u64 (wd y 3)] : Array Value)[o]?) ∧ (∀ o, x.cell? ⟨w.heap.size + 1, o, none⟩ = (#[.int .u64 0, .int .u64 0, .int .u64 0, .int .u64 0] : Array Value)[o]?) ∧ (∀ o, x.frozen? ⟨w.heap.size, o, none⟩ = false) ∧ (∀ o, x.frozen? ⟨w.heap.size + 1, o, none⟩ = false) ∧ w.heap.size < x.heap.size ∧ w.heap.size + 1 < x.heap.size ∧ Below w.heap.size w x) ⟨set_at (set_at hAc0), fun o => by simp [go_sem, hAc0, hAc1, hAf0, hAf1, hAz0, hAz1], fun o => by simp [go_sem, hAc0, hAc1, hAf0, hAf1, hAz0, hAz1], fun o => by simp [go_sem, hAc0, hAc1, hAf0, hAf1, hAz0, hAz1], by (first | omega | (simp [go_sem, hAc0, hAc1, hAf0, hAf1, hAz0, hAz1]; done) | (simp [go_sem, hAc0, hAc1, hAf0, hAf1, hAz0, hAz1]; omega)), by (first | omega | (simp [go_sem, hAc0, hAc1, hAf0, hAf1, hAz0, hAz1]; done) | (simp [go_sem, hAc0, hAc1, hAf0, hAf1, hAz0, hAz1]; omega)), by (repeat' first | (with_reducible first | exact Bq0 | assumption | refine Bq1 ?_ | refine Bq2 ?_ | refine Bq3 ?_ ?_ | refine Bq4 ?_ (by assumption)) | go_size)⟩ ?_
      rintro B ⟨hBc0, hBc1, hBf0, hBf1, hBz0, hBz1, hBb⟩
      clear hAc0 hAc1 hAf0 hAf1 hAz0 hAz1
      go_region; go_wp2
      rw [rounds_succ]; go_upto_region 11 with (fail)
      refine wp_world (fun x => (∀ o, x.cell? ⟨w.heap.size, o, none⟩ = (#[.int .u64 (bits .or .u64 (wd y 0 / 2 ^ k) (IntKind.u64.wrap (wd y 1 * 2 ^ (64 - k)))), .int .u64 (bits .or .u64 (wd y 1 / 2 ^ k) (IntKind.u64.wrap (wd y 2 * 2 ^ (64 - k)))), .int .u64 (wd y 2 / 2 ^ k), .int .u64 (wd y 3)] : Array Value)[o]?) ∧ (∀ o, x.cell? ⟨w.heap.size + 1, o, none⟩ = (#[.int .u64 0, .int .u64 0, .int .u64 0, .int .u64 0] : Array Value)[o]?) ∧ (∀ o, x.frozen? ⟨w.heap.size, o, none⟩ = false) ∧ (∀ o, x.frozen? ⟨w.heap.size + 1, o, none⟩ = false) ∧ w.heap.size < x.heap.size ∧ w.heap.size + 1 < x.heap.size ∧ Below w.heap.size w x) ⟨set_at (set_at hBc0), fun o => by simp [go_sem, hBc0, hBc1, hBf0, hBf1, hBz0, hBz1], fun o => by simp [go_sem, hBc0, hBc1, hBf0, hBf1, hBz0, hBz1], fun o => by simp [go_sem, hBc0, hBc1, hBf0, hBf1, hBz0, hBz1], by (first | omega | (simp [go_sem, hBc0, hBc1, hBf0, hBf1, hBz0, hBz1]; done) | (simp [go_sem, hBc0, hBc1, hBf0, hBf1, hBz0, hBz1]; omega)), by (first | omega | (simp [go_sem, hBc0, hBc1, hBf0, hBf1, hBz0, hBz1]; done) | (simp [go_sem, hBc0, hBc1, hBf0, hBf1, hBz0, hBz1]; omega)), by (repeat' first | (with_reducible first | exact Bq0 | assumption | refine Bq1 ?_ | refine Bq2 ?_ | refine Bq3 ?_ ?_ | refine Bq4 ?_ (by assumption)) | go_size)⟩ ?_
      rintro C ⟨hCc0, hCc1, hCf0, hCf1, hCz0, hCz1, hCb⟩
      clear hBc0 hBc1 hBf0 hBf1 hBz0 hBz1
      go_region; go_wp2
      rw [rounds_succ]; go_wp2
      rw [rounds_succ]
      go_wp2_with ((with_reducible show bodyPost _ _ _ _ _ _); refine bodyPost_ret (by simp [results, Tryd.results88, go_sem, hCc0, hCc1, hCf0, hCf1, hCz0, hCz1]; try rfl) rfl ?_; exact ⟨by rw [K1.out, K2.out, wd_shift y 0 k k3, wd_shift y 1 k k3, wd_shift y 2 k k3, wd_shift_top y k hy.out k3, Int.natCast_add, Int.natCast_mul]; rfl, by (repeat' first | (with_reducible first | exact Bq0 | assumption | refine Bq1 ?_ | refine Bq2 ?_ | refine Bq3 ?_ ?_ | refine Bq4 ?_ (by assumption)) | go_size)⟩)
end Go.Proofs.YthikaimhmpenhaaDoor
namespace Go.Proofs.YthikaimhmpenhaaDoor
set_option linter.all false
open Go Go.RowKit Go.ChangeShapes Go.WideShapes Go.ChangeAt Go.Deep Wd
set_option maxRecDepth 100000
theorem own : ownKnob Tryd.prog.godebug = none := by kernel_rfl
theorem cells_int : Tryd.prog.cellsOf 3 = 1 := by kernel_rfl
theorem cells_ints : Tryd.prog.cellsOf 22 = 1 := by kernel_rfl
theorem cells_rows : Tryd.prog.cellsOf 23 = 1 := by kernel_rfl
theorem cells_form : Tryd.prog.cellsOf 25 = 3 := by kernel_rfl
theorem under_form : ∃ fs : Array Field, Tryd.prog.underlying 25 = some (.struct fs) ∧ fs.size = 3 ∧ (∃ f0, fs[0]? = some f0 ∧ f0.offset = 0 ∧ f0.type = 22) ∧ (∃ f1, fs[1]? = some f1 ∧ f1.offset = 1 ∧ f1.type = 22) ∧ (∃ f2, fs[2]? = some f2 ∧ f2.offset = 2 ∧ f2.type = 23) :=
  ⟨_, Tryd.underlying25, rfl, ⟨_, rfl, rfl, rfl⟩, ⟨_, rfl, rfl, rfl⟩, ⟨_, rfl, rfl, rfl⟩⟩
theorem cell_lt {w : World} {b o : Nat} {v : Value} (h : w.cell? ⟨b, o, none⟩ = some v) : b < w.heap.size := by
  rcases Nat.lt_or_ge b w.heap.size with h1 | h1
  · exact h1
  · unfold World.cell? at h
    rw [Array.getElem?_eq_none h1] at h
    simp at h
theorem ix_getD (l : List Int) (j : Nat) : ix l j = l.getD j 0 := by
  unfold ix
  rcases Nat.lt_or_ge j l.length with h | h
  · simp [h]
  · simp [h]
theorem has_of {w : World} {a : Addr} {zs : List Int} {len : Nat} (hl : len ≤ zs.length) (h : ∀ i, i < zs.length → w.cell? (a.add i) = some (.int .i64 (zs.getD i 0))) : Has w (some a) (zs.take len) := by
  intro h0
  have hz : 0 < zs.length := by simp at h0; omega
  obtain ⟨b, o, sp⟩ := a
  have hs : sp = none := by simpa [Addr.add] using World.cell?_spot (h 0 hz)
  subst hs
  refine ⟨b, o, rfl, ?_, fun j hj => ?_⟩
  · have h1 := h 0 hz
    rw [add_plain] at h1
    exact cell_lt h1
  · have hj' : j < len := by simp at hj; omega
    have h1 := h j (by omega)
    rw [add_plain] at h1
    rw [h1, ix_getD]
    congr 2
    simp [List.getD, hj']
theorem open_list {H : Type} {enc : TypeId × Value → H} {W : World} {base fuel : Nat} {held : Bool} {cs : List Value} {x : DataW H × List MemPlace}
    (h : DataW.trod enc Tryd.prog W base (fun _ => true) held fuel 22 cs = some x) :
    ∃ (a : Option Addr) (c : Nat) (l : List Int), cs = [.slice a l.length c] ∧ l.length ≤ c ∧ c ≤ maxLen ∧ Has W a l := by
  rcases open_ints Tryd.underlying22 Tryd.underlying3 cells_int h with ⟨rfl, -⟩ | ⟨a, len, cap, zs, rfl, -, hl, hm, hz, -, hc, -⟩
  · exact ⟨none, 0, [], rfl, Nat.le_refl _, Nat.zero_le _, fun h0 => by simp at h0⟩
  · simp only [if_true] at hz
    refine ⟨some a, cap, zs.take len, ?_, ?_, hm, has_of (by omega) hc⟩
    · rw [List.length_take, Nat.min_eq_left (by omega)]
    · rw [List.length_take]; omega
theorem open_rows {H : Type} {enc : TypeId × Value → H} {W : World} {base fuel : Nat} {held : Bool} {cs : List Value} {x : DataW H × List MemPlace}
    (h : DataW.trod enc Tryd.prog W base (fun _ => true) held fuel 23 cs = some x) :
    ∃ (a : Option Addr) (c : Nat) (A : Nat → Option Addr) (C : Nat → Nat) (l : List (List Int)), cs = [.slice a l.length c] ∧ l.length ≤ c ∧ c ≤ maxLen ∧ HasRws W a A C l := by
  rcases open_int_rows Tryd.underlying23 Tryd.underlying22 Tryd.underlying3 cells_ints cells_int h with ⟨rfl, -⟩ | ⟨a, len, cap, A, L, C, Z, rfl, -, hl, hm, -, hr⟩
  · exact ⟨none, 0, fun _ => none, fun _ => 0, [], rfl, Nat.le_refl _, Nat.zero_le _, fun h0 => by simp at h0⟩
  · refine ⟨some a, cap, A, C, (List.range len).map fun r => (Z r).take (L r), by simp, by simp; omega, hm, fun h0 => ?_⟩
    have h0' : 0 < len := by simpa using h0
    have e : ∀ i, i < len → row ((List.range len).map fun r => (Z r).take (L r)) i = (Z i).take (L i) := fun i hi => by rw [row_get (by simpa using hi)]; simp
    obtain ⟨b, o, sp⟩ := a
    have hs : sp = none := by simpa [Addr.add] using World.cell?_spot (hr 0 (by omega)).1
    subst hs
    refine ⟨b, o, rfl, ?_, fun i hi => ?_, fun i hi => ?_⟩
    · have h1 := (hr 0 (by omega)).1
      rw [add_plain] at h1
      exact cell_lt h1
    · have hi' : i < len := by simpa using hi
      obtain ⟨h1, h2, h3, h4, -⟩ := hr i (by omega)
      rw [add_plain] at h1
      rw [h1, e i hi', List.length_take, Nat.min_eq_left (by omega)]
    · have hi' : i < len := by simpa using hi
      obtain ⟨h1, h2, h3, h4, h5, h6, h7⟩ := hr i (by omega)
      rw [e i hi']
      cases hA : A i with
      | none => intro h8; have h9 := h6 hA; simp at h8; omega
      | some a' => exact has_of (by omega) (fun c hc => (h7 a' hA).2 c (by omega))
theorem open_form {H : Type} {enc : TypeId × Value → H} {W : World} {base : Nat} {held : Bool} {v : Value} {d : DataW H} {p : List MemPlace}
    (hval : Value.okWide Tryd.prog W .any base 25 v) (h : DataW.Trod enc Tryd.prog W 0 (fun _ => true) held 25 v d p) :
    ∃ (ax az ah : Option Addr) (cx cz ch : Nat) (A : Nat → Option Addr) (C : Nat → Nat) (X Z : List Int) (Hf : List (List Int)), v = .agg #[.slice ax X.length cx, .slice az Z.length cz, .slice ah Hf.length ch] ∧
      X.length ≤ 9223372036854775807 ∧ Z.length ≤ 9223372036854775807 ∧ Frm W ax az ah A C X Z Hf := by
  obtain ⟨fs, hfs, hsz, ⟨f0, e0, o0, t0⟩, ⟨f1, e1, o1, t1⟩, ⟨f2, e2, o2, t2⟩⟩ := under_form
  obtain ⟨cs, rfl, hcs⟩ := okWide_struct hfs hval
  rw [cells_form] at hcs
  obtain ⟨fuel, hf⟩ := h
  obtain ⟨xs, n, -, -, -, hxs, hall⟩ := DataW.trod_struct hfs hf
  obtain ⟨cs⟩ := cs
  match cs, hcs with
  | [c0, c1, c2], _ =>
    have g0 := hall 0 f0 e0
    have g1 := hall 1 f1 e1
    have g2 := hall 2 f2 e2
    rw [o0, t0, cells_ints, List.getElem?_eq_getElem (by omega)] at g0
    rw [o1, t1, cells_ints, List.getElem?_eq_getElem (by omega)] at g1
    rw [o2, t2, cells_rows, List.getElem?_eq_getElem (by omega)] at g2
    obtain ⟨ax, cx, X, k0, l0, m0, h0⟩ := open_list g0
    obtain ⟨az, cz, Z, k1, l1, m1, h1⟩ := open_list g1
    obtain ⟨ah, ch, A, C, Hf, k2, l2, m2, h2⟩ := open_rows g2
    have hmax : maxLen = 9223372036854775807 := by decide
    simp [Value.cells] at k0 k1 k2
    subst k0 k1 k2
    exact ⟨ax, az, ah, cx, cz, ch, A, C, X, Z, Hf, rfl, by omega, by omega, h0, h1, h2⟩
def laids : List (String × DataW Unit) := [("math/bits.deBruijn64tab", Rows.laid_math_bits_deBruijn64tab)]
theorem type64 : (Tryd.prog.globals[0]?).map (·.type) = some 149 := by kernel_rfl
theorem name64 : Tryd.prog.globalNamed "math/bits.deBruijn64tab" = some 0 := by kernel_rfl
theorem cells_8 : Tryd.prog.cellsOf 5 = 1 := by kernel_rfl
theorem cells_64 : Tryd.prog.cellsOf 149 = 64 := by kernel_rfl
theorem under_64 : Tryd.prog.underlying 149 = some (.array 64 5) := by kernel_rfl
theorem only64 : (laids.filter fun x => x.2.handleName?.isNone).filter (fun x => x.1 == "math/bits.deBruijn64tab") = [("math/bits.deBruijn64tab", Lib.tabData .u8 (Lib.deBruijn64tab.map Int.ofNat))] := by kernel_rfl
theorem tab_of_laid {W : World} (h : laidMetH Tryd.prog laids W) : Tab64 W := by
  obtain ⟨h1, -⟩ := laidMetH_iff.1 h
  have h2 := h1.filter (fun x => x.1 == "math/bits.deBruijn64tab")
  rw [only64] at h2
  have t64 := Lib.tabIs_of_head (rest := []) name64 type64 under_64 Tryd.underlying5 cells_8 cells_64 h2
  refine ⟨cell_lt (t64.cell name64 0 (by decide)), fun j hj => ?_⟩
  have hl : j < (Lib.deBruijn64tab.map Int.ofNat).length := by simpa [Lib.deBruijn64tab] using hj
  rw [t64.cell name64 j hl]
  have hl2 : j < Lib.deBruijn64tab.length := by simpa using hl
  simp [List.getD, hl2]
def lits1 : DataW Unit → List Value
  | .agg l => l.map fun | .lit (.int k n) => .int k n | _ => .nilFunc
  | _ => []
def putBlock (g : Nat) (cs : List Value) (w : World) : World := { w with heap := w.heap.modify g fun
      | .cells _ t frozen => .cells cs.toArray t frozen
      | o => o }
noncomputable def laidWorld (os : Os) : World :=
  putBlock 0 (lits1 Rows.laid_math_bits_deBruijn64tab) (World.holding Tryd.prog os ⟨#[], #[], []⟩)
theorem laid_out : laidOutB Tryd.prog = true := by kernel_rfl
theorem open_int64 {w : World} {base : Nat} {v : Value} (h : Value.okWide Tryd.prog w .any base 3 v) : ∃ n : Int, -9223372036854775808 ≤ n ∧ n ≤ 9223372036854775807 ∧ v = .int .i64 n := by
  simp only [Value.okWide, Cell.okWide, Cell.ok, Tryd.underlying3] at h
  cases v <;> simp_all
  rename_i k n
  obtain ⟨rfl, h2⟩ := h
  simp [IntKind.has, IntKind.min, IntKind.max, IntKind.signed, IntKind.bits] at h2
  exact ⟨h2.1, h2.2⟩
end Go.Proofs.YthikaimhmpenhaaDoor
