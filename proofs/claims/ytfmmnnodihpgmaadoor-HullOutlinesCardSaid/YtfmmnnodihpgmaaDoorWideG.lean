/-
  What odd and Gcd of package wide return, for all inputs.
-/
import Derived.Test.YtfmmnnodihpgmaaDoorWideF
import Derived.Test.YtfmmnnodihpgmaaDoorOddM
import Derived.Laws.Bits64b
namespace Go.Proofs.YtfmmnnodihpgmaaDoor
set_option linter.all false
open Go Go.RowKit Wd
set_option maxRecDepth 100000
/-- The table of math/bits by which TrailingZeros64 looks up. -/
def Tab64 (w : World) : Prop := 0 < w.heap.size ∧ ∀ j, j < 64 → w.cell? ⟨0, j, none⟩ = some (.int .u8 (Lib.deBruijn64tab.getD j 0))
theorem Tab64.later {w w' : World} (h : Tab64 w) (hb : Below w.heap.size w w') : Tab64 w' := ⟨Nat.lt_of_lt_of_le h.1 hb.size, fun j hj => (hb.cell (p := ⟨0, j, none⟩) h.1).trans (h.2 j hj)⟩
theorem tz_key (x a : Nat) (hx : x < 18446744073709551616) (hx0 : x ≠ 0) (hlow : x &&& (18446744073709551616 - x) = a) :
    IntKind.u64.wrap (bits BinOp.and IntKind.u64 (x : Int) (IntKind.u64.wrap (-(x : Int))) * 285870213051353865) / 288230376151711744 = ((a * 285870213051353865 % 18446744073709551616 / 288230376151711744 : Nat) : Int) := by
  have e1 : IntKind.u64.wrap (-(x : Int)) = ((18446744073709551616 - x : Nat) : Int) := by rw [IntKind.wrap_u64]; omega
  rw [e1, u64_and_nat x _ hx (by omega), hlow, IntKind.wrap_u64]
  omega
set_option maxHeartbeats 1000000 in
theorem tz_core (x k idx : Nat) (w : World) (hx0 : ((x : Int) == 0) = false)
    (key : IntKind.u64.wrap (bits BinOp.and IntKind.u64 (x : Int) (IntKind.u64.wrap (-(x : Int))) * 285870213051353865) / 288230376151711744 = (idx : Int))
    (hi : idx < 64) (hk : k < 64) (hcell : w.cell? ⟨0, idx, none⟩ = some (.int .u8 k)) :
    Calls Tryd.prog 105 #[.int .u64 (x : Int)] w fun e w' => e = .returned (.int .i64 k) ∧ w' = w := by
  go_enter Tryd.func105, Tryd.ntmps105
  go_wp2_with (simp only [key])
  go_ret
  exact ⟨rfl, rfl⟩
theorem tz_any (x : Nat) (hx : x < 18446744073709551616) (hx0 : x ≠ 0) (w : World) (hT : Tab64 w) :
    Calls Tryd.prog 105 #[.int .u64 (x : Int)] w fun e w' => e = .returned (.int .i64 (Lib.ctz 64 x : Nat)) ∧ w' = w := by
  obtain ⟨hlow, hk⟩ := Lib.lowest_bit 64 x hx0 hx
  obtain ⟨hi, htab⟩ := Lib.deBruijn64_at _ hk
  have hcell := hT.2 _ hi
  rw [htab] at hcell
  exact tz_core x _ _ w (by simp; omega) (tz_key x _ hx hx0 hlow) hi hk hcell
/-- The call's own memory while it takes out the words that are 0. -/
def OddMem (w : World) (x : Nat) (wr : World) : Prop :=
  (∀ o, wr.cell? ⟨w.heap.size, o, none⟩ = (#[.int .u64 (wd (x) 0), .int .u64 (wd (x) 1), .int .u64 (wd (x) 2), .int .u64 (wd (x) 3)] : Array Value)[o]?) ∧ (∀ o, wr.cell? ⟨w.heap.size + 1, o, none⟩ = (#[.int .u64 0, .int .u64 0, .int .u64 0, .int .u64 0] : Array Value)[o]?)
  ∧ (∀ o, wr.frozen? ⟨w.heap.size, o, none⟩ = false) ∧ (∀ o, wr.frozen? ⟨w.heap.size + 1, o, none⟩ = false) ∧ w.heap.size + 1 < wr.heap.size ∧ Below w.heap.size w wr
set_option maxHeartbeats 2000000 in
theorem odd_any (a : Nat) (h0 : 0 < a) (ha : a < 2 ^ 256) (w : World) (hT : Tab64 w) :
    Calls Tryd.prog 91 #[(.agg #[.int .u64 (wd (a) 0), .int .u64 (wd (a) 1), .int .u64 (wd (a) 2), .int .u64 (wd (a) 3)])] w fun e w' => e = .returned (.tuple #[(.agg #[.int .u64 (wd (oddP a) 0), .int .u64 (wd (oddP a) 1), .int .u64 (wd (oddP a) 2), .int .u64 (wd (oddP a) 3)]), .int .i64 (twos a : Int)]) ∧ Below w.heap.size w w' := by
  have HA := Lib.hid ha
  have H0 := Lib.hid h0
  have HT := Lib.hid hT
  clear ha h0 hT
  go_enter Tryd.func91, Tryd.ntmps91
  go_wp2
  go_loopw [4] (fun n wr => ∃ j : Nat, j ≤ 3 ∧ n = .int .i64 (64 * (j : Int)) ∧ Low0 a j ∧ OddMem w (dn a j) wr) (fun n _ => (256 - intOf n).toNat)
  case atStart =>
    refine ⟨0, by omega, rfl, Low0.start a, ?_⟩
    rw [dn_zero]
    refine ⟨fun o => by simp [go_sem], fun o => by simp [go_sem], fun o => by simp [go_sem], fun o => by simp [go_sem], by simp, by go_grown⟩
  case round =>
    obtain ⟨j, hj, rfl, HL, HM⟩ := hrel
    have e0 := dn_first a j
    have HM0 := Lib.hid HM
    obtain ⟨c0, c1, f0, f1, hz, hb⟩ := HM
    by_cases hw : wn a j = 0
    · have hd : wd (dn a j) 0 = 0 := by rw [e0, hw]; rfl
      obtain ⟨HL', hj'⟩ := HL.next H0.out HA.out hj hw
      clear e0
      have HW := Lib.hid hw
      clear hw
      go_wp2
      go_roundw
      case rel =>
        refine ⟨j + 1, hj', by go_num, HL', ?_⟩
        have x0 : wd (dn a (j + 1)) 0 = wd (dn a j) 1 := by rw [dn_word, dn_word]
        have x1 : wd (dn a (j + 1)) 1 = wd (dn a j) 2 := by rw [dn_word, dn_word]
        have x2 : wd (dn a (j + 1)) 2 = wd (dn a j) 3 := by rw [dn_word, dn_word]
        have x3 : wd (dn a (j + 1)) 3 = 0 := by rw [dn_word]; exact wd_above _ (by omega) HA.out
        unfold OddMem
        rw [x0, x1, x2, x3]
        refine ⟨set_at (set_at (set_at (set_at c0))), set_far (by omega) (set_far (by omega) (set_far (by omega) (set_far (by omega) c1))), fun o => by simp [f0], fun o => by simp [f1], by simpa using hz, by (repeat' (first | (with_reducible exact Below.refl _ _) | (with_reducible assumption) | (with_reducible refine below_alloc ?_ _) | (with_reducible refine Below.drew ?_) | (with_reducible refine Below.setCell ?_ ?_ _) | (with_reducible refine below_after ?_ (by assumption)) | go_size))⟩
      case measure => simp [intOf]; omega
    · have hd : (wd (dn a j) 0 == 0) = false := by rw [e0]; simp; omega
      have HZ := tz_any (wn a j) (wn_lt a j) hw wr (HT.out.later hb)
      obtain ⟨k, hk⟩ : ∃ k, k = Lib.ctz 64 (wn a j) := ⟨_, rfl⟩
      obtain ⟨k1, k2, k3⟩ := dn_odd H0.out HA.out HL hk hw
      rw [← hk, ← e0] at HZ
      have KZ := Lib.hid HZ
      have K1 := Lib.hid k1
      have K2 := Lib.hid k2
      have hy := Lib.hid (dn_lt j HA.out)
      clear k1 k2 hk hw HL HZ e0
      generalize dn a j = y at *
      have m1 : min k 64 = k := by omega
      have m2 : min (64 - k) 64 = 64 - k := by omega
      have m3 : (64 - (k : Int)).toNat = 64 - k := by omega
      have m4 : (0 : Int) ≤ 64 - (k : Int) := by omega
      go_wp2_with fail
      ((with_reducible refine (KZ.out).mono ?_); rintro e w1 ⟨rfl, rfl⟩)
      go_wp2
      refine wp_loop_rounds 5 ?_
      rw [rounds_succ]; go_upto_region 11 with (fail)
      refine wp_world (fun x => (∀ o, x.cell? ⟨w.heap.size, o, none⟩ = (#[.int .u64 (wd y 0 / 2 ^ k), .int .u64 (wd y 1), .int .u64 (wd y 2), .int .u64 (wd y 3)] : Array Value)[o]?) ∧ (∀ o, x.cell? ⟨w.heap.size + 1, o, none⟩ = (#[.int .u64 0, .int .u64 0, .int .u64 0, .int .u64 0] : Array Value)[o]?) ∧ (∀ o, x.frozen? ⟨w.heap.size, o, none⟩ = false) ∧ (∀ o, x.frozen? ⟨w.heap.size + 1, o, none⟩ = false) ∧ w.heap.size < x.heap.size ∧ w.heap.size + 1 < x.heap.size ∧ Below w.heap.size w x) ⟨set_at c0, fun o => by simp [go_sem, c0, c1, f0, f1, hz], fun o => by simp [go_sem, c0, c1, f0, f1, hz], fun o => by simp [go_sem, c0, c1, f0, f1, hz], by (first | omega | (simp [go_sem, c0, c1, f0, f1, hz]; done) | (simp [go_sem, c0, c1, f0, f1, hz]; omega)), by (first | omega | (simp [go_sem, c0, c1, f0, f1, hz]; done) | (simp [go_sem, c0, c1, f0, f1, hz]; omega)), by (repeat' (first | (with_reducible exact Below.refl _ _) | (with_reducible assumption) | (with_reducible refine below_alloc ?_ _) | (with_reducible refine Below.drew ?_) | (with_reducible refine Below.setCell ?_ ?_ _) | (with_reducible refine below_after ?_ (by assumption)) | go_size))⟩ ?_
      rintro A ⟨hAc0, hAc1, hAf0, hAf1, hAz0, hAz1, hAb⟩
      clear c0 c1 f0 f1 hz hb
      go_region; go_wp2
      rw [rounds_succ]; go_upto_region 11 with (fail)
      refine wp_world (fun x => (∀ o, x.cell? ⟨w.heap.size, o, none⟩ = (#[.int .u64 (bits .or .u64 (wd y 0 / 2 ^ k) (IntKind.u64.wrap (wd y 1 * 2 ^ (64 - k)))), .int .u64 (wd y 1 / 2 ^ k), .int .u64 (wd y 2), .int .u64 (wd y 3)] : Array Value)[o]?) ∧ (∀ o, x.cell? ⟨w.heap.size + 1, o, none⟩ = (#[.int .u64 0, .int .u64 0, .int .u64 0, .int .u64 0] : Array Value)[o]?) ∧ (∀ o, x.frozen? ⟨w.heap.size, o, none⟩ = false) ∧ (∀ o, x.frozen? ⟨w.heap.size + 1, o, none⟩ = false) ∧ w.heap.size < x.heap.size ∧ w.heap.size + 1 < x.heap.size ∧ Below w.heap.size w x) ⟨set_at (set_at hAc0), fun o => by simp [go_sem, hAc0, hAc1, hAf0, hAf1, hAz0, hAz1], fun o => by simp [go_sem, hAc0, hAc1, hAf0, hAf1, hAz0, hAz1], fun o => by simp [go_sem, hAc0, hAc1, hAf0, hAf1, hAz0, hAz1], by (first | omega | (simp [go_sem, hAc0, hAc1, hAf0, hAf1, hAz0, hAz1]; done) | (simp [go_sem, hAc0, hAc1, hAf0, hAf1, hAz0, hAz1]; omega)), by (first | omega | (simp [go_sem, hAc0, hAc1, hAf0, hAf1, hAz0, hAz1]; done) | (simp [go_sem, hAc0, hAc1, hAf0, hAf1, hAz0, hAz1]; omega)), by (repeat' (first | (with_reducible exact Below.refl _ _) | (with_reducible assumption) | (with_reducible refine below_alloc ?_ _) | (with_reducible refine Below.drew ?_) | (with_reducible refine Below.setCell ?_ ?_ _) | (with_reducible refine below_after ?_ (by assumption)) | go_size))⟩ ?_
      rintro B ⟨hBc0, hBc1, hBf0, hBf1, hBz0, hBz1, hBb⟩
      clear hAc0 hAc1 hAf0 hAf1 hAz0 hAz1
      go_region; go_wp2
      rw [rounds_succ]; go_upto_region 11 with (fail)
      refine wp_world (fun x => (∀ o, x.cell? ⟨w.heap.size, o, none⟩ = (#[.int .u64 (bits .or .u64 (wd y 0 / 2 ^ k) (IntKind.u64.wrap (wd y 1 * 2 ^ (64 - k)))), .int .u64 (bits .or .u64 (wd y 1 / 2 ^ k) (IntKind.u64.wrap (wd y 2 * 2 ^ (64 - k)))), .int .u64 (wd y 2 / 2 ^ k), .int .u64 (wd y 3)] : Array Value)[o]?) ∧ (∀ o, x.cell? ⟨w.heap.size + 1, o, none⟩ = (#[.int .u64 0, .int .u64 0, .int .u64 0, .int .u64 0] : Array Value)[o]?) ∧ (∀ o, x.frozen? ⟨w.heap.size, o, none⟩ = false) ∧ (∀ o, x.frozen? ⟨w.heap.size + 1, o, none⟩ = false) ∧ w.heap.size < x.heap.size ∧ w.heap.size + 1 < x.heap.size ∧ Below w.heap.size w x) ⟨set_at (set_at hBc0), fun o => by simp [go_sem, hBc0, hBc1, hBf0, hBf1, hBz0, hBz1], fun o => by simp [go_sem, hBc0, hBc1, hBf0, hBf1, hBz0, hBz1], fun o => by simp [go_sem, hBc0, hBc1, hBf0, hBf1, hBz0, hBz1], by (first | omega | (simp [go_sem, hBc0, hBc1, hBf0, hBf1, hBz0, hBz1]; done) | (simp [go_sem, hBc0, hBc1, hBf0, hBf1, hBz0, hBz1]; omega)), by (first | omega | (simp [go_sem, hBc0, hBc1, hBf0, hBf1, hBz0, hBz1]; done) | (simp [go_sem, hBc0, hBc1, hBf0, hBf1, hBz0, hBz1]; omega)), by (repeat' (first | (with_reducible exact Below.refl _ _) | (with_reducible assumption) | (with_reducible refine below_alloc ?_ _) | (with_reducible refine Below.drew ?_) | (with_reducible refine Below.setCell ?_ ?_ _) | (with_reducible refine below_after ?_ (by assumption)) | go_size))⟩ ?_
      rintro C ⟨hCc0, hCc1, hCf0, hCf1, hCz0, hCz1, hCb⟩
      clear hBc0 hBc1 hBf0 hBf1 hBz0 hBz1
      go_region; go_wp2
      rw [rounds_succ]; go_wp2
      rw [rounds_succ]
      go_wp2_with ((with_reducible show bodyPost _ _ _ _ _ _); refine bodyPost_ret (by simp [results, Tryd.results91, go_sem, hCc0, hCc1, hCf0, hCf1, hCz0, hCz1]; try rfl) rfl ?_; exact ⟨by rw [K1.out, K2.out, wd_shift y 0 k k3, wd_shift y 1 k k3, wd_shift y 2 k k3, wd_shift_top y k hy.out k3, Int.natCast_add, Int.natCast_mul]; rfl, by (repeat' (first | (with_reducible exact Below.refl _ _) | (with_reducible assumption) | (with_reducible refine below_alloc ?_ _) | (with_reducible refine Below.drew ?_) | (with_reducible refine Below.setCell ?_ ?_ _) | (with_reducible refine below_after ?_ (by assumption)) | go_size))⟩)
end Go.Proofs.YtfmmnnodihpgmaaDoor
