/-
  What package ratio's divided returns, of natural numbers that fit in a word.
-/
import Derived.Test.YtfmmnnodihpgmaaDoorLongB
import Derived.Test.YtfmmnnodihpgmaaDoorWideE
namespace Go.Proofs.YtfmmnnodihpgmaaDoor
set_option linter.all false
open Go Go.RowKit Wd
set_option maxRecDepth 100000
/-- The call's own memory while it divides; Q: the quotient so far; rs: the cells of the rest. -/
def DvM (w : World) (a b Q : Nat) (rs : Array Value) (wr : World) : Prop :=
  (∀ o, wr.cell? ⟨w.heap.size, o, none⟩ = (#[.bool false, .int .u64 (wd (a) 0), .int .u64 (wd (a) 1), .int .u64 (wd (a) 2), .int .u64 (wd (a) 3), .int .u64 (wd (a) 4), .int .u64 (wd (a) 5), .int .u64 (wd (a) 6), .int .u64 (wd (a) 7), .int .u64 (wd (a) 8)] : Array Value)[o]?) ∧ (∀ o, wr.cell? ⟨w.heap.size + 1, o, none⟩ = (#[.int .u64 (b : Int), .int .u64 0, .int .u64 0, .int .u64 0] : Array Value)[o]?)
  ∧ (∀ o, wr.cell? ⟨w.heap.size + 1 + 1, o, none⟩ = (#[.bool false, .int .u64 (((0) : Nat) : Int), .int .u64 0, .int .u64 0, .int .u64 0, .int .u64 0, .int .u64 0, .int .u64 0, .int .u64 0, .int .u64 0] : Array Value)[o]?)
  ∧ (∀ o, wr.cell? ⟨w.heap.size + 1 + 1 + 1, o, none⟩ = (#[.int .u64 0, .int .u64 0, .int .u64 0, .int .u64 0] : Array Value)[o]?)
  ∧ (∀ o, wr.cell? ⟨w.heap.size + 1 + 1 + 1 + 1, o, none⟩ = (#[.bool false, .int .u64 (wd (Q) 0), .int .u64 (wd (Q) 1), .int .u64 (wd (Q) 2), .int .u64 (wd (Q) 3), .int .u64 (wd (Q) 4), .int .u64 (wd (Q) 5), .int .u64 (wd (Q) 6), .int .u64 (wd (Q) 7), .int .u64 (wd (Q) 8)] : Array Value)[o]?)
  ∧ (∀ o, wr.cell? ⟨w.heap.size + 1 + 1 + 1 + 1 + 1, o, none⟩ = rs[o]?)
  ∧ (∀ o, wr.frozen? ⟨w.heap.size + 1 + 1, o, none⟩ = false) ∧ (∀ o, wr.frozen? ⟨w.heap.size + 1 + 1 + 1, o, none⟩ = false)
  ∧ (∀ o, wr.frozen? ⟨w.heap.size + 1 + 1 + 1 + 1, o, none⟩ = false) ∧ (∀ o, wr.frozen? ⟨w.heap.size + 1 + 1 + 1 + 1 + 1, o, none⟩ = false)
  ∧ w.heap.size + 1 + 1 + 1 + 1 + 1 < wr.heap.size ∧ Below w.heap.size w wr
theorem DvM.drew {w wr : World} {a b Q : Nat} {rs : Array Value} (h : DvM w a b Q rs wr) : DvM w a b Q rs wr.drew := by
  obtain ⟨c0, c1, c2, c3, c4, c5, f2, f3, f4, f5, z, hb⟩ := h
  exact ⟨c0, c1, c2, c3, c4, c5, f2, f3, f4, f5, z, hb.drew⟩
theorem DvM.alloc {w wr : World} {a b Q : Nat} {rs : Array Value} (h : DvM w a b Q rs wr) (O : Obj) : DvM w a b Q rs (wr.alloc O) := by
  obtain ⟨c0, c1, c2, c3, c4, c5, f2, f3, f4, f5, z, hb⟩ := h
  exact ⟨keep_cell_a (by omega) c0, keep_cell_a (by omega) c1, keep_cell_a (by omega) c2, keep_cell_a (by omega) c3, keep_cell_a (by omega) c4, keep_cell_a (by omega) c5, keep_frozen_a (by omega) f2, keep_frozen_a (by omega) f3, keep_frozen_a (by omega) f4, keep_frozen_a (by omega) f5, by simp; omega, below_alloc hb O⟩
theorem DvM.set {w wr : World} {a b Q : Nat} {rs : Array Value} (h : DvM w a b Q rs wr) (i : Nat) (v : Value) : DvM w a b Q (rs.setIfInBounds i v) (wr.setCell ⟨w.heap.size + 1 + 1 + 1 + 1 + 1, i, none⟩ v) := by
  obtain ⟨c0, c1, c2, c3, c4, c5, f2, f3, f4, f5, z, hb⟩ := h
  exact ⟨set_far (by omega) c0, set_far (by omega) c1, set_far (by omega) c2, set_far (by omega) c3, set_far (by omega) c4, set_at c5, keep_frozen_c f2, keep_frozen_c f3, keep_frozen_c f4, keep_frozen_c f5, by simpa using z, hb.setCell (by simp; omega) _⟩
theorem DvM.far {w wr : World} {a b Q : Nat} {rs : Array Value} {B : Nat} (hB : w.heap.size + 1 + 1 + 1 + 1 + 1 < B) (h : DvM w a b Q rs wr) (i : Nat) (v : Value) : DvM w a b Q rs (wr.setCell ⟨B, i, none⟩ v) := by
  obtain ⟨c0, c1, c2, c3, c4, c5, f2, f3, f4, f5, z, hb⟩ := h
  exact ⟨set_far (by omega) c0, set_far (by omega) c1, set_far (by omega) c2, set_far (by omega) c3, set_far (by omega) c4, set_far (by omega) c5, keep_frozen_c f2, keep_frozen_c f3, keep_frozen_c f4, keep_frozen_c f5, by simpa using z, hb.setCell (by simp; omega) _⟩
theorem DvM.quot {w wr : World} {a b Q j v : Nat} {rs : Array Value} (hj : j < 9) (hv : v < 18446744073709551616) (h : DvM w a b Q rs wr) : DvM w a b (setw Q j v) rs (wr.setCell ⟨w.heap.size + 1 + 1 + 1 + 1, 1 + j, none⟩ (.int .u64 (v : Int))) := by
  obtain ⟨c0, c1, c2, c3, c4, c5, f2, f3, f4, f5, z, hb⟩ := h
  exact ⟨set_far (by omega) c0, set_far (by omega) c1, set_far (by omega) c2, set_far (by omega) c3, set_long hj hv c4, set_far (by omega) c5, keep_frozen_c f2, keep_frozen_c f3, keep_frozen_c f4, keep_frozen_c f5, by simpa using z, hb.setCell (by simp; omega) _⟩
theorem le_pow64 (k : Nat) (h : 64 ≤ k) : 18446744073709551616 ≤ 2 ^ k := by
  rw [show 18446744073709551616 = 2 ^ 64 from rfl]; exact Nat.pow_le_pow_right (by omega) h
theorem DivInv.start_at {a b k : Nat} (ha : a < 18446744073709551616) (hk : 64 ≤ k) : DivInv a b k 0 0 := by
  unfold DivInv
  rw [Nat.div_eq_of_lt (Nat.lt_of_lt_of_le ha (le_pow64 k hk))]; simp
theorem DivInv.start' {a b : Nat} (ha : a < 18446744073709551616) : DivInv a b 576 0 0 := DivInv.start_at ha (by omega)
theorem run_sub64_nn (x y c : Nat) (hc : c ≤ 1) (w : World) : (callFunc 97 #[.int .u64 (x : Int), .int .u64 (y : Int), .int .u64 (c : Int)]).run Tryd.prog w =
      .ok (.value (.tuple #[.int .u64 (((x + 18446744073709551616 - y - c) % 18446744073709551616 : Nat) : Int), .int .u64 ((if x < y + c then 1 else 0 : Nat) : Int)])) w := by
  rw [run_callFunc_extern Tryd.func97 (by kernel_rfl) (by kernel_rfl) (by kernel_rfl) (e := sub64Entry) (by kernel_rfl)]
  rw [run_sub64 x y c hc]
  simp only [Result.andThen]
theorem sub_ge {x y : Nat} (h : y ≤ x) (hx : x < 18446744073709551616) (w : World) : (callFunc 97 #[.int .u64 (x : Int), .int .u64 (y : Int), .int .u64 0]).run Tryd.prog w =
      .ok (.value (.tuple #[.int .u64 ((x - y : Nat) : Int), .int .u64 0])) w := by
  have h1 := run_sub64_nn x y 0 (by omega) w
  rwa [show (x + 18446744073709551616 - y - 0) % 18446744073709551616 = x - y by omega, if_neg (by omega)] at h1
theorem sub_lt' {x y : Nat} (h : x < y) (hy : y < 18446744073709551616) (w : World) : (callFunc 97 #[.int .u64 (x : Int), .int .u64 (y : Int), .int .u64 0]).run Tryd.prog w =
      .ok (.value (.tuple #[.int .u64 ((x + 18446744073709551616 - y : Nat) : Int), .int .u64 1])) w := by
  have h1 := run_sub64_nn x y 0 (by omega) w
  rwa [show (x + 18446744073709551616 - y - 0) % 18446744073709551616 = x + 18446744073709551616 - y by omega, if_pos (by omega)] at h1
theorem sub_00 (w : World) : (callFunc 97 #[.int .u64 0, .int .u64 0, .int .u64 0]).run Tryd.prog w = .ok (.value (.tuple #[.int .u64 0, .int .u64 0])) w := by
  have h1 := run_sub64_nn 0 0 0 (by omega) w
  rwa [show (0 + 18446744073709551616 - 0 - 0) % 18446744073709551616 = 0 by omega, if_neg (by omega)] at h1
theorem sub_01 (w : World) : (callFunc 97 #[.int .u64 0, .int .u64 0, .int .u64 1]).run Tryd.prog w = .ok (.value (.tuple #[.int .u64 18446744073709551615, .int .u64 1])) w := by
  have h1 := run_sub64_nn 0 0 1 (by omega) w
  rwa [show (0 + 18446744073709551616 - 0 - 1) % 18446744073709551616 = 18446744073709551615 by omega, if_pos (by omega)] at h1
theorem array_at5 (b o : Nat) (w : World) : (Instr.arrayAt 31 (.slice (some ⟨b, o, none⟩) 4 5)).run Tryd.prog w = .ok (.pointer (some ⟨b, o, none⟩)) w := by kernel_rfl
theorem or_zero : bits .or .u64 0 0 = 0 := by decide
set_option maxHeartbeats 4000000 in
theorem divided_any (a b : Nat) (ha : a < 18446744073709551616) (hb0 : 0 < b) (hb : b < 4611686018427387904) (w : World) :
    Calls Tryd.prog 74 #[(.agg #[.bool false, .int .u64 (((a) : Nat) : Int), .int .u64 0, .int .u64 0, .int .u64 0, .int .u64 0, .int .u64 0, .int .u64 0, .int .u64 0, .int .u64 0]), .agg #[.int .u64 (b : Int), .int .u64 0, .int .u64 0, .int .u64 0]] w fun e w' => e = .returned (.tuple #[(.agg #[.bool false, .int .u64 (((a / b) : Nat) : Int), .int .u64 0, .int .u64 0, .int .u64 0, .int .u64 0, .int .u64 0, .int .u64 0, .int .u64 0, .int .u64 0]), .agg #[.int .u64 ((a % b : Nat) : Int), .int .u64 0, .int .u64 0, .int .u64 0]]) ∧ Below w.heap.size w w' := by
  have HA := Lib.hid ha
  have HB := Lib.hid hb
  have HB0 := Lib.hid hb0
  have lw := Lib.hid (long_words ha)
  have oz := or_zero
  clear ha hb hb0
  go_enter Tryd.func74, Tryd.ntmps74
  go_wp2
  go_loopw [8] (fun i wr => ∃ k Q R : Nat, k ≤ 576 ∧ i = .int .i64 ((k : Int) - 1) ∧ DivInv a b k Q R ∧ DvM w a b Q #[.int .u64 (R : Int), .int .u64 0, .int .u64 0, .int .u64 0, .int .u64 0] wr) (fun i _ => (intOf i + 1).toNat)
  case atStart =>
    refine ⟨576, 0, 0, by omega, by rfl, DivInv.start' HA.out, ?_⟩
    refine ⟨fun o => ?_, fun o => by simp [go_sem], fun o => by simp [go_sem], fun o => by simp [go_sem], fun o => ?_, fun o => by simp [go_sem], fun o => by simp [go_sem], fun o => by simp [go_sem], fun o => by simp [go_sem], fun o => by simp [go_sem], by simp, by go_grown⟩
    · have q := lw.out
      rw [q.1, q.2.1, q.2.2.1, q.2.2.2.1, q.2.2.2.2.1, q.2.2.2.2.2.1, q.2.2.2.2.2.2.1, q.2.2.2.2.2.2.2.1, q.2.2.2.2.2.2.2.2]
      simp [go_sem]
    · simp only [wd_zero8]
      simp [go_sem]
  case round =>
    obtain ⟨k, Q, R, hk, rfl, HI, HM⟩ := hrel
    by_cases h0 : k = 0
    · subst h0
      obtain ⟨rfl, rfl⟩ := HI.done
      have hq := long_words (Nat.lt_of_le_of_lt (Nat.div_le_self a b) HA.out)
      obtain ⟨c0, c1, c2, c3, c4, c5, f2, f3, f4, f5, hz, hb⟩ := HM
      rw [hq.1, hq.2.1, hq.2.2.1, hq.2.2.2.1, hq.2.2.2.2.1, hq.2.2.2.2.2.1, hq.2.2.2.2.2.2.1, hq.2.2.2.2.2.2.2.1, hq.2.2.2.2.2.2.2.2] at c4
      clear hq HI c0 c1
      have z2 : w.heap.size + 1 + 1 < wr.heap.size := by omega
      have z3 : w.heap.size + 1 + 1 + 1 < wr.heap.size := by omega
      have z4 : w.heap.size + 1 + 1 + 1 + 1 < wr.heap.size := by omega
      have k1 := array_at5
      go_wp2
      go_region
      go_wp2_with ((with_reducible show bodyPost _ _ _ _ _ _); refine bodyPost_ret (by simp [results, Tryd.results74, go_sem, c2, c3, c4, c5, f2, f3, f4, hz, z2, z3, z4]; try rfl) rfl ?_; exact ⟨rfl, by (repeat' (first | (with_reducible exact Below.refl _ _) | (with_reducible assumption) | (with_reducible refine below_alloc ?_ _) | (with_reducible refine Below.drew ?_) | (with_reducible refine Below.setCell ?_ ?_ _) | (with_reducible refine below_after ?_ (by assumption)) | go_size))⟩)
    · obtain ⟨n, rfl⟩ : ∃ n, k = n + 1 := ⟨k - 1, by omega⟩
      rw [show (((n + 1 : Nat) : Int) - 1) = (n : Int) by omega]
      have hn : (n : Int) ≤ 575 := by omega
      clear hk h0
      have HM0 := Lib.hid HM
      obtain ⟨c0, c1, c2, c3, c4, c5, f2, f3, f4, f5, hz, hb⟩ := HM
      have ca : wr.cell? ⟨w.heap.size, 1 + n / 64, none⟩ = some (.int .u64 (wd a (n / 64))) := by rw [c0, get_words9 a (n / 64) (by omega)]
      have q1 : IntKind.i64.wrap ((n : Int) / 64) = (n : Int) / 64 := by rw [IntKind.wrap_i64]; omega
      have q2 : IntKind.i64.wrap ((n : Int) % 64) = (n : Int) % 64 := by rw [IntKind.wrap_i64]; omega
      have q3 : (n : Int) / 64 < 9 := by omega
      have q4 : (0 : Int) ≤ (n : Int) / 64 := by omega
      have q5 : ((n : Int) / 64).toNat = n / 64 := by omega
      have q6 : ((n : Int) % 64).toNat = n % 64 := by omega
      have q7 : (n : Int) % 64 < 64 := by omega
      have q8 : (0 : Int) ≤ (n : Int) % 64 := by omega
      have t4 := bit_wd a n
      have hR := HI.rest_lt HB0.out
      have hb62 := HB.out
      obtain ⟨c, hc⟩ : ∃ c, c = bitN a n := ⟨_, rfl⟩
      rw [← hc] at t4
      have hc1 : c ≤ 1 := by rw [hc]; exact bitN_le a n
      have HC := Lib.hid hc
      obtain ⟨R', hR'⟩ : ∃ R', R' = 2 * R + c := ⟨_, rfl⟩
      have e1 : bits .or .u64 ((R : Int) * 2) (c : Int) = (R' : Int) := by
        have h := dbl_or (R : Int) c (by omega) (by omega) (by omega)
        rw [IntKind.wrap_u64, Int.emod_eq_of_lt (by omega) (by omega)] at h
        rw [h]; omega
      have e2 : (R : Int) / 9223372036854775808 = 0 := by omega
      have hR'b : R' < 9223372036854775808 := by omega
      have HR := Lib.hid (show R' = 2 * R + bitN a n by rw [hR', hc])
      clear c0 c1 c2 c3 c4 f2 f3 f4 hc hR'
      go_upto_region 7 with (fail)
      go_wp2
      refine wp_loop_rounds 6 ?_
      iterate 5 (rw [rounds_succ]; go_wp2; go_region; go_wp2)
      rw [rounds_succ]
      go_upto_region 12 with (fail)
      refine wp_world (DvM w a b Q #[.int .u64 (R' : Int), .int .u64 0, .int .u64 0, .int .u64 0, .int .u64 0]) ?_ ?_
      · exact (((((HM0.out.set 0 _).set 1 _).set 2 _).set 3 _).set 4 _).drew.drew.drew.drew.drew
      clear c5 f5 e1 e2 ca hb hz HM0
      intro V HV
      have HV0 := Lib.hid HV
      obtain ⟨c0, c1, c2, c3, c4, c5, f2, f3, f4, f5, hz, hb⟩ := HV
      have z1 : w.heap.size + 1 < V.heap.size := by omega
      clear c0 c2 c3 c4 f2 f3 f4
      have s0 := sub_00
      have s1 := sub_01
      by_cases hle : b ≤ R'
      · have s2 := sub_ge hle (by omega)
        obtain ⟨y, hy⟩ : ∃ y, y = R' - b := ⟨_, rfl⟩
        rw [← hy] at s2
        have HY := Lib.hid hy
        have HL := Lib.hid hle
        clear hy
        go_wp2
        refine wp_loop_rounds 5 ?_
        iterate 4 (rw [rounds_succ]; go_wp2; go_region; go_wp2)
        rw [rounds_succ]
        go_upto_region 22 with (fail)
        refine wp_world (DvM w a b Q #[.int .u64 (y : Int), .int .u64 0, .int .u64 0, .int .u64 0, .int .u64 0]) ?_ ?_
        · exact ((((((HV0.out.set 0 _).set 1 _).set 2 _).set 3 _).set 4 _).alloc _).drew.drew.drew.drew
        clear c5 f5 hb hz HV0 s0 s1 s2 c1 z1
        intro U HU
        have HU0 := Lib.hid HU
        have c2' : U.cell? ⟨w.heap.size + 1 + 1 + 1 + 1, 1 + n / 64, none⟩ = some (.int .u64 (wd Q (n / 64))) := by rw [HU.2.2.2.2.1, get_words9 Q (n / 64) (by omega)]
        have f2' := HU.2.2.2.2.2.2.2.2.1 (1 + n / 64)
        clear HU
        go_region
        go_wp2
        go_roundw
        case rel =>
          refine ⟨n, Q + 2 ^ n, y, by omega, rfl, ?_, ?_⟩
          · rw [HY.out, HR.out]; exact HI.next_yes HB0.out (by rw [← HR.out]; exact HL.out)
          · rw [← HI.bit.1, HI.bit.2.1]
            exact (HU0.out.quot (by omega) HI.bit.2.2).drew
        case measure => simp [intOf]
      · have s2 := sub_lt' (by omega : R' < b) (by omega)
        obtain ⟨y, hy⟩ : ∃ y, y = R' + 18446744073709551616 - b := ⟨_, rfl⟩
        rw [← hy] at s2
        have HL := Lib.hid hle
        clear hy
        go_wp2
        refine wp_loop_rounds 5 ?_
        iterate 4 (rw [rounds_succ]; go_wp2; go_region; go_wp2)
        rw [rounds_succ]
        go_wp2
        go_roundw
        case rel =>
          refine ⟨n, Q, R', by omega, rfl, ?_, ?_⟩
          · rw [HR.out]; exact HI.next_no HB0.out (by rw [← HR.out]; exact Nat.lt_of_not_le HL.out)
          · exact (HV0.out.alloc _).drew.drew.drew.drew
        case measure => simp [intOf]
end Go.Proofs.YtfmmnnodihpgmaaDoor
