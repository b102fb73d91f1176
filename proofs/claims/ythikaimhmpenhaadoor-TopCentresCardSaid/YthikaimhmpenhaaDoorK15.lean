/-
  What package ratio's divided returns, of an integer that fits in a word.
  (Written by wip/pack.py out of XFSgD.)
-/
import Derived.Test.YthikaimhmpenhaaDoorK14

namespace Go.Proofs.YthikaimhmpenhaaDoor
set_option linter.all false
open Go Go.RowKit Wd
set_option maxRecDepth 100000
theorem get_words9S (s : Bool) (b j : Nat) (hj : j < 9) : (#[.bool s, .int .u64 (wd (b) 0), .int .u64 (wd (b) 1), .int .u64 (wd (b) 2), .int .u64 (wd (b) 3), .int .u64 (wd (b) 4), .int .u64 (wd (b) 5), .int .u64 (wd (b) 6), .int .u64 (wd (b) 7), .int .u64 (wd (b) 8)] : Array Value)[1 + j]? = some (.int .u64 (wd b j)) := by
  match j, hj with
  | 0, _ | 1, _ | 2, _ | 3, _ | 4, _ | 5, _ | 6, _ | 7, _ | 8, _ => rfl
theorem set_longS {w : World} {sg : Bool} {B T s v : Nat} (hs : s < 9) (hv : v < 18446744073709551616) (h : ∀ o, w.cell? ⟨B, o, none⟩ = (#[.bool sg, .int .u64 (wd (T) 0), .int .u64 (wd (T) 1), .int .u64 (wd (T) 2), .int .u64 (wd (T) 3), .int .u64 (wd (T) 4), .int .u64 (wd (T) 5), .int .u64 (wd (T) 6), .int .u64 (wd (T) 7), .int .u64 (wd (T) 8)] : Array Value)[o]?) :
    ∀ o, (w.setCell ⟨B, 1 + s, none⟩ (.int .u64 (v : Int))).cell? ⟨B, o, none⟩ = (#[.bool sg, .int .u64 (wd (setw T s v) 0), .int .u64 (wd (setw T s v) 1), .int .u64 (wd (setw T s v) 2), .int .u64 (wd (setw T s v) 3), .int .u64 (wd (setw T s v) 4), .int .u64 (wd (setw T s v) 5), .int .u64 (wd (setw T s v) 6), .int .u64 (wd (setw T s v) 7), .int .u64 (wd (setw T s v) 8)] : Array Value)[o]? := by
  intro o
  by_cases ho : o = 1 + s
  · subst ho
    rw [World.cell?_setCell_same _ _ _ (u := .int .u64 (wd T s)) (by rw [h, get_words9S sg T s hs]), get_words9S sg _ s hs, wd_set_same T s v hv]
  · rw [World.cell?_setCell_other _ _ _ _ (by intro e; exact ho (congrArg Addr.off e).symm), h]
    by_cases h0 : o = 0
    · subst h0; rfl
    · obtain ⟨j, rfl⟩ : ∃ j, o = 1 + j := ⟨o - 1, by omega⟩
      by_cases h8 : j < 9
      · rw [get_words9S sg T j h8, get_words9S sg _ j h8]
        rcases Nat.lt_or_gt_of_ne (show j ≠ s by omega) with h1 | h1
        · rw [wd_set_low T s v j h1]
        · rw [wd_set_high T s v j hv h1]
      · rw [Array.getElem?_eq_none (by simp; omega), Array.getElem?_eq_none (by simp; omega)]
def DvI (w : World) (s : Bool) (a b Q : Nat) (rs : Array Value) (wr : World) : Prop :=
  (∀ o, wr.cell? ⟨w.heap.size, o, none⟩ = (#[.bool s, .int .u64 (wd (a) 0), .int .u64 (wd (a) 1), .int .u64 (wd (a) 2), .int .u64 (wd (a) 3), .int .u64 (wd (a) 4), .int .u64 (wd (a) 5), .int .u64 (wd (a) 6), .int .u64 (wd (a) 7), .int .u64 (wd (a) 8)] : Array Value)[o]?) ∧ (∀ o, wr.cell? ⟨w.heap.size + 1, o, none⟩ = (#[.int .u64 (b : Int), .int .u64 0, .int .u64 0, .int .u64 0] : Array Value)[o]?)
  ∧ (∀ o, wr.cell? ⟨w.heap.size + 1 + 1, o, none⟩ = (#[.bool false, .int .u64 (((0) : Nat) : Int), .int .u64 0, .int .u64 0, .int .u64 0, .int .u64 0, .int .u64 0, .int .u64 0, .int .u64 0, .int .u64 0] : Array Value)[o]?)
  ∧ (∀ o, wr.cell? ⟨w.heap.size + 1 + 1 + 1, o, none⟩ = (#[.int .u64 0, .int .u64 0, .int .u64 0, .int .u64 0] : Array Value)[o]?)
  ∧ (∀ o, wr.cell? ⟨w.heap.size + 1 + 1 + 1 + 1, o, none⟩ = (#[.bool s, .int .u64 (wd (Q) 0), .int .u64 (wd (Q) 1), .int .u64 (wd (Q) 2), .int .u64 (wd (Q) 3), .int .u64 (wd (Q) 4), .int .u64 (wd (Q) 5), .int .u64 (wd (Q) 6), .int .u64 (wd (Q) 7), .int .u64 (wd (Q) 8)] : Array Value)[o]?)
  ∧ (∀ o, wr.cell? ⟨w.heap.size + 1 + 1 + 1 + 1 + 1, o, none⟩ = rs[o]?)
  ∧ (∀ o, wr.frozen? ⟨w.heap.size + 1 + 1, o, none⟩ = false) ∧ (∀ o, wr.frozen? ⟨w.heap.size + 1 + 1 + 1, o, none⟩ = false)
  ∧ (∀ o, wr.frozen? ⟨w.heap.size + 1 + 1 + 1 + 1, o, none⟩ = false) ∧ (∀ o, wr.frozen? ⟨w.heap.size + 1 + 1 + 1 + 1 + 1, o, none⟩ = false)
  ∧ w.heap.size + 1 + 1 + 1 + 1 + 1 < wr.heap.size ∧ Below w.heap.size w wr
theorem DvI.drew {w wr : World} {s : Bool} {a b Q : Nat} {rs : Array Value} (h : DvI w s a b Q rs wr) : DvI w s a b Q rs wr.drew := by
  obtain ⟨c0, c1, c2, c3, c4, c5, f2, f3, f4, f5, z, hb⟩ := h
  exact ⟨c0, c1, c2, c3, c4, c5, f2, f3, f4, f5, z, hb.drew⟩
theorem DvI.alloc {w wr : World} {s : Bool} {a b Q : Nat} {rs : Array Value} (h : DvI w s a b Q rs wr) (O : Obj) : DvI w s a b Q rs (wr.alloc O) := by
  obtain ⟨c0, c1, c2, c3, c4, c5, f2, f3, f4, f5, z, hb⟩ := h
  exact ⟨keep_cell_a (by omega) c0, keep_cell_a (by omega) c1, keep_cell_a (by omega) c2, keep_cell_a (by omega) c3, keep_cell_a (by omega) c4, keep_cell_a (by omega) c5, keep_frozen_a (by omega) f2, keep_frozen_a (by omega) f3, keep_frozen_a (by omega) f4, keep_frozen_a (by omega) f5, by simp; omega, below_alloc hb O⟩
theorem DvI.set {w wr : World} {s : Bool} {a b Q : Nat} {rs : Array Value} (h : DvI w s a b Q rs wr) (i : Nat) (v : Value) : DvI w s a b Q (rs.setIfInBounds i v) (wr.setCell ⟨w.heap.size + 1 + 1 + 1 + 1 + 1, i, none⟩ v) := by
  obtain ⟨c0, c1, c2, c3, c4, c5, f2, f3, f4, f5, z, hb⟩ := h
  exact ⟨set_far (by omega) c0, set_far (by omega) c1, set_far (by omega) c2, set_far (by omega) c3, set_far (by omega) c4, set_at c5, keep_frozen_c f2, keep_frozen_c f3, keep_frozen_c f4, keep_frozen_c f5, by simpa using z, hb.setCell (by simp; omega) _⟩
theorem DvI.quot {w wr : World} {s : Bool} {a b Q j v : Nat} {rs : Array Value} (hj : j < 9) (hv : v < 18446744073709551616) (h : DvI w s a b Q rs wr) : DvI w s a b (setw Q j v) rs (wr.setCell ⟨w.heap.size + 1 + 1 + 1 + 1, 1 + j, none⟩ (.int .u64 (v : Int))) := by
  obtain ⟨c0, c1, c2, c3, c4, c5, f2, f3, f4, f5, z, hb⟩ := h
  exact ⟨set_far (by omega) c0, set_far (by omega) c1, set_far (by omega) c2, set_far (by omega) c3, set_longS hj hv c4, set_far (by omega) c5, keep_frozen_c f2, keep_frozen_c f3, keep_frozen_c f4, keep_frozen_c f5, by simpa using z, hb.setCell (by simp; omega) _⟩
set_option maxHeartbeats 4000000 in
theorem dividedI (s : Bool) (a b : Nat) (ha : a < 18446744073709551616) (hb0 : 0 < b) (hb : b < 4611686018427387904) (w : World) :
    Calls Tryd.prog 78 #[(.agg #[.bool (s), .int .u64 ↑a, .int .u64 0, .int .u64 0, .int .u64 0, .int .u64 0, .int .u64 0, .int .u64 0, .int .u64 0, .int .u64 0]), .agg #[.int .u64 (b : Int), .int .u64 0, .int .u64 0, .int .u64 0]] w fun e w' => e = .returned (.tuple #[(.agg #[.bool (s && !eqN (a / b) 0), .int .u64 (((a / b) : Nat) : Int), .int .u64 0, .int .u64 0, .int .u64 0, .int .u64 0, .int .u64 0, .int .u64 0, .int .u64 0, .int .u64 0]), .agg #[.int .u64 ((a % b : Nat) : Int), .int .u64 0, .int .u64 0, .int .u64 0]]) ∧ Below w.heap.size w w' := by
  have HA := Lib.hid ha
  have HB := Lib.hid hb
  have HB0 := Lib.hid hb0
  have lw := Lib.hid (long_words ha)
  have oz := or_zero
  have lq := long_words (Nat.lt_of_le_of_lt (Nat.div_le_self a b) ha)
  obtain ⟨q, hq⟩ : ∃ q, q = a / b := ⟨_, rfl⟩
  obtain ⟨m, hm⟩ : ∃ m, m = a % b := ⟨_, rfl⟩
  rw [← hq] at lq ⊢
  rw [← hm]
  have LQ := Lib.hid lq
  have HQ := Lib.hid hq
  have HM' := Lib.hid hm
  have ZZ := fun w => zeroI true q w
  obtain ⟨r, hr⟩ : ∃ r, r = eqN q 0 := ⟨_, rfl⟩
  rw [← hr] at ZZ ⊢
  have Z0 := Lib.hid ZZ
  clear ZZ hr lq hq hm
  clear ha hb hb0
  go_enter Tryd.func78, Tryd.ntmps78
  go_wp2
  go_loopw [8] (fun i wr => ∃ k Q R : Nat, k ≤ 576 ∧ i = .int .i64 ((k : Int) - 1) ∧ DivInv a b k Q R ∧ DvI w s a b Q #[.int .u64 (R : Int), .int .u64 0, .int .u64 0, .int .u64 0, .int .u64 0] wr) (fun i _ => (intOf i + 1).toNat)
  case atStart =>
    refine ⟨576, 0, 0, by omega, by rfl, DivInv.start' HA.out, ?_⟩
    refine ⟨fun o => ?_, fun o => by simp [go_sem], fun o => by simp [go_sem], fun o => by simp [go_sem], fun o => ?_, fun o => by simp [go_sem], fun o => by simp [go_sem], fun o => by simp [go_sem], fun o => by simp [go_sem], fun o => by simp [go_sem], by simp, by go_grown⟩
    · have q := lw.out
      rw [q.1, q.2.1, q.2.2.1, q.2.2.2.1, q.2.2.2.2.1, q.2.2.2.2.2.1, q.2.2.2.2.2.2.1, q.2.2.2.2.2.2.2.1, q.2.2.2.2.2.2.2.2]
      simp [go_sem]
    · simp only [wd_zero8]
      simp [go_sem]
  case round =>
    obtain ⟨k, Q, R, hk, rfl, HI, HM⟩ := hrel
    by_cases h0 : k = 0
    · subst h0
      obtain ⟨e1, e2⟩ := HI.done
      rw [← HQ.out] at e1
      rw [← HM'.out] at e2
      subst e1 e2
      have hq := LQ.out
      obtain ⟨c0, c1, c2, c3, c4, c5, f2, f3, f4, f5, hz, hb⟩ := HM
      rw [hq.1, hq.2.1, hq.2.2.1, hq.2.2.2.1, hq.2.2.2.2.1, hq.2.2.2.2.2.1, hq.2.2.2.2.2.2.1, hq.2.2.2.2.2.2.2.1, hq.2.2.2.2.2.2.2.2] at c4
      clear hq HI c0 c1
      have z2 : w.heap.size + 1 + 1 < wr.heap.size := by omega
      have z3 : w.heap.size + 1 + 1 + 1 < wr.heap.size := by omega
      have z4 : w.heap.size + 1 + 1 + 1 + 1 < wr.heap.size := by omega
      have k1 := array_at5
      cases s
      · go_wp2
        go_region
        go_wp2_with ((with_reducible show bodyPost _ _ _ _ _ _); refine bodyPost_ret (by simp [results, Tryd.results78, go_sem, c2, c3, c4, c5, f2, f3, f4, hz, z2, z3, z4]; try rfl) rfl ?_; exact ⟨rfl, by (repeat' first | (with_reducible first | exact Bq0 | assumption | refine Bq1 ?_ | refine Bq2 ?_ | refine Bq3 ?_ ?_ | refine Bq4 ?_ (by assumption)) | go_size)⟩)
      · go_wp2_with fail
        ((with_reducible refine (Z0.out _).mono ?_); rintro e w1 ⟨rfl, hb1⟩)
        have g2 := keep_cell hb1 z2 c2
        have g3 := keep_cell hb1 z3 c3
        have g4 := keep_cell hb1 z4 c4
        have g5 := keep_cell hb1 hz c5
        have k2 := keep_frozen hb1 z2 f2
        have k3 := keep_frozen hb1 z3 f3
        have k4 := keep_frozen hb1 z4 f4
        have y2 := keep_lt hb1 z2
        have y3 := keep_lt hb1 z3
        have y4 := keep_lt hb1 z4
        have y5 := keep_lt hb1 hz
        clear c2 c3 c4 c5 f2 f3 f4 f5 z2 z3 z4 hz
        cases r
        all_goals
          go_wp2
          go_region
          go_wp2_with ((with_reducible show bodyPost _ _ _ _ _ _); refine bodyPost_ret (by simp [results, Tryd.results78, go_sem, g2, g3, g4, g5, k2, k3, k4, y2, y3, y4, y5]; try rfl) rfl ?_; exact ⟨rfl, by (repeat' first | (with_reducible first | exact Bq0 | assumption | refine Bq1 ?_ | refine Bq2 ?_ | refine Bq3 ?_ ?_ | refine Bq4 ?_ (by assumption)) | go_size)⟩)
    · obtain ⟨n, rfl⟩ : ∃ n, k = n + 1 := ⟨k - 1, by omega⟩
      rw [show (((n + 1 : Nat) : Int) - 1) = (n : Int) by omega]
      have hn : (n : Int) ≤ 575 := by omega
      clear hk h0
      have HM0 := Lib.hid HM
      obtain ⟨c0, c1, c2, c3, c4, c5, f2, f3, f4, f5, hz, hb⟩ := HM
      have ca : wr.cell? ⟨w.heap.size, 1 + n / 64, none⟩ = some (.int .u64 (wd a (n / 64))) := by rw [c0, get_words9S _ a (n / 64) (by omega)]
      have q1 : IntKind.i64.wrap ((n : Int) / 64) = (n : Int) / 64 := by rw [IntKind.wrap_i64]; omega
      have q2 : IntKind.i64.wrap ((n : Int) % 64) = (n : Int) % 64 := by rw [IntKind.wrap_i64]; omega
      have q3 : (n : Int) / 64 < 9 := by omega
      have q4 : (0 : Int) ≤ (n : Int) / 64 := by omega
      have q5 : ((n : Int) / 64).toNat = n / 64 := by omega
      have q6 : ((n : Int) % 64).toNat = n % 64 := by omega
      have q7 : (n : Int) % 64 < 64 := by omega
      have q8 : (0 : Int) ≤ (n : Int) % 64 := by omega
      have t4 := bit_wd a n
      have hR := HI.rest_lt HB0.out
      have hb62 := HB.out
      obtain ⟨c, hc⟩ : ∃ c, c = bitN a n := ⟨_, rfl⟩
      rw [← hc] at t4
      have hc1 : c ≤ 1 := by rw [hc]; exact bitN_le a n
      have HC := Lib.hid hc
      obtain ⟨R', hR'⟩ : ∃ R', R' = 2 * R + c := ⟨_, rfl⟩
      have e1 : bits .or .u64 ((R : Int) * 2) (c : Int) = (R' : Int) := by
        have h := dbl_or (R : Int) c (by omega) (by omega) (by omega)
        rw [IntKind.wrap_u64, Int.emod_eq_of_lt (by omega) (by omega)] at h
        rw [h]; omega
      have e2 : (R : Int) / 9223372036854775808 = 0 := by omega
      have hR'b : R' < 9223372036854775808 := by omega
      have HR := Lib.hid (show R' = 2 * R + bitN a n by rw [hR', hc])
      clear c0 c1 c2 c3 c4 f2 f3 f4 hc hR'
      go_upto_region 7 with (fail)
      go_wp2
      refine wp_loop_rounds 6 ?_
      iterate 5 (rw [rounds_succ]; go_wp2; go_region; go_wp2)
      rw [rounds_succ]
      go_upto_region 12 with (fail)
      refine wp_world (DvI w s a b Q #[.int .u64 (R' : Int), .int .u64 0, .int .u64 0, .int .u64 0, .int .u64 0]) ?_ ?_
      · exact (((((HM0.out.set 0 _).set 1 _).set 2 _).set 3 _).set 4 _).drew.drew.drew.drew.drew
      clear c5 f5 e1 e2 ca hb hz HM0
      intro V HV
      have HV0 := Lib.hid HV
      obtain ⟨c0, c1, c2, c3, c4, c5, f2, f3, f4, f5, hz, hb⟩ := HV
      have z1 : w.heap.size + 1 < V.heap.size := by omega
      clear c0 c2 c3 c4 f2 f3 f4
      have s0 := sub_00
      have s1 := sub_01
      by_cases hle : b ≤ R'
      · have s2 := sub_ge hle (by omega)
        obtain ⟨y, hy⟩ : ∃ y, y = R' - b := ⟨_, rfl⟩
        rw [← hy] at s2
        have HY := Lib.hid hy
        have HL := Lib.hid hle
        clear hy
        go_wp2
        refine wp_loop_rounds 5 ?_
        iterate 4 (rw [rounds_succ]; go_wp2; go_region; go_wp2)
        rw [rounds_succ]
        go_upto_region 22 with (fail)
        refine wp_world (DvI w s a b Q #[.int .u64 (y : Int), .int .u64 0, .int .u64 0, .int .u64 0, .int .u64 0]) ?_ ?_
        · exact ((((((HV0.out.set 0 _).set 1 _).set 2 _).set 3 _).set 4 _).alloc _).drew.drew.drew.drew
        clear c5 f5 hb hz HV0 s0 s1 s2 c1 z1
        intro U HU
        have HU0 := Lib.hid HU
        have c2' : U.cell? ⟨w.heap.size + 1 + 1 + 1 + 1, 1 + n / 64, none⟩ = some (.int .u64 (wd Q (n / 64))) := by rw [HU.2.2.2.2.1, get_words9S _ Q (n / 64) (by omega)]
        have f2' := HU.2.2.2.2.2.2.2.2.1 (1 + n / 64)
        clear HU
        go_region
        go_wp2
        go_roundw
        case rel =>
          refine ⟨n, Q + 2 ^ n, y, by omega, rfl, ?_, ?_⟩
          · rw [HY.out, HR.out]; exact HI.next_yes HB0.out (by rw [← HR.out]; exact HL.out)
          · rw [← HI.bit.1, HI.bit.2.1]
            exact (HU0.out.quot (by omega) HI.bit.2.2).drew
        case measure => simp [intOf]
      · have s2 := sub_lt' (by omega : R' < b) (by omega)
        obtain ⟨y, hy⟩ : ∃ y, y = R' + 18446744073709551616 - b := ⟨_, rfl⟩
        rw [← hy] at s2
        have HL := Lib.hid hle
        clear hy
        go_wp2
        refine wp_loop_rounds 5 ?_
        iterate 4 (rw [rounds_succ]; go_wp2; go_region; go_wp2)
        rw [rounds_succ]
        go_wp2
        go_roundw
        case rel =>
          refine ⟨n, Q, R', by omega, rfl, ?_, ?_⟩
          · rw [HR.out]; exact HI.next_no HB0.out (by rw [← HR.out]; exact Nat.lt_of_not_le HL.out)
          · exact (HV0.out.alloc _).drew.drew.drew.drew
        case measure => simp [intOf]
end Go.Proofs.YthikaimhmpenhaaDoor
