/-
  What divide of package wide returns, for all inputs.
  Quotient and remainder of integers, rounded down, by their signs and magnitudes; no program in sight.
  (Written by wip/pack.py out of XFWideE, XFDivZ.)
-/
import Derived.Test.YthikaimhmpenhaaDoorK02
import Derived.Test.YthikaimhmpenhaaDoorK01

namespace Go.Proofs.YthikaimhmpenhaaDoor
set_option linter.all false
open Go Go.RowKit Wd
set_option maxRecDepth 100000
def DivMem (w : World) (a b Q R : Nat) (wr : World) : Prop :=
  (∀ o, wr.cell? ⟨w.heap.size, o, none⟩ = (#[.int .u64 (wd (a) 0), .int .u64 (wd (a) 1), .int .u64 (wd (a) 2), .int .u64 (wd (a) 3)] : Array Value)[o]?) ∧ (∀ o, wr.cell? ⟨w.heap.size + 1, o, none⟩ = (#[.int .u64 (wd (b) 0), .int .u64 (wd (b) 1), .int .u64 (wd (b) 2), .int .u64 (wd (b) 3)] : Array Value)[o]?)
  ∧ (∀ o, wr.cell? ⟨w.heap.size + 1 + 1, o, none⟩ = (#[.int .u64 (wd (Q) 0), .int .u64 (wd (Q) 1), .int .u64 (wd (Q) 2), .int .u64 (wd (Q) 3)] : Array Value)[o]?)
  ∧ (∀ o, wr.cell? ⟨w.heap.size + 1 + 1 + 1, o, none⟩ = (#[.int .u64 (wd (R) 0), .int .u64 (wd (R) 1), .int .u64 (wd (R) 2), .int .u64 (wd (R) 3)] : Array Value)[o]?)
  ∧ (∀ o, wr.frozen? ⟨w.heap.size + 1 + 1, o, none⟩ = false) ∧ (∀ o, wr.frozen? ⟨w.heap.size + 1 + 1 + 1, o, none⟩ = false)
  ∧ w.heap.size + 1 + 1 + 1 < wr.heap.size ∧ Below w.heap.size w wr
theorem DivMem.later {w wr wx : World} {a b Q R : Nat} (h : DivMem w a b Q R wr) (hb : Below wr.heap.size wr wx) : DivMem w a b Q R wx := by
  obtain ⟨c0, c1, c2, c3, f2, f3, hz, hB⟩ := h
  exact ⟨keep_cell hb (by omega) c0, keep_cell hb (by omega) c1, keep_cell hb (by omega) c2, keep_cell hb (by omega) c3, keep_frozen hb (by omega) f2, keep_frozen hb (by omega) f3, Nat.lt_of_lt_of_le hz hb.size, below_after hB hb⟩
theorem get_words4_out (b j : Nat) (hj : 4 ≤ j) : (#[.int .u64 (wd (b) 0), .int .u64 (wd (b) 1), .int .u64 (wd (b) 2), .int .u64 (wd (b) 3)] : Array Value)[j]? = none := by
  simp; omega
theorem set_word4 {w : World} {B T s v : Nat} (hs : s < 4) (hv : v < 18446744073709551616) (h : ∀ o, w.cell? ⟨B, o, none⟩ = (#[.int .u64 (wd (T) 0), .int .u64 (wd (T) 1), .int .u64 (wd (T) 2), .int .u64 (wd (T) 3)] : Array Value)[o]?) :
    ∀ o, (w.setCell ⟨B, s, none⟩ (.int .u64 (v : Int))).cell? ⟨B, o, none⟩ = (#[.int .u64 (wd (setw T s v) 0), .int .u64 (wd (setw T s v) 1), .int .u64 (wd (setw T s v) 2), .int .u64 (wd (setw T s v) 3)] : Array Value)[o]? := by
  intro o
  by_cases ho : o = s
  · subst ho
    rw [World.cell?_setCell_same _ _ _ (u := .int .u64 (wd T o)) (by rw [h, get_words4 T o hs]), get_words4 _ o hs, wd_set_same T o v hv]
  · rw [World.cell?_setCell_other _ _ _ _ (by intro e; exact ho (congrArg Addr.off e).symm), h]
    by_cases h8 : o < 4
    · rw [get_words4 T o h8, get_words4 _ o h8]
      rcases Nat.lt_or_gt_of_ne ho with h1 | h1
      · rw [wd_set_low T s v o h1]
      · rw [wd_set_high T s v o hv h1]
    · rw [get_words4_out T o (by omega), get_words4_out _ o (by omega)]
theorem DivMem.alloc {w wr : World} {a b Q R : Nat} (h : DivMem w a b Q R wr) (O : Obj) : DivMem w a b Q R (wr.alloc O) := h.later ((Below.refl _ _).alloc (Nat.le_refl _) O)
theorem DivMem.drew {w wr : World} {a b Q R : Nat} (h : DivMem w a b Q R wr) : DivMem w a b Q R wr.drew := h.later ((Below.refl _ _).drew)
theorem DivMem.rest {w wr : World} {a b Q R R' : Nat} (h : DivMem w a b Q R wr) :
    DivMem w a b Q R' ((((wr.setCell ⟨w.heap.size + 1 + 1 + 1, 0, none⟩ (.int .u64 (wd R' 0))).setCell ⟨w.heap.size + 1 + 1 + 1, 1, none⟩ (.int .u64 (wd R' 1))).setCell ⟨w.heap.size + 1 + 1 + 1, 2, none⟩ (.int .u64 (wd R' 2))).setCell ⟨w.heap.size + 1 + 1 + 1, 3, none⟩ (.int .u64 (wd R' 3))) := by
  obtain ⟨c0, c1, c2, c3, f2, f3, hz, hB⟩ := h
  refine ⟨set_far (by omega) (set_far (by omega) (set_far (by omega) (set_far (by omega) c0))), set_far (by omega) (set_far (by omega) (set_far (by omega) (set_far (by omega) c1))), set_far (by omega) (set_far (by omega) (set_far (by omega) (set_far (by omega) c2))), set_at (set_at (set_at (set_at c3))), fun o => ?_, fun o => ?_, by simpa using hz, ?_⟩
  · simp only [World.frozen?_setCell]; exact f2 o
  · simp only [World.frozen?_setCell]; exact f3 o
  · exact (((hB.setCell (by simp; omega) _).setCell (by simp; omega) _).setCell (by simp; omega) _).setCell (by simp; omega) _
theorem DivMem.quot {w wr : World} {a b Q R j v : Nat} (hj : j < 4) (hv : v < 18446744073709551616) (h : DivMem w a b Q R wr) :
    DivMem w a b (setw Q j v) R (wr.setCell ⟨w.heap.size + 1 + 1, j, none⟩ (.int .u64 (v : Int))) := by
  obtain ⟨c0, c1, c2, c3, f2, f3, hz, hB⟩ := h
  exact ⟨set_far (by omega) c0, set_far (by omega) c1, set_word4 hj hv c2, set_far (by omega) c3, fun o => by rw [World.frozen?_setCell]; exact f2 o, fun o => by rw [World.frozen?_setCell]; exact f3 o, by simpa using hz, hB.setCell (by simp; omega) _⟩
set_option maxHeartbeats 4000000 in
theorem divide_any (a b : Nat) (ha : a < 2 ^ 256) (hb : b < 2 ^ 256) (hb0 : 0 < b) (w : World) :
    Calls Tryd.prog 99 #[(.agg #[.int .u64 (wd (a) 0), .int .u64 (wd (a) 1), .int .u64 (wd (a) 2), .int .u64 (wd (a) 3)]), (.agg #[.int .u64 (wd (b) 0), .int .u64 (wd (b) 1), .int .u64 (wd (b) 2), .int .u64 (wd (b) 3)])] w fun e w' => e = .returned (.tuple #[(.agg #[.int .u64 (wd (a / b) 0), .int .u64 (wd (a / b) 1), .int .u64 (wd (a / b) 2), .int .u64 (wd (a / b) 3)]), (.agg #[.int .u64 (wd (a % b) 0), .int .u64 (wd (a % b) 1), .int .u64 (wd (a % b) 2), .int .u64 (wd (a % b) 3)])]) ∧ Below w.heap.size w w' := by
  have HA := Lib.hid ha
  have HB := Lib.hid hb
  have HB0 := Lib.hid hb0
  clear ha hb hb0
  go_enter Tryd.func99, Tryd.ntmps99
  go_wp2
  go_loopw [6] (fun i wr => ∃ k Q R : Nat, k ≤ 256 ∧ i = .int .i64 ((k : Int) - 1) ∧ DivInv a b k Q R ∧ DivMem w a b Q R wr) (fun i _ => (intOf i + 1).toNat)
  case atStart =>
    refine ⟨256, 0, 0, by omega, by rfl, DivInv.start HA.out, ?_⟩
    refine ⟨fun o => by simp [go_sem], fun o => by simp [go_sem], fun o => ?_, fun o => ?_, fun o => by simp [go_sem], fun o => by simp [go_sem], by simp, by go_grown⟩
    all_goals
      simp only [wd_zero.1, wd_zero.2.1, wd_zero.2.2.1, wd_zero.2.2.2]
      simp [go_sem]
  case round =>
    obtain ⟨k, Q, R, hk, rfl, HI, HM⟩ := hrel
    by_cases h0 : k = 0
    · subst h0
      obtain ⟨rfl, rfl⟩ := HI.done
      have HM0 := Lib.hid HM
      obtain ⟨c0, c1, c2, c3, f2, f3, hz, hb⟩ := HM
      go_wp2
      go_region
      go_wp2
      go_wp2_with ((with_reducible show bodyPost _ _ _ _ _ _); refine bodyPost_ret (by simp [results, Tryd.results99, go_sem, c2, c3, hz]; try rfl) rfl ?_; exact ⟨rfl, by (repeat' first | (with_reducible first | exact Bq0 | assumption | refine Bq1 ?_ | refine Bq2 ?_ | refine Bq3 ?_ ?_ | refine Bq4 ?_ (by assumption)) | go_size)⟩)
    · obtain ⟨n, rfl⟩ : ∃ n, k = n + 1 := ⟨k - 1, by omega⟩
      rw [show (((n + 1 : Nat) : Int) - 1) = (n : Int) by omega]
      have hn : (n : Int) ≤ 255 := by omega
      clear hk h0
      have HM0 := Lib.hid HM
      obtain ⟨c0, c1, c2, c3, f2, f3, hz, hb⟩ := HM
      have ca : wr.cell? ⟨w.heap.size, n / 64, none⟩ = some (.int .u64 (wd a (n / 64))) := by rw [c0, get_words4 a (n / 64) (by omega)]
      have q1 : IntKind.i64.wrap ((n : Int) / 64) = (n : Int) / 64 := by rw [IntKind.wrap_i64]; omega
      have q2 : IntKind.i64.wrap ((n : Int) % 64) = (n : Int) % 64 := by rw [IntKind.wrap_i64]; omega
      have q3 : (n : Int) / 64 < 4 := by omega
      have q4 : (0 : Int) ≤ (n : Int) / 64 := by omega
      have q5 : ((n : Int) / 64).toNat = n / 64 := by omega
      have q6 : ((n : Int) % 64).toNat = n % 64 := by omega
      have q7 : (n : Int) % 64 < 64 := by omega
      have q8 : (0 : Int) ≤ (n : Int) % 64 := by omega
      have t1 : (0 : Int) ≤ (n : Int).tmod 64 := by rw [Int.tmod_eq_emod_of_nonneg (by omega)]; omega
      have t2 : ((n : Int).tmod 64).toNat = n % 64 := by rw [Int.tmod_eq_emod_of_nonneg (by omega)]; omega
      have t3 : min (n % 64) 64 = n % 64 := by omega
      have t4 := bit_wd a n
      have TW := Lib.hid (twice_any R (bitN a n) (Nat.lt_trans (HI.rest_lt HB0.out) HB.out) (bitN_le a n))
      go_upto_region 4 with (fail)
      go_cut [7, 8] (fun v7 v8 wx => ∃ B : Nat, v7 = .pointer (some ⟨B, 0, none⟩) ∧ v8 = .int .u64 (twLost R (bitN a n) : Int) ∧ wr.heap.size ≤ B ∧ B < wx.heap.size ∧ (∀ o, wx.cell? ⟨B, o, none⟩ = (#[.int .u64 (wd (tw R (bitN a n)) 0), .int .u64 (wd (tw R (bitN a n)) 1), .int .u64 (wd (tw R (bitN a n)) 2), .int .u64 (wd (tw R (bitN a n)) 3)] : Array Value)[o]?) ∧ (∀ o, wx.frozen? ⟨B, o, none⟩ = false) ∧ Below wr.heap.size wr wx)
      case first =>
        refine wp_world (fun x => (x.cell? ⟨w.heap.size, n / 64, none⟩ = some (.int .u64 (wd a (n / 64)))) ∧ (∀ o, x.cell? ⟨w.heap.size + 1 + 1 + 1, o, none⟩ = (#[.int .u64 (wd (R) 0), .int .u64 (wd (R) 1), .int .u64 (wd (R) 2), .int .u64 (wd (R) 3)] : Array Value)[o]?) ∧ w.heap.size < x.heap.size ∧ w.heap.size + 1 + 1 + 1 < x.heap.size ∧ Below wr.heap.size wr x) (by (repeat' apply And.intro) <;> first | (intro o; simp [go_sem, ca, c3, hz]; done) | (simp [go_sem, ca, c3, hz]; done) | (intro o; rcases o with _ | _ | _ | _ | _ | o <;> simp [go_sem, ca, c3, hz]; done) | ((repeat' first | (with_reducible first | exact Bq0 | assumption | refine Bq1 ?_ | refine Bq2 ?_ | refine Bq3 ?_ ?_ | refine Bq4 ?_ (by assumption)) | go_size); done) | omega | (simp [go_sem, ca, c3, hz]; omega)) ?_
        rintro W ⟨hWc0, hWc1, hWz0, hWz1, hWb⟩
        have hWK := Lib.hid (show ∀ x : World, Kp W.heap.size [] W x → ((x.cell? ⟨w.heap.size, n / 64, none⟩ = some (.int .u64 (wd a (n / 64)))) ∧ (∀ o, x.cell? ⟨w.heap.size + 1 + 1 + 1, o, none⟩ = (#[.int .u64 (wd (R) 0), .int .u64 (wd (R) 1), .int .u64 (wd (R) 2), .int .u64 (wd (R) 3)] : Array Value)[o]?) ∧ w.heap.size < x.heap.size ∧ w.heap.size + 1 + 1 + 1 < x.heap.size ∧ W.heap.size ≤ x.heap.size) from fun x k => ⟨(k.cell _ _ hWz0 (by first | (simp; done) | (simp; omega))).trans hWc0, fun o => (k.cell _ o hWz1 (by first | (simp; done) | (simp; omega))).trans (hWc1 o), Nat.lt_of_lt_of_le hWz0 k.size, Nat.lt_of_lt_of_le hWz1 k.size, k.size⟩)
        go_region_held3 (fun x => (x.cell? ⟨w.heap.size, n / 64, none⟩ = some (.int .u64 (wd a (n / 64)))) ∧ (∀ o, x.cell? ⟨w.heap.size + 1 + 1 + 1, o, none⟩ = (#[.int .u64 (wd (R) 0), .int .u64 (wd (R) 1), .int .u64 (wd (R) 2), .int .u64 (wd (R) 3)] : Array Value)[o]?) ∧ w.heap.size < x.heap.size ∧ w.heap.size + 1 + 1 + 1 < x.heap.size ∧ W.heap.size ≤ x.heap.size) ((refine hWK.out _ ?_; (repeat first | (with_reducible first | assumption | exact Kq0 | refine Kq1 ?_ | refine Kq2 ?_) | ((with_reducible refine Kq3 ?_ ?_); focus first | (left; go_size; done) | (right; simp; done)) | (with_reducible apply Kp.later; assumption)))) ((first | (go_at_call 91; (with_reducible refine (TW.out _).mono ?_); rintro e W_1 ⟨rfl, hbW_1⟩; have hkW_1 : Kp W.heap.size [] W W_1 := (by (repeat first | (with_reducible first | assumption | exact Kq0 | refine Kq1 ?_ | refine Kq2 ?_) | ((with_reducible refine Kq3 ?_ ?_); focus first | (left; go_size; done) | (right; simp; done)) | (with_reducible apply Kp.later; assumption))); have hW_1k := fun o => (bcell hbW_1).1 W.heap.size o; have hW_1g := fun o => (bcell hbW_1).2 W.heap.size o; have hW_1s := hkW_1.size)))
        all_goals go_wp2
        all_goals go_meet
        · case rel =>
            refine ⟨_, rfl, rfl, ?_, ?_, ?_, ?_, ?_⟩
            · have := hWb.size; omega
            · simp
            · intro o; simp [go_sem]
            · intro o; simp [go_sem]
            · (repeat' first | (with_reducible first | exact Bq0 | assumption | refine Bq1 ?_ | refine Bq2 ?_ | refine Bq3 ?_ ?_ | refine Bq4 ?_ (by assumption)) | go_size)
        · case rel =>
            refine ⟨_, rfl, rfl, ?_, ?_, ?_, ?_, ?_⟩
            · have := hWb.size; omega
            · have := hbW_1.size; simp at this ⊢; omega
            · exact set_at (set_at (set_at (set_at (xs := #[.int .u64 0, .int .u64 0, .int .u64 0, .int .u64 0]) (fun o => (hW_1k o (by simp)).trans (by simp [go_sem])))))
            · intro o; simp [go_sem, hW_1g]
            · have hws := hWb.size
              (repeat' first | (with_reducible first | exact Bq0 | assumption | refine Bq1 ?_ | refine Bq2 ?_ | refine Bq3 ?_ ?_ | refine Bq4 ?_ (by assumption)) | go_size)
      case rest =>
        obtain ⟨B, rfl, rfl, hB1, hB2, hB3, hB4, hB5⟩ := hcut
        have hR := HI.rest_lt HB0.out
        have h1 : wc.cell? ⟨w.heap.size, n / 64, none⟩ = some (.int .u64 (wd a (n / 64))) := keep_one hB5 (by omega) ca
        have D := HM0.out.later hB5
        obtain ⟨d0, d1, d2, d3, g2, g3, dz, db⟩ := D
        have H5 := minus_any (tw R (bitN a n)) b (Nat.le_trans (Nat.le_of_lt HB.out) (Nat.le_add_left _ _))
        have hB6 : w.heap.size + 1 + 1 + 1 < B := by omega
        clear c0 c1 c2 c3 f2 f3 ca t4
        rcases div_word HB.out hR (bitN_le a n) with ⟨e1, e2, e3⟩ | ⟨e1, e4, e2, e3⟩ | ⟨e1, e4, e2, e3⟩
        · rw [e1]
          have E2 := Lib.hid e2
          have E3 := Lib.hid e3
          have K5 := Lib.hid H5
          have HI' := Lib.hid HI
          clear hR e1 e2 e3 H5 HI
          go_wp2_with fail
          ((with_reducible refine (K5.out _).mono ?_); rintro e w5 ⟨rfl, hb5⟩)
          obtain ⟨hc5, hf5⟩ := bcell hb5
          have hz5_w_0 : w.heap.size < w5.heap.size := by have h := hb5.size; (try simp at h); omega
          have hz5_w_1 : w.heap.size + 1 < w5.heap.size := by have h := hb5.size; (try simp at h); omega
          have hz5_w_2 : w.heap.size + 1 + 1 < w5.heap.size := by have h := hb5.size; (try simp at h); omega
          have hz5_w_3 : w.heap.size + 1 + 1 + 1 < w5.heap.size := by have h := hb5.size; (try simp at h); omega
          have hB7 : B < w5.heap.size := Nat.lt_of_lt_of_le hB2 hb5.size
          have D5 := (HM0.out.later hB5).later hb5
          go_wp2_with fail
          refine wp_world (DivMem w a b Q (df (tw R (bitN a n)) b)) (D5.rest.rest.alloc _) ?_
          intro W HW0
          have c2' : W.cell? ⟨w.heap.size + 1 + 1, n / 64, none⟩ = some (.int .u64 (wd Q (n / 64))) := by rw [HW0.2.2.1, get_words4 Q (n / 64) (by omega)]
          have f2' := HW0.2.2.2.2.1 (n / 64)
          have HW := Lib.hid HW0
          clear HW0 D5
          go_region
          go_wp2
          go_roundw
          case rel =>
            refine ⟨n, Q + 2 ^ n, 2 * R + bitN a n - b, by omega, rfl, HI'.out.next_yes HB0.out E2.out, ?_⟩
            rw [← E3.out, ← HI'.out.bit.1, HI'.out.bit.2.1]
            exact (HW.out.quot (by omega) HI'.out.bit.2.2).drew
          case measure => simp [intOf]
        · rw [e1]
          rw [e4] at H5
          clear e4
          have E2 := Lib.hid e2
          have E3 := Lib.hid e3
          have K5 := Lib.hid H5
          have HI' := Lib.hid HI
          clear hR e1 e2 e3 H5 HI
          go_wp2_with fail
          ((with_reducible refine (K5.out _).mono ?_); rintro e w5 ⟨rfl, hb5⟩)
          obtain ⟨hc5, hf5⟩ := bcell hb5
          have hz5_w_0 : w.heap.size < w5.heap.size := by have h := hb5.size; (try simp at h); omega
          have hz5_w_1 : w.heap.size + 1 < w5.heap.size := by have h := hb5.size; (try simp at h); omega
          have hz5_w_2 : w.heap.size + 1 + 1 < w5.heap.size := by have h := hb5.size; (try simp at h); omega
          have hz5_w_3 : w.heap.size + 1 + 1 + 1 < w5.heap.size := by have h := hb5.size; (try simp at h); omega
          have hB7 : B < w5.heap.size := Nat.lt_of_lt_of_le hB2 hb5.size
          have D5 := (HM0.out.later hB5).later hb5
          go_wp2_with fail
          refine wp_world (DivMem w a b Q (df (tw R (bitN a n)) b)) (D5.rest.rest.alloc _) ?_
          intro W HW0
          have c2' : W.cell? ⟨w.heap.size + 1 + 1, n / 64, none⟩ = some (.int .u64 (wd Q (n / 64))) := by rw [HW0.2.2.1, get_words4 Q (n / 64) (by omega)]
          have f2' := HW0.2.2.2.2.1 (n / 64)
          have HW := Lib.hid HW0
          clear HW0 D5
          go_region
          go_wp2
          go_roundw
          case rel =>
            refine ⟨n, Q + 2 ^ n, 2 * R + bitN a n - b, by omega, rfl, HI'.out.next_yes HB0.out E2.out, ?_⟩
            rw [← E3.out, ← HI'.out.bit.1, HI'.out.bit.2.1]
            exact (HW.out.quot (by omega) HI'.out.bit.2.2).drew
          case measure => simp [intOf]
        · rw [e1]
          rw [e4] at H5
          clear e4
          have E2 := Lib.hid e2
          have E3 := Lib.hid e3
          have K5 := Lib.hid H5
          have HI' := Lib.hid HI
          clear hR e1 e2 e3 H5 HI
          go_wp2_with fail
          ((with_reducible refine (K5.out _).mono ?_); rintro e w5 ⟨rfl, hb5⟩)
          obtain ⟨hc5, hf5⟩ := bcell hb5
          have hz5_w_0 : w.heap.size < w5.heap.size := by have h := hb5.size; (try simp at h); omega
          have hz5_w_1 : w.heap.size + 1 < w5.heap.size := by have h := hb5.size; (try simp at h); omega
          have hz5_w_2 : w.heap.size + 1 + 1 < w5.heap.size := by have h := hb5.size; (try simp at h); omega
          have hz5_w_3 : w.heap.size + 1 + 1 + 1 < w5.heap.size := by have h := hb5.size; (try simp at h); omega
          have hB7 : B < w5.heap.size := Nat.lt_of_lt_of_le hB2 hb5.size
          have D5 := (HM0.out.later hB5).later hb5
          go_wp2_with fail
          go_roundw
          case rel =>
            refine ⟨n, Q, 2 * R + bitN a n, by omega, rfl, HI'.out.next_no HB0.out E2.out, ?_⟩
            rw [← E3.out]
            exact D5.rest.alloc _
          case measure => simp [intOf]
end Go.Proofs.YthikaimhmpenhaaDoor

namespace Go.Proofs.YthikaimhmpenhaaDoor
set_option linter.all false
open Go Go.RowKit Wd
@[irreducible] def divQ (x y : Int) : Int := if y = 0 then 0 else if 0 < y then x / y else (-x) / (-y)
@[irreducible] def divR (x y : Int) : Int := if y = 0 then 0 else if 0 < y then x % y else -((-x) % (-y))
@[irreducible] def divE (y : Int) : Int := if y = 0 then 22 else 0
theorem ediv_of {x b q r : Int} (hb : 0 < b) (h : r + b * q = x) (h0 : 0 ≤ r) (h1 : r < b) : x / b = q ∧ x % b = r := (Int.ediv_emod_unique hb).2 ⟨h, h0, h1⟩
theorem nat_parts (a b : Nat) (hb : 0 < b) : (a : Int) = (a % b : Nat) + (b : Int) * (a / b : Nat) ∧ ((a % b : Nat) : Int) < b ∧ (0 : Int) ≤ (a % b : Nat) := by
  refine ⟨?_, by have := Nat.mod_lt a hb; omega, by omega⟩
  have := Nat.mod_add_div a b
  have h : ((a % b + b * (a / b) : Nat) : Int) = (a : Int) := by rw [this]
  rw [← h, Int.natCast_add, Int.natCast_mul]
theorem div_keep {s t : Bool} {a b : Nat} (hb : 0 < b) (h : (s != t) = false ∨ a % b = 0) : divQ (val s a) (val t b) = val (s != t) (a / b) ∧ divR (val s a) (val t b) = val t (a % b) ∧ divE (val t b) = 0 := by
  obtain ⟨h1, h2, h3⟩ := nat_parts a b hb
  generalize a / b = q at *
  generalize a % b = r at *
  unfold divQ divR divE val
  cases s <;> cases t <;> simp at h ⊢
  · obtain ⟨e1, e2⟩ := ediv_of (x := (a : Int)) (b := b) (q := q) (r := r) (by omega) h1.symm h3 h2
    rw [if_neg (by omega), if_pos (by omega), if_neg (by omega), if_pos (by omega)]; exact ⟨e1, e2, by omega⟩
  · subst h
    obtain ⟨e1, e2⟩ := ediv_of (x := -(a : Int)) (b := b) (q := -q) (r := 0) (by omega) (by rw [h1, Int.mul_neg]; omega) (by omega) (by omega)
    rw [if_neg (by omega), if_neg (by omega), if_neg (by omega), if_neg (by omega), e1, e2]; exact ⟨rfl, by omega, by omega⟩
  · subst h
    obtain ⟨e1, e2⟩ := ediv_of (x := -(a : Int)) (b := b) (q := -q) (r := 0) (by omega) (by rw [h1, Int.mul_neg]; omega) (by omega) (by omega)
    rw [if_neg (by omega), if_pos (by omega), if_neg (by omega), if_pos (by omega), e1, e2]; exact ⟨rfl, by omega, by omega⟩
  · obtain ⟨e1, e2⟩ := ediv_of (x := (a : Int)) (b := b) (q := q) (r := r) (by omega) h1.symm h3 h2
    rw [if_neg (by omega), if_neg (by omega), if_neg (by omega), if_neg (by omega), e1, e2]; exact ⟨rfl, by omega, by omega⟩
theorem div_zero (s t : Bool) (a : Nat) : divQ (val s a) (val t 0) = 0 ∧ divR (val s a) (val t 0) = 0 ∧ divE (val t 0) = 22 := by
  unfold divQ divR divE val
  cases t <;> simp
theorem wd_one : wd 1 0 = 1 ∧ wd 1 1 = 0 ∧ wd 1 2 = 0 ∧ wd 1 3 = 0 := by
  have := wd_small (n := 1) (by omega)
  simpa using this
end Go.Proofs.YthikaimhmpenhaaDoor
