/-
  What package ratio's functions on long integers return, of integers that fit in a word: zero, product.
  (Written by wip/pack.py out of XFSgA.)
-/
import Derived.Test.YthikaimhmpenhaaDoorK06

namespace Go.Proofs.YthikaimhmpenhaaDoor
set_option linter.all false
open Go Go.RowKit Wd
set_option maxRecDepth 100000
theorem zs_mul {s t : Bool} {a b : Nat} : zs (val s a * val t b) = (!(s == t) && !eqN (a * b) 0) := by
  rw [val_mul]
  unfold zs eqN val
  generalize a * b = P
  by_cases h : P = 0
  · subst h; cases s <;> cases t <;> rfl
  · have h1 : ¬ ((P : Int) < 0) := by omega
    have h2 : (0 : Int) < P := by omega
    cases s <;> cases t <;> simp [h] <;> omega
theorem zeroI (s : Bool) (S : Nat) (w : World) :
    Calls Tryd.prog 77 #[(.agg #[.bool (s), .int .u64 ↑S, .int .u64 0, .int .u64 0, .int .u64 0, .int .u64 0, .int .u64 0, .int .u64 0, .int .u64 0, .int .u64 0])] w fun e w' => e = .returned (.bool (eqN S 0)) ∧ Below w.heap.size w w' := by
  have K := eq_long S
  generalize eqN S 0 = r at *
  go_enter Tryd.func77, Tryd.ntmps77
  go_wp2_with ((with_reducible show bodyPost _ _ _ _ _ _); refine bodyPost_ret (by simp [results, Tryd.results77, go_sem, ]; try rfl) rfl ?_; exact ⟨rfl, by (repeat' first | (with_reducible first | exact Bq0 | assumption | refine Bq1 ?_ | refine Bq2 ?_ | refine Bq3 ?_ ?_ | refine Bq4 ?_ (by assumption)) | go_size)⟩)
def ProMI (w : World) (s t : Bool) (a b T : Nat) (wr : World) : Prop :=
  (∀ o, wr.cell? ⟨w.heap.size, o, none⟩ = (#[.bool (s), .int .u64 (wd (a) 0), .int .u64 (wd (a) 1), .int .u64 (wd (a) 2), .int .u64 (wd (a) 3)] : Array Value)[o]?) ∧ (∀ o, wr.cell? ⟨w.heap.size + 1, o, none⟩ = (#[.bool (t), .int .u64 (wd (b) 0), .int .u64 (wd (b) 1), .int .u64 (wd (b) 2), .int .u64 (wd (b) 3)] : Array Value)[o]?)
  ∧ (∀ o, wr.cell? ⟨w.heap.size + 1 + 1, o, none⟩ = (#[.bool false, .int .u64 (((0) : Nat) : Int), .int .u64 0, .int .u64 0, .int .u64 0, .int .u64 0, .int .u64 0, .int .u64 0, .int .u64 0, .int .u64 0] : Array Value)[o]?)
  ∧ (∀ o, wr.cell? ⟨w.heap.size + 1 + 1 + 1, o, none⟩ = (#[.bool false, .int .u64 (wd (T) 0), .int .u64 (wd (T) 1), .int .u64 (wd (T) 2), .int .u64 (wd (T) 3), .int .u64 (wd (T) 4), .int .u64 (wd (T) 5), .int .u64 (wd (T) 6), .int .u64 (wd (T) 7), .int .u64 (wd (T) 8)] : Array Value)[o]?)
  ∧ (∀ o, wr.frozen? ⟨w.heap.size + 1 + 1, o, none⟩ = false) ∧ (∀ o, wr.frozen? ⟨w.heap.size + 1 + 1 + 1, o, none⟩ = false)
  ∧ w.heap.size + 1 + 1 + 1 < wr.heap.size ∧ Below w.heap.size w wr
theorem ProMI.set {w wr : World} {s t : Bool} {a b T j v : Nat} (hj : j < 9) (hv : v < 18446744073709551616) (h : ProMI w s t a b T wr) :
    ProMI w s t a b (setw T j v) (wr.setCell ⟨w.heap.size + 1 + 1 + 1, 1 + j, none⟩ (.int .u64 (v : Int))) := by
  obtain ⟨c0, c1, c2, c3, f2, f3, z, hb⟩ := h
  exact ⟨set_far (by omega) c0, set_far (by omega) c1, set_far (by omega) c2, set_long hj hv c3, fun o => by rw [World.frozen?_setCell]; exact f2 o, fun o => by rw [World.frozen?_setCell]; exact f3 o, by simpa using z, hb.setCell (by simp; omega) _⟩
set_option maxHeartbeats 1000000 in
theorem productI (s t : Bool) (a b : Nat) (ha : a < 2 ^ 256) (hb : b < 2 ^ 256) (hab : a * b < 18446744073709551616) (w : World) :
    Calls Tryd.prog 76 #[(.agg #[.bool (s), .int .u64 (wd (a) 0), .int .u64 (wd (a) 1), .int .u64 (wd (a) 2), .int .u64 (wd (a) 3)]), (.agg #[.bool (t), .int .u64 (wd (b) 0), .int .u64 (wd (b) 1), .int .u64 (wd (b) 2), .int .u64 (wd (b) 3)])] w fun e w' => e = .returned (.agg #[.bool (zs (val s a * val t b)), .int .u64 (((a * b) : Nat) : Int), .int .u64 0, .int .u64 0, .int .u64 0, .int .u64 0, .int .u64 0, .int .u64 0, .int .u64 0, .int .u64 0]) ∧ Below w.heap.size w w' := by
  have HA := Lib.hid ha
  have HB := Lib.hid hb
  have HP := Lib.hid (long_words hab)
  rw [zs_mul]
  obtain ⟨P, hP⟩ : ∃ P, P = a * b := ⟨_, rfl⟩
  rw [← hP]
  obtain ⟨r, hr⟩ : ∃ r, r = eqN P 0 := ⟨_, rfl⟩
  have Z0 := Lib.hid (fun w => zeroI false P w)
  rw [← hr] at Z0 ⊢
  clear hr
  rw [← hP] at HP
  have HE := Lib.hid hP
  clear ha hb hab hP
  go_enter Tryd.func76, Tryd.ntmps76
  go_wp2
  go_loopw [16] (fun i wr => ∃ k : Nat, k ≤ 4 ∧ i = .int .i64 k ∧ ProMI w s t a b (rowsIn a b k) wr) (fun i _ => 4 - (intOf i).toNat)
  case atStart =>
    refine ⟨0, by omega, rfl, ?_⟩
    rw [rowsIn_zero]
    refine ⟨fun o => by simp [go_sem], fun o => by simp [go_sem], fun o => by simp [go_sem], fun o => ?_, fun o => by simp [go_sem], fun o => by simp [go_sem], by simp, by go_grown⟩
    simp only [wd_zero8]
    simp [go_sem]
  case round =>
    obtain ⟨k, hk, rfl, HM⟩ := hrel
    by_cases hlt : k < 4
    · have hd0 : decide ((k : Int) < 4) = true := by simp; omega
      have hi := index_mag a k hlt
      have hc1 := HM.2.1
      obtain ⟨wo, rfl⟩ : ∃ wo : World, wo = wr := ⟨_, rfl⟩
      go_wp2
      clear hi hc1
      go_loopw [8, 22] (fun c i wi => ∃ j T d : Nat, j ≤ 4 ∧ i = .int .i64 j ∧ c = .int .u64 d ∧ d ≤ 18446744073709551615 ∧ MulRow a b k j T d ∧ ProMI w s t a b T wi) (fun _ i _ => 4 - (intOf i).toNat)
      case atStart =>
        exact ⟨0, rowsIn a b k, 0, by omega, rfl, rfl, by omega, MulRow.start HB.out, HM⟩
      case round =>
        obtain ⟨j, T, d, hj, rfl, rfl, hd, HR, HI⟩ := hrel
        by_cases hlj : j < 4
        · have hi := index_mag b j hlj
          have hcell : wr.cell? ⟨w.heap.size + 1 + 1 + 1, 1 + (k + j), none⟩ = some (.int .u64 (wn T (k + j) : Int)) := by rw [HI.2.2.2.1, get_words9 T (k + j) (by omega), wd_wn]
          have hfro : wr.frozen? ⟨w.heap.size + 1 + 1 + 1, 1 + (k + j), none⟩ = false := HI.2.2.2.2.2.1 _
          have hm := Lib.hid (mul64_wd a b k j)
          have ha1 := run_add64_nn (mulLo (wn a k) (wn b j)) (wn T (k + j)) (mulLo_lt _ _) (wn_lt _ _)
          have ha2 := run_add64_nn (lo64 (mulLo (wn a k) (wn b j)) (wn T (k + j))) d (lo64_lt _ _) (by omega)
          have hp := mul_place (wn_lt a k) (wn_lt b j) (wn_lt T (k + j)) (by omega : d < 18446744073709551616)
          have hp1 := hp.1
          have hp2 : mulHi (wn a k) (wn b j) + hi64 (mulLo (wn a k) (wn b j)) (wn T (k + j)) + hi64 (lo64 (mulLo (wn a k) (wn b j)) (wn T (k + j))) d ≤ 18446744073709551615 := by rw [hp.2.1]; exact hp.2.2.1
          have HP' := Lib.hid hp
          clear hp
          go_wp2_with fail
          ((with_reducible refine (hm.out _).mono ?_); rintro e w1 ⟨rfl, rfl⟩)
          go_wp2
          go_roundw
          case rel =>
            refine ⟨j + 1, _, _, by omega, by go_num, ?_, ?_, MulRow.next hlj HR, ?_⟩
            · exact congrArg (Value.int .u64) (by rw [← HP'.out.2.1]; simp)
            · have := HP'.out.2.2.1; omega
            · rw [HP'.out.2.2.2]; exact HI.set (by omega) (Nat.mod_lt _ (by omega))
          case measure => simp [intOf]; omega
        · obtain rfl : j = 4 := by omega
          have hcell : wr.cell? ⟨w.heap.size + 1 + 1 + 1, 1 + (k + 4), none⟩ = some (.int .u64 (wn T (k + 4) : Int)) := by rw [HI.2.2.2.1, get_words9 T (k + 4) (by omega), wd_wn]
          have hfro : wr.frozen? ⟨w.heap.size + 1 + 1 + 1, 1 + (k + 4), none⟩ = false := HI.2.2.2.2.2.1 _
          go_wp2
          go_roundw
          case rel =>
            refine ⟨k + 1, by omega, by go_num, ?_⟩
            rw [← MulRow.done HB.out HR]
            exact HI.set (by omega) (by omega)
          case measure => simp [intOf]; omega
    · obtain rfl : k = 4 := by omega
      rw [rowsIn_four HA.out, ← HE.out] at HM
      obtain ⟨c0, c1, c2, c3, f2, f3, hz, hb⟩ := HM
      have q := HP.out
      rw [q.1, q.2.1, q.2.2.1, q.2.2.2.1, q.2.2.2.2.1, q.2.2.2.2.2.1, q.2.2.2.2.2.2.1, q.2.2.2.2.2.2.2.1, q.2.2.2.2.2.2.2.2] at c3
      clear q
      have z0 : w.heap.size < wr.heap.size := by omega
      have z1 : w.heap.size + 1 < wr.heap.size := by omega
      have z2 : w.heap.size + 1 + 1 < wr.heap.size := by omega
      cases s <;> cases t
      case false.false | true.true => go_wp2_with ((with_reducible show bodyPost _ _ _ _ _ _); refine bodyPost_ret (by simp [results, Tryd.results76, go_sem, c0, c1, c2, c3, f2, f3, hz]; try rfl) rfl ?_; exact ⟨rfl, by (repeat' first | (with_reducible first | exact Bq0 | assumption | refine Bq1 ?_ | refine Bq2 ?_ | refine Bq3 ?_ ?_ | refine Bq4 ?_ (by assumption)) | go_size)⟩)
      all_goals
        go_wp2_with fail
        ((with_reducible refine (Z0.out _).mono ?_); rintro e w1 ⟨rfl, hb1⟩)
        have d3 := keep_cell hb1 hz c3
        have e3 := keep_frozen hb1 hz f3
        have y3 := keep_lt hb1 hz
        have d2 := keep_cell hb1 z2 c2
        have e2 := keep_frozen hb1 z2 f2
        have y2 := keep_lt hb1 z2
        clear Z0 c0 c1 c2 c3 f2 f3 hz z0 z1 z2
        cases r
      all_goals go_wp2_with ((with_reducible show bodyPost _ _ _ _ _ _); refine bodyPost_ret (by simp [results, Tryd.results76, go_sem, d3, e3, y3, d2, e2, y2]; try rfl) rfl ?_; exact ⟨rfl, by (repeat' first | (with_reducible first | exact Bq0 | assumption | refine Bq1 ?_ | refine Bq2 ?_ | refine Bq3 ?_ ?_ | refine Bq4 ?_ (by assumption)) | go_size)⟩)
end Go.Proofs.YthikaimhmpenhaaDoor
