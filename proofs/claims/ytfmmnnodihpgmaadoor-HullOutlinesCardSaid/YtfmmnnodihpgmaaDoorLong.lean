/-
  What package ratio's functions on long integers return, of natural numbers that fit in a word: zero, product (of any), plus, short.
-/
import Derived.Test.YtfmmnnodihpgmaaDoorWideC
namespace Go.Proofs.YtfmmnnodihpgmaaDoor
set_option linter.all false
open Go Go.RowKit Wd
set_option maxRecDepth 100000
theorem long_words {S : Nat} (h : S < 18446744073709551616) : wd S 0 = S ∧ wd S 1 = 0 ∧ wd S 2 = 0 ∧ wd S 3 = 0 ∧ wd S 4 = 0 ∧ wd S 5 = 0 ∧ wd S 6 = 0 ∧ wd S 7 = 0 ∧ wd S 8 = 0 := by
  have z : ∀ i, 0 < i → wd S i = 0 := fun i hi => by
    unfold wd
    rw [Nat.div_eq_of_lt (Nat.lt_of_lt_of_le h (by rw [show 18446744073709551616 = 2 ^ 64 from rfl]; exact Nat.pow_le_pow_right (by omega) (by omega)))]
    rfl
  refine ⟨?_, z 1 (by omega), z 2 (by omega), z 3 (by omega), z 4 (by omega), z 5 (by omega), z 6 (by omega), z 7 (by omega), z 8 (by omega)⟩
  unfold wd
  simp only [Nat.mul_zero, Nat.pow_zero, Nat.div_one]
  omega
theorem eq_long (S : Nat) (w : World) : (Op.equalIn 10000 99 (.agg #[.int .u64 (S : Int), .int .u64 0, .int .u64 0, .int .u64 0, .int .u64 0, .int .u64 0, .int .u64 0, .int .u64 0, .int .u64 0]) (.agg #[.int .u64 0, .int .u64 0, .int .u64 0, .int .u64 0, .int .u64 0, .int .u64 0, .int .u64 0, .int .u64 0, .int .u64 0])).run Tryd.prog w = .ok (eqN S 0) w := by
  have h := run_equalIn_array (P := Tryd.prog) w 9999 #[.int .u64 (S : Int), .int .u64 0, .int .u64 0, .int .u64 0, .int .u64 0, .int .u64 0, .int .u64 0, .int .u64 0, .int .u64 0] #[.int .u64 0, .int .u64 0, .int .u64 0, .int .u64 0, .int .u64 0, .int .u64 0, .int .u64 0, .int .u64 0, .int .u64 0] (i := _) Tryd.underlying99 (by rfl)
  rw [h, cells_u64]
  simp [List.range, List.range.loop, Op.eqItems, go_sem]
  by_cases h0 : S = 0 <;> simp [h0, eqN]
theorem zero_any' (S : Nat) (w : World) :
    Calls Tryd.prog 72 #[(.agg #[.bool false, .int .u64 (((S) : Nat) : Int), .int .u64 0, .int .u64 0, .int .u64 0, .int .u64 0, .int .u64 0, .int .u64 0, .int .u64 0, .int .u64 0])] w fun e w' => e = .returned (.bool (eqN S 0)) ∧ Below w.heap.size w w' := by
  have K := eq_long S
  generalize eqN S 0 = r at *
  go_enter Tryd.func72, Tryd.ntmps72
  go_wp2_with ((with_reducible show bodyPost _ _ _ _ _ _); refine bodyPost_ret (by simp [results, Tryd.results72, go_sem, ]; try rfl) rfl ?_; exact ⟨rfl, by (repeat' (first | (with_reducible exact Below.refl _ _) | (with_reducible assumption) | (with_reducible refine below_alloc ?_ _) | (with_reducible refine Below.drew ?_) | (with_reducible refine Below.setCell ?_ ?_ _) | (with_reducible refine below_after ?_ (by assumption)) | go_size))⟩)
theorem get_words9 (b j : Nat) (hj : j < 9) : (#[.bool false, .int .u64 (wd (b) 0), .int .u64 (wd (b) 1), .int .u64 (wd (b) 2), .int .u64 (wd (b) 3), .int .u64 (wd (b) 4), .int .u64 (wd (b) 5), .int .u64 (wd (b) 6), .int .u64 (wd (b) 7), .int .u64 (wd (b) 8)] : Array Value)[1 + j]? = some (.int .u64 (wd b j)) := by
  match j, hj with
  | 0, _ | 1, _ | 2, _ | 3, _ | 4, _ | 5, _ | 6, _ | 7, _ | 8, _ => rfl
theorem set_long {w : World} {B T s v : Nat} (hs : s < 9) (hv : v < 18446744073709551616) (h : ∀ o, w.cell? ⟨B, o, none⟩ = (#[.bool false, .int .u64 (wd (T) 0), .int .u64 (wd (T) 1), .int .u64 (wd (T) 2), .int .u64 (wd (T) 3), .int .u64 (wd (T) 4), .int .u64 (wd (T) 5), .int .u64 (wd (T) 6), .int .u64 (wd (T) 7), .int .u64 (wd (T) 8)] : Array Value)[o]?) :
    ∀ o, (w.setCell ⟨B, 1 + s, none⟩ (.int .u64 (v : Int))).cell? ⟨B, o, none⟩ = (#[.bool false, .int .u64 (wd (setw T s v) 0), .int .u64 (wd (setw T s v) 1), .int .u64 (wd (setw T s v) 2), .int .u64 (wd (setw T s v) 3), .int .u64 (wd (setw T s v) 4), .int .u64 (wd (setw T s v) 5), .int .u64 (wd (setw T s v) 6), .int .u64 (wd (setw T s v) 7), .int .u64 (wd (setw T s v) 8)] : Array Value)[o]? := by
  intro o
  by_cases ho : o = 1 + s
  · subst ho
    rw [World.cell?_setCell_same _ _ _ (u := .int .u64 (wd T s)) (by rw [h, get_words9 T s hs]), get_words9 _ s hs, wd_set_same T s v hv]
  · rw [World.cell?_setCell_other _ _ _ _ (by intro e; exact ho (congrArg Addr.off e).symm), h]
    by_cases h0 : o = 0
    · subst h0; rfl
    · obtain ⟨j, rfl⟩ : ∃ j, o = 1 + j := ⟨o - 1, by omega⟩
      by_cases h8 : j < 9
      · rw [get_words9 T j h8, get_words9 _ j h8]
        rcases Nat.lt_or_gt_of_ne (show j ≠ s by omega) with h1 | h1
        · rw [wd_set_low T s v j h1]
        · rw [wd_set_high T s v j hv h1]
      · rw [Array.getElem?_eq_none (by simp; omega), Array.getElem?_eq_none (by simp; omega)]
/-- The call's own memory while it multiplies; T: the number in the array of nine words. -/
def ProMem (w : World) (a b T : Nat) (wr : World) : Prop :=
  (∀ o, wr.cell? ⟨w.heap.size, o, none⟩ = (#[.bool (false), .int .u64 (wd (a) 0), .int .u64 (wd (a) 1), .int .u64 (wd (a) 2), .int .u64 (wd (a) 3)] : Array Value)[o]?) ∧ (∀ o, wr.cell? ⟨w.heap.size + 1, o, none⟩ = (#[.bool (false), .int .u64 (wd (b) 0), .int .u64 (wd (b) 1), .int .u64 (wd (b) 2), .int .u64 (wd (b) 3)] : Array Value)[o]?)
  ∧ (∀ o, wr.cell? ⟨w.heap.size + 1 + 1, o, none⟩ = (#[.bool false, .int .u64 (((0) : Nat) : Int), .int .u64 0, .int .u64 0, .int .u64 0, .int .u64 0, .int .u64 0, .int .u64 0, .int .u64 0, .int .u64 0] : Array Value)[o]?)
  ∧ (∀ o, wr.cell? ⟨w.heap.size + 1 + 1 + 1, o, none⟩ = (#[.bool false, .int .u64 (wd (T) 0), .int .u64 (wd (T) 1), .int .u64 (wd (T) 2), .int .u64 (wd (T) 3), .int .u64 (wd (T) 4), .int .u64 (wd (T) 5), .int .u64 (wd (T) 6), .int .u64 (wd (T) 7), .int .u64 (wd (T) 8)] : Array Value)[o]?)
  ∧ (∀ o, wr.frozen? ⟨w.heap.size + 1 + 1, o, none⟩ = false) ∧ (∀ o, wr.frozen? ⟨w.heap.size + 1 + 1 + 1, o, none⟩ = false)
  ∧ w.heap.size + 1 + 1 + 1 < wr.heap.size ∧ Below w.heap.size w wr
theorem ProMem.set {w wr : World} {a b T j v : Nat} (hj : j < 9) (hv : v < 18446744073709551616) (h : ProMem w a b T wr) :
    ProMem w a b (setw T j v) (wr.setCell ⟨w.heap.size + 1 + 1 + 1, 1 + j, none⟩ (.int .u64 (v : Int))) := by
  obtain ⟨c0, c1, c2, c3, f2, f3, z, hb⟩ := h
  exact ⟨set_far (by omega) c0, set_far (by omega) c1, set_far (by omega) c2, set_long hj hv c3, fun o => by rw [World.frozen?_setCell]; exact f2 o, fun o => by rw [World.frozen?_setCell]; exact f3 o, by simpa using z, hb.setCell (by simp; omega) _⟩
set_option maxHeartbeats 1000000 in
/-- product: of natural numbers whose product fits in a word. -/
theorem product_any (a b : Nat) (ha : a < 2 ^ 256) (hb : b < 2 ^ 256) (hab : a * b < 18446744073709551616) (w : World) :
    Calls Tryd.prog 71 #[(.agg #[.bool (false), .int .u64 (wd (a) 0), .int .u64 (wd (a) 1), .int .u64 (wd (a) 2), .int .u64 (wd (a) 3)]), (.agg #[.bool (false), .int .u64 (wd (b) 0), .int .u64 (wd (b) 1), .int .u64 (wd (b) 2), .int .u64 (wd (b) 3)])] w fun e w' => e = .returned (.agg #[.bool false, .int .u64 (((a * b) : Nat) : Int), .int .u64 0, .int .u64 0, .int .u64 0, .int .u64 0, .int .u64 0, .int .u64 0, .int .u64 0, .int .u64 0]) ∧ Below w.heap.size w w' := by
  have HA := Lib.hid ha
  have HB := Lib.hid hb
  have HP := Lib.hid (long_words hab)
  obtain ⟨P, hP⟩ : ∃ P, P = a * b := ⟨_, rfl⟩
  rw [← hP]
  rw [← hP] at HP
  have HE := Lib.hid hP
  clear ha hb hab hP
  go_enter Tryd.func71, Tryd.ntmps71
  go_wp2
  go_loopw [16] (fun i wr => ∃ k : Nat, k ≤ 4 ∧ i = .int .i64 k ∧ ProMem w a b (rowsIn a b k) wr) (fun i _ => 4 - (intOf i).toNat)
  case atStart =>
    refine ⟨0, by omega, rfl, ?_⟩
    rw [rowsIn_zero]
    refine ⟨fun o => by simp [go_sem], fun o => by simp [go_sem], fun o => by simp [go_sem], fun o => ?_, fun o => by simp [go_sem], fun o => by simp [go_sem], by simp, by go_grown⟩
    simp only [wd_zero8]
    simp [go_sem]
  case round =>
    obtain ⟨k, hk, rfl, HM⟩ := hrel
    by_cases hlt : k < 4
    · have hd0 : decide ((k : Int) < 4) = true := by simp; omega
      have hi := index_mag a k hlt
      have hc1 := HM.2.1
      obtain ⟨wo, rfl⟩ : ∃ wo : World, wo = wr := ⟨_, rfl⟩
      go_wp2
      clear hi hc1
      go_loopw [8, 22] (fun c i wi => ∃ j T d : Nat, j ≤ 4 ∧ i = .int .i64 j ∧ c = .int .u64 d ∧ d ≤ 18446744073709551615 ∧ MulRow a b k j T d ∧ ProMem w a b T wi) (fun _ i _ => 4 - (intOf i).toNat)
      case atStart =>
        exact ⟨0, rowsIn a b k, 0, by omega, rfl, rfl, by omega, MulRow.start HB.out, HM⟩
      case round =>
        obtain ⟨j, T, d, hj, rfl, rfl, hd, HR, HI⟩ := hrel
        by_cases hlj : j < 4
        · have hi := index_mag b j hlj
          have hcell : wr.cell? ⟨w.heap.size + 1 + 1 + 1, 1 + (k + j), none⟩ = some (.int .u64 (wn T (k + j) : Int)) := by rw [HI.2.2.2.1, get_words9 T (k + j) (by omega), wd_wn]
          have hfro : wr.frozen? ⟨w.heap.size + 1 + 1 + 1, 1 + (k + j), none⟩ = false := HI.2.2.2.2.2.1 _
          have hm := Lib.hid (mul64_wd a b k j)
          have ha1 := run_add64_nn (mulLo (wn a k) (wn b j)) (wn T (k + j)) (mulLo_lt _ _) (wn_lt _ _)
          have ha2 := run_add64_nn (lo64 (mulLo (wn a k) (wn b j)) (wn T (k + j))) d (lo64_lt _ _) (by omega)
          have hp := mul_place (wn_lt a k) (wn_lt b j) (wn_lt T (k + j)) (by omega : d < 18446744073709551616)
          have hp1 := hp.1
          have hp2 : mulHi (wn a k) (wn b j) + hi64 (mulLo (wn a k) (wn b j)) (wn T (k + j)) + hi64 (lo64 (mulLo (wn a k) (wn b j)) (wn T (k + j))) d ≤ 18446744073709551615 := by rw [hp.2.1]; exact hp.2.2.1
          have HP' := Lib.hid hp
          clear hp
          go_wp2_with fail
          ((with_reducible refine (hm.out _).mono ?_); rintro e w1 ⟨rfl, rfl⟩)
          go_wp2
          go_roundw
          case rel =>
            refine ⟨j + 1, _, _, by omega, by go_num, ?_, ?_, MulRow.next hlj HR, ?_⟩
            · exact congrArg (Value.int .u64) (by rw [← HP'.out.2.1]; simp)
            · have := HP'.out.2.2.1; omega
            · rw [HP'.out.2.2.2]; exact HI.set (by omega) (Nat.mod_lt _ (by omega))
          case measure => simp [intOf]; omega
        · obtain rfl : j = 4 := by omega
          have hcell : wr.cell? ⟨w.heap.size + 1 + 1 + 1, 1 + (k + 4), none⟩ = some (.int .u64 (wn T (k + 4) : Int)) := by rw [HI.2.2.2.1, get_words9 T (k + 4) (by omega), wd_wn]
          have hfro : wr.frozen? ⟨w.heap.size + 1 + 1 + 1, 1 + (k + 4), none⟩ = false := HI.2.2.2.2.2.1 _
          go_wp2
          go_roundw
          case rel =>
            refine ⟨k + 1, by omega, by go_num, ?_⟩
            rw [← MulRow.done HB.out HR]
            exact HI.set (by omega) (by omega)
          case measure => simp [intOf]; omega
    · obtain rfl : k = 4 := by omega
      rw [rowsIn_four HA.out, ← HE.out] at HM
      obtain ⟨c0, c1, c2, c3, f2, f3, hz, hb⟩ := HM
      have q := HP.out
      rw [q.1, q.2.1, q.2.2.1, q.2.2.2.1, q.2.2.2.2.1, q.2.2.2.2.2.1, q.2.2.2.2.2.2.1, q.2.2.2.2.2.2.2.1, q.2.2.2.2.2.2.2.2] at c3
      clear q
      have z0 : w.heap.size < wr.heap.size := by omega
      have z1 : w.heap.size + 1 < wr.heap.size := by omega
      go_wp2_with ((with_reducible show bodyPost _ _ _ _ _ _); refine bodyPost_ret (by simp [results, Tryd.results71, go_sem, c0, c1, c2, c3, f2, f3, hz]; try rfl) rfl ?_; exact ⟨rfl, by (repeat' (first | (with_reducible exact Below.refl _ _) | (with_reducible assumption) | (with_reducible refine below_alloc ?_ _) | (with_reducible refine Below.drew ?_) | (with_reducible refine Below.setCell ?_ ?_ _) | (with_reducible refine below_after ?_ (by assumption)) | go_size))⟩)
end Go.Proofs.YtfmmnnodihpgmaaDoor
