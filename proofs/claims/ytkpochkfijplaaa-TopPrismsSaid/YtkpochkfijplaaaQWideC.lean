/-
  What Mul of package wide returns, for all inputs: the exact product, or the error.
-/
import Derived.Test.YtkpochkfijplaaaQWideB
import Derived.Test.YtkpochkfijplaaaQMulM
import Derived.Test.YtkpochkfijplaaaShelf

namespace Go.Proofs.Ytkpochkfijplaaa
set_option linter.all false
open Go Go.RowKit Wd
set_option maxRecDepth 100000
theorem get_words8 (b j : Nat) (hj : j < 8) : (#[.int .u64 (wd (b) 0), .int .u64 (wd (b) 1), .int .u64 (wd (b) 2), .int .u64 (wd (b) 3), .int .u64 (wd (b) 4), .int .u64 (wd (b) 5), .int .u64 (wd (b) 6), .int .u64 (wd (b) 7)] : Array Value)[j]? = some (.int .u64 (wd b j)) := by
  match j, hj with
  | 0, _ | 1, _ | 2, _ | 3, _ | 4, _ | 5, _ | 6, _ | 7, _ => rfl
theorem get_words8_out (b j : Nat) (hj : 8 ≤ j) : (#[.int .u64 (wd (b) 0), .int .u64 (wd (b) 1), .int .u64 (wd (b) 2), .int .u64 (wd (b) 3), .int .u64 (wd (b) 4), .int .u64 (wd (b) 5), .int .u64 (wd (b) 6), .int .u64 (wd (b) 7)] : Array Value)[j]? = none := by
  simp; omega
theorem index_mag (b j : Nat) (hj : j < 4) (w : World) : (Instr.index 40 (.agg #[.int .u64 (wd (b) 0), .int .u64 (wd (b) 1), .int .u64 (wd (b) 2), .int .u64 (wd (b) 3)]) (.int .i64 (j : Int))).run Try.prog w = .ok (.int .u64 (wd b j)) w := by
  obtain rfl | rfl | rfl | rfl : j = 0 ∨ j = 1 ∨ j = 2 ∨ j = 3 := by omega
  all_goals kernel_rfl
/-- a word of the array of eight words is set -/
theorem set_word8 {w : World} {B T s v : Nat} (hs : s < 8) (hv : v < 18446744073709551616) (h : ∀ o, w.cell? ⟨B, o, none⟩ = (#[.int .u64 (wd (T) 0), .int .u64 (wd (T) 1), .int .u64 (wd (T) 2), .int .u64 (wd (T) 3), .int .u64 (wd (T) 4), .int .u64 (wd (T) 5), .int .u64 (wd (T) 6), .int .u64 (wd (T) 7)] : Array Value)[o]?) :
    ∀ o, (w.setCell ⟨B, s, none⟩ (.int .u64 (v : Int))).cell? ⟨B, o, none⟩ = (#[.int .u64 (wd (setw T s v) 0), .int .u64 (wd (setw T s v) 1), .int .u64 (wd (setw T s v) 2), .int .u64 (wd (setw T s v) 3), .int .u64 (wd (setw T s v) 4), .int .u64 (wd (setw T s v) 5), .int .u64 (wd (setw T s v) 6), .int .u64 (wd (setw T s v) 7)] : Array Value)[o]? := by
  intro o
  by_cases ho : o = s
  · subst ho
    rw [World.cell?_setCell_same _ _ _ (u := .int .u64 (wd T o)) (by rw [h, get_words8 T o hs]), get_words8 _ o hs, wd_set_same T o v hv]
  · rw [World.cell?_setCell_other _ _ _ _ (by intro e; exact ho (congrArg Addr.off e).symm), h]
    by_cases h8 : o < 8
    · rw [get_words8 T o h8, get_words8 _ o h8]
      rcases Nat.lt_or_gt_of_ne ho with h1 | h1
      · rw [wd_set_low T s v o h1]
      · rw [wd_set_high T s v o hv h1]
    · rw [get_words8_out T o (by omega), get_words8_out _ o (by omega)]
theorem set_far {w : World} {B B' s : Nat} {v : Value} {xs : Array Value} (hB : B ≠ B') (h : ∀ o, w.cell? ⟨B', o, none⟩ = xs[o]?) : ∀ o, (w.setCell ⟨B, s, none⟩ v).cell? ⟨B', o, none⟩ = xs[o]? := by
  intro o
  rw [World.cell?_setCell_other _ _ _ _ (by intro e; exact hB (congrArg Addr.block e)), h]
/-- The call's own memory while it multiplies; T: the number in the array of eight words. -/
def MulMem (w : World) (s t : Bool) (a b T : Nat) (wr : World) : Prop :=
  (∀ o, wr.cell? ⟨w.heap.size, o, none⟩ = (#[.bool (s), .int .u64 (wd (a) 0), .int .u64 (wd (a) 1), .int .u64 (wd (a) 2), .int .u64 (wd (a) 3)] : Array Value)[o]?) ∧ (∀ o, wr.cell? ⟨w.heap.size + 1, o, none⟩ = (#[.bool (t), .int .u64 (wd (b) 0), .int .u64 (wd (b) 1), .int .u64 (wd (b) 2), .int .u64 (wd (b) 3)] : Array Value)[o]?)
  ∧ (∀ o, wr.cell? ⟨w.heap.size + 1 + 1, o, none⟩ = (#[.bool false, .int .u64 0, .int .u64 0, .int .u64 0, .int .u64 0] : Array Value)[o]?)
  ∧ (∀ o, wr.cell? ⟨w.heap.size + 1 + 1 + 1, o, none⟩ = (#[.int .u64 (wd (T) 0), .int .u64 (wd (T) 1), .int .u64 (wd (T) 2), .int .u64 (wd (T) 3), .int .u64 (wd (T) 4), .int .u64 (wd (T) 5), .int .u64 (wd (T) 6), .int .u64 (wd (T) 7)] : Array Value)[o]?)
  ∧ (∀ o, wr.frozen? ⟨w.heap.size + 1 + 1, o, none⟩ = false) ∧ (∀ o, wr.frozen? ⟨w.heap.size + 1 + 1 + 1, o, none⟩ = false)
  ∧ w.heap.size + 1 + 1 + 1 < wr.heap.size ∧ Below w.heap.size w wr
theorem MulMem.set {w wr : World} {s t : Bool} {a b T j v : Nat} (hj : j < 8) (hv : v < 18446744073709551616) (h : MulMem w s t a b T wr) :
    MulMem w s t a b (setw T j v) (wr.setCell ⟨w.heap.size + 1 + 1 + 1, j, none⟩ (.int .u64 (v : Int))) := by
  obtain ⟨c0, c1, c2, c3, f2, f3, z, hb⟩ := h
  exact ⟨set_far (by omega) c0, set_far (by omega) c1, set_far (by omega) c2, set_word8 hj hv c3, fun o => by rw [World.frozen?_setCell]; exact f2 o, fun o => by rw [World.frozen?_setCell]; exact f3 o, by simpa using z, hb.setCell (by simp; omega) _⟩
theorem array_at (b o : Nat) (w : World) : (Instr.arrayAt 40 (.slice (some ⟨b, o, none⟩) 4 4)).run Try.prog w = .ok (.pointer (some ⟨b, o, none⟩)) w := by kernel_rfl
theorem array_at8 (b o : Nat) (w : World) : (Instr.arrayAt 40 (.slice (some ⟨b, o, none⟩) 4 8)).run Try.prog w = .ok (.pointer (some ⟨b, o, none⟩)) w := by kernel_rfl
theorem eq_high (P : Nat) (hP : P / 2 ^ 256 < 2 ^ 256) (w : World) : (Op.equalIn 10000 40 (.agg #[.int .u64 (wd P 4), .int .u64 (wd P 5), .int .u64 (wd P 6), .int .u64 (wd P 7)]) (.agg #[.int .u64 0, .int .u64 0, .int .u64 0, .int .u64 0])).run Try.prog w = .ok (eqN (P / 2 ^ 256) 0) w := by
  have h := eq_mag0 (P / 2 ^ 256) hP w
  rw [← wd_high P 0, ← wd_high P 1, ← wd_high P 2, ← wd_high P 3] at h
  exact h
theorem val_mul (s t : Bool) (a b : Nat) : val s a * val t b = val (!(s == t)) (a * b) := by
  unfold val; cases s <;> cases t <;> simp [Int.neg_mul, Int.mul_neg]
theorem wd_zero8 (i : Nat) : wd 0 i = 0 := by unfold wd; simp
theorem run_add64_nn (x y : Nat) (hx : x < 18446744073709551616) (hy : y < 18446744073709551616) (w : World) : (callFunc 59 #[.int .u64 (x : Int), .int .u64 (y : Int), .int .u64 0]).run Try.prog w =
      .ok (.value (.tuple #[.int .u64 (lo64 x y : Int), .int .u64 (hi64 x y : Int)])) w := by
  rw [run_callFunc_extern Try.func59 (by kernel_rfl) (by kernel_rfl) (by kernel_rfl) (e := add64Entry) (by kernel_rfl)]
  rw [run_add64 x y 0 (by omega) (by omega) (by omega) (by omega)]
  unfold lo64 hi64
  simp only [Result.andThen, Int.natCast_emod, Int.natCast_ediv, Int.natCast_add]
  simp
theorem mul64_wd (x y i j : Nat) (w : World) : Calls Try.prog 58 #[.int .u64 (wd x i), .int .u64 (wd y j)] w fun e w' => e = .returned (.tuple #[.int .u64 (mulHi (wn x i) (wn y j) : Int), .int .u64 (mulLo (wn x i) (wn y j) : Int)]) ∧ w' = w := by
  rw [wd_wn, wd_wn]
  unfold mulHi mulLo
  exact Try.bits_Mul64 _ _ (wn_lt _ _) (wn_lt _ _) w
set_option maxHeartbeats 1000000 in
/-- Mul: the exact product, or the error. -/
theorem mul_any (s t : Bool) (a b : Nat) (ha : a < 2 ^ 256) (hb : b < 2 ^ 256) (w : World) :
    Calls Try.prog 45 #[(.agg #[.bool (s), .int .u64 (wd (a) 0), .int .u64 (wd (a) 1), .int .u64 (wd (a) 2), .int .u64 (wd (a) 3)]), (.agg #[.bool (t), .int .u64 (wd (b) 0), .int .u64 (wd (b) 1), .int .u64 (wd (b) 2), .int .u64 (wd (b) 3)])] w fun e w' => e = .returned (.tuple #[(.agg #[.bool (zs (fitZ (val s a * val t b))), .int .u64 (wd (Int.natAbs (fitZ (val s a * val t b))) 0), .int .u64 (wd (Int.natAbs (fitZ (val s a * val t b))) 1), .int .u64 (wd (Int.natAbs (fitZ (val s a * val t b))) 2), .int .u64 (wd (Int.natAbs (fitZ (val s a * val t b))) 3)]), .int .i64 (fitE (val s a * val t b))]) ∧ Below w.heap.size w w' := by
  have HA := Lib.hid ha
  have HB := Lib.hid hb
  clear ha hb
  go_enter Try.func45, Try.ntmps45
  go_wp2
  go_loopw [17] (fun i wr => ∃ k : Nat, k ≤ 4 ∧ i = .int .i64 k ∧ MulMem w s t a b (rowsIn a b k) wr) (fun i _ => 4 - (intOf i).toNat)
  case atStart =>
    refine ⟨0, by omega, rfl, ?_⟩
    rw [rowsIn_zero]
    refine ⟨fun o => by simp [go_sem], fun o => by simp [go_sem], fun o => by simp [go_sem], fun o => ?_, fun o => by simp [go_sem], fun o => by simp [go_sem], by simp, by go_grown⟩
    simp only [wd_zero8]
    simp [go_sem]
  case round =>
    obtain ⟨k, hk, rfl, HM⟩ := hrel
    by_cases hlt : k < 4
    · have hd0 : decide ((k : Int) < 4) = true := by simp; omega
      have hi := index_mag a k hlt
      have hc1 := HM.2.1
      obtain ⟨wo, rfl⟩ : ∃ wo : World, wo = wr := ⟨_, rfl⟩
      go_wp2
      clear hi hc1
      go_loopw [9, 23] (fun c i wi => ∃ j T d : Nat, j ≤ 4 ∧ i = .int .i64 j ∧ c = .int .u64 d ∧ d ≤ 18446744073709551615 ∧ MulRow a b k j T d ∧ MulMem w s t a b T wi) (fun _ i _ => 4 - (intOf i).toNat)
      case atStart =>
        exact ⟨0, rowsIn a b k, 0, by omega, rfl, rfl, by omega, MulRow.start HB.out, HM⟩
      case round =>
        obtain ⟨j, T, d, hj, rfl, rfl, hd, HR, HI⟩ := hrel
        by_cases hlj : j < 4
        · have hi := index_mag b j hlj
          have hcell : wr.cell? ⟨w.heap.size + 1 + 1 + 1, k + j, none⟩ = some (.int .u64 (wn T (k + j) : Int)) := by rw [HI.2.2.2.1, get_words8 T (k + j) (by omega), wd_wn]
          have hfro : wr.frozen? ⟨w.heap.size + 1 + 1 + 1, k + j, none⟩ = false := HI.2.2.2.2.2.1 _
          have hm := Lib.hid (mul64_wd a b k j)
          have ha1 := run_add64_nn (mulLo (wn a k) (wn b j)) (wn T (k + j)) (mulLo_lt _ _) (wn_lt _ _)
          have ha2 := run_add64_nn (lo64 (mulLo (wn a k) (wn b j)) (wn T (k + j))) d (lo64_lt _ _) (by omega)
          have hp := mul_place (wn_lt a k) (wn_lt b j) (wn_lt T (k + j)) (by omega : d < 18446744073709551616)
          have hp1 := hp.1
          have hp2 : mulHi (wn a k) (wn b j) + hi64 (mulLo (wn a k) (wn b j)) (wn T (k + j)) + hi64 (lo64 (mulLo (wn a k) (wn b j)) (wn T (k + j))) d ≤ 18446744073709551615 := by rw [hp.2.1]; exact hp.2.2.1
          have HP := Lib.hid hp
          clear hp
          go_wp2_with fail
          ((with_reducible refine (hm.out _).mono ?_); rintro e w1 ⟨rfl, rfl⟩)
          go_wp2
          go_roundw
          case rel =>
            refine ⟨j + 1, _, _, by omega, by go_num, ?_, ?_, MulRow.next hlj HR, ?_⟩
            · exact congrArg (Value.int .u64) (by rw [← HP.out.2.1]; simp)
            · have := HP.out.2.2.1; omega
            · rw [HP.out.2.2.2]; exact HI.set (by omega) (Nat.mod_lt _ (by omega))
          case measure => simp [intOf]; omega
        · obtain rfl : j = 4 := by omega
          have hcell : wr.cell? ⟨w.heap.size + 1 + 1 + 1, k + 4, none⟩ = some (.int .u64 (wn T (k + 4) : Int)) := by rw [HI.2.2.2.1, get_words8 T (k + 4) (by omega), wd_wn]
          have hfro : wr.frozen? ⟨w.heap.size + 1 + 1 + 1, k + 4, none⟩ = false := HI.2.2.2.2.2.1 _
          go_wp2
          go_roundw
          case rel =>
            refine ⟨k + 1, by omega, by go_num, ?_⟩
            rw [← MulRow.done HB.out HR]
            exact HI.set (by omega) (by omega)
          case measure => simp [intOf]; omega
    · obtain rfl : k = 4 := by omega
      rw [rowsIn_four HA.out] at HM
      obtain ⟨c0, c1, c2, c3, f2, f3, hz, hb⟩ := HM
      have k1 := array_at
      have k2 := array_at8
      have k3 := eq_high (a * b) (prod_lt HA.out HB.out)
      by_cases hP : a * b < 2 ^ 256
      · have k4 : eqN (a * b / 2 ^ 256) 0 = true := by unfold eqN; simpa using prod_high.2 hP
        rw [k4] at k3
        have H4 := Lib.hid (signed_any (!(s == t)) (a * b) hP)
        have HP := Lib.hid hP
        clear k4 hP
        go_wp2_with fail
        refine wp_world (fun x => (∀ o, x.cell? ⟨w.heap.size, o, none⟩ = (#[.bool (s), .int .u64 (wd (a) 0), .int .u64 (wd (a) 1), .int .u64 (wd (a) 2), .int .u64 (wd (a) 3)] : Array Value)[o]?) ∧ (∀ o, x.cell? ⟨w.heap.size + 1, o, none⟩ = (#[.bool (t), .int .u64 (wd (b) 0), .int .u64 (wd (b) 1), .int .u64 (wd (b) 2), .int .u64 (wd (b) 3)] : Array Value)[o]?) ∧ (∀ o, x.cell? ⟨w.heap.size + 1 + 1 + 1, o, none⟩ = (#[.int .u64 (wd (a * b) 0), .int .u64 (wd (a * b) 1), .int .u64 (wd (a * b) 2), .int .u64 (wd (a * b) 3), .int .u64 (wd (a * b) 4), .int .u64 (wd (a * b) 5), .int .u64 (wd (a * b) 6), .int .u64 (wd (a * b) 7)] : Array Value)[o]?) ∧ (∀ o, x.cell? ⟨w.heap.size + 1 + 1, o, none⟩ = (#[.bool false, .int .u64 0, .int .u64 0, .int .u64 0, .int .u64 0] : Array Value)[o]?) ∧ (∀ o, x.frozen? ⟨w.heap.size + 1 + 1, o, none⟩ = false) ∧ w.heap.size < x.heap.size ∧ w.heap.size + 1 < x.heap.size ∧ w.heap.size + 1 + 1 + 1 < x.heap.size ∧ w.heap.size + 1 + 1 < x.heap.size ∧ Below w.heap.size w x) ⟨fun o => by first | (simp [go_sem, c0, c1, c2, c3, f2, hz]; done) | (rcases o with _ | _ | _ | _ | _ | o <;> simp [go_sem, c0, c1, c2, c3, f2, hz]), fun o => by first | (simp [go_sem, c0, c1, c2, c3, f2, hz]; done) | (rcases o with _ | _ | _ | _ | _ | o <;> simp [go_sem, c0, c1, c2, c3, f2, hz]), fun o => by first | (simp [go_sem, c0, c1, c2, c3, f2, hz]; done) | (rcases o with _ | _ | _ | _ | _ | o <;> simp [go_sem, c0, c1, c2, c3, f2, hz]), fun o => by first | (simp [go_sem, c0, c1, c2, c3, f2, hz]; done) | (rcases o with _ | _ | _ | _ | _ | o <;> simp [go_sem, c0, c1, c2, c3, f2, hz]), fun o => by simp [go_sem, c0, c1, c2, c3, f2, hz], by (first | omega | (simp [go_sem, c0, c1, c2, c3, f2, hz]; done) | (simp [go_sem, c0, c1, c2, c3, f2, hz]; omega)), by (first | omega | (simp [go_sem, c0, c1, c2, c3, f2, hz]; done) | (simp [go_sem, c0, c1, c2, c3, f2, hz]; omega)), by (first | omega | (simp [go_sem, c0, c1, c2, c3, f2, hz]; done) | (simp [go_sem, c0, c1, c2, c3, f2, hz]; omega)), by (first | omega | (simp [go_sem, c0, c1, c2, c3, f2, hz]; done) | (simp [go_sem, c0, c1, c2, c3, f2, hz]; omega)), by (repeat' (first | (with_reducible exact Below.refl _ _) | (with_reducible assumption) | (with_reducible refine below_alloc ?_ _) | (with_reducible refine Below.drew ?_) | (with_reducible refine Below.setCell ?_ ?_ _) | (with_reducible refine below_after ?_ (by assumption)) | go_size))⟩ ?_
        rintro W ⟨hWc0, hWc1, hWc2, hWc3, hWf0, hWz0, hWz1, hWz2, hWz3, hWb⟩
        have hWK := Lib.hid (show ∀ x : World, Kp W.heap.size [w.heap.size + 1 + 1] W x → ((∀ o, x.cell? ⟨w.heap.size, o, none⟩ = (#[.bool (s), .int .u64 (wd (a) 0), .int .u64 (wd (a) 1), .int .u64 (wd (a) 2), .int .u64 (wd (a) 3)] : Array Value)[o]?) ∧ (∀ o, x.cell? ⟨w.heap.size + 1, o, none⟩ = (#[.bool (t), .int .u64 (wd (b) 0), .int .u64 (wd (b) 1), .int .u64 (wd (b) 2), .int .u64 (wd (b) 3)] : Array Value)[o]?) ∧ (∀ o, x.cell? ⟨w.heap.size + 1 + 1 + 1, o, none⟩ = (#[.int .u64 (wd (a * b) 0), .int .u64 (wd (a * b) 1), .int .u64 (wd (a * b) 2), .int .u64 (wd (a * b) 3), .int .u64 (wd (a * b) 4), .int .u64 (wd (a * b) 5), .int .u64 (wd (a * b) 6), .int .u64 (wd (a * b) 7)] : Array Value)[o]?) ∧ (∀ o, x.frozen? ⟨w.heap.size + 1 + 1, o, none⟩ = false) ∧ w.heap.size < x.heap.size ∧ w.heap.size + 1 < x.heap.size ∧ w.heap.size + 1 + 1 + 1 < x.heap.size ∧ w.heap.size + 1 + 1 < x.heap.size ∧ W.heap.size ≤ x.heap.size) from fun x k => ⟨fun o => (k.cell _ o hWz0 (by first | (simp; done) | (simp; omega))).trans (hWc0 o), fun o => (k.cell _ o hWz1 (by first | (simp; done) | (simp; omega))).trans (hWc1 o), fun o => (k.cell _ o hWz2 (by first | (simp; done) | (simp; omega))).trans (hWc2 o), fun o => (k.froz _ o hWz3).trans (hWf0 o), Nat.lt_of_lt_of_le hWz0 k.size, Nat.lt_of_lt_of_le hWz1 k.size, Nat.lt_of_lt_of_le hWz2 k.size, Nat.lt_of_lt_of_le hWz3 k.size, k.size⟩)
        go_region_held3 (fun x => (∀ o, x.cell? ⟨w.heap.size, o, none⟩ = (#[.bool (s), .int .u64 (wd (a) 0), .int .u64 (wd (a) 1), .int .u64 (wd (a) 2), .int .u64 (wd (a) 3)] : Array Value)[o]?) ∧ (∀ o, x.cell? ⟨w.heap.size + 1, o, none⟩ = (#[.bool (t), .int .u64 (wd (b) 0), .int .u64 (wd (b) 1), .int .u64 (wd (b) 2), .int .u64 (wd (b) 3)] : Array Value)[o]?) ∧ (∀ o, x.cell? ⟨w.heap.size + 1 + 1 + 1, o, none⟩ = (#[.int .u64 (wd (a * b) 0), .int .u64 (wd (a * b) 1), .int .u64 (wd (a * b) 2), .int .u64 (wd (a * b) 3), .int .u64 (wd (a * b) 4), .int .u64 (wd (a * b) 5), .int .u64 (wd (a * b) 6), .int .u64 (wd (a * b) 7)] : Array Value)[o]?) ∧ (∀ o, x.frozen? ⟨w.heap.size + 1 + 1, o, none⟩ = false) ∧ w.heap.size < x.heap.size ∧ w.heap.size + 1 < x.heap.size ∧ w.heap.size + 1 + 1 + 1 < x.heap.size ∧ w.heap.size + 1 + 1 < x.heap.size ∧ W.heap.size ≤ x.heap.size) ((refine hWK.out _ ?_; (repeat (first | (with_reducible assumption) | (with_reducible exact Kp.refl (Nat.le_refl _)) | (with_reducible refine Kp.drew ?_) | (with_reducible refine Kp.alloc ?_ _) | ((with_reducible refine Kp.put ?_ ?_ _); focus (first | (left; go_size; done) | (right; simp; done))) | ((with_reducible apply Kp.later); (with_reducible assumption)))))) ((first | (go_at_call 60; (with_reducible refine (H4.out _).mono ?_); rintro e W_1 ⟨rfl, hbW_1⟩; have hkW_1 : Kp W.heap.size [] W W_1 := (by (repeat (first | (with_reducible assumption) | (with_reducible exact Kp.refl (Nat.le_refl _)) | (with_reducible refine Kp.drew ?_) | (with_reducible refine Kp.alloc ?_ _) | ((with_reducible refine Kp.put ?_ ?_ _); focus (first | (left; go_size; done) | (right; simp; done))) | ((with_reducible apply Kp.later); (with_reducible assumption))))); have hW_1c3 := fun o => (hkW_1.cell _ o hWz3 (by simp)).trans (hWc3 o); have hW_1f0 := fun o => (hkW_1.froz _ o hWz3).trans (hWf0 o); have hW_1z3 := Nat.lt_of_lt_of_le hWz3 hkW_1.size)))
        go_wp2_with ((with_reducible show bodyPost _ _ _ _ _ _); refine bodyPost_ret (by simp [results, Try.results45, go_sem, hW_1c3, hW_1z3]; try rfl) rfl ?_; exact ⟨by rw [val_mul s t a b, fitZ_in (by rw [abs_val]; exact HP.out), fitE_in (by rw [abs_val]; exact HP.out)], by (repeat' (first | (with_reducible exact Below.refl _ _) | (with_reducible assumption) | (with_reducible refine below_alloc ?_ _) | (with_reducible refine Below.drew ?_) | (with_reducible refine Below.setCell ?_ ?_ _) | (with_reducible refine below_after ?_ (by assumption)) | go_size))⟩)
      · have k4 : eqN (a * b / 2 ^ 256) 0 = false := by
          unfold eqN; simp only [decide_eq_false_iff_not]; exact fun h => hP (prod_high.1 h)
        rw [k4] at k3
        have HP := Lib.hid hP
        clear k4 hP
        go_wp2_with ((with_reducible show bodyPost _ _ _ _ _ _); refine bodyPost_ret (by simp [results, Try.results45, go_sem, c2, hz]; try rfl) rfl ?_; exact ⟨by rw [val_mul s t a b, fitZ_out (by rw [abs_val]; exact HP.out), fitE_out (by rw [abs_val]; exact HP.out), zs_zero, Int.natAbs_zero, wd_zero.1, wd_zero.2.1, wd_zero.2.2.1, wd_zero.2.2.2], by (repeat' (first | (with_reducible exact Below.refl _ _) | (with_reducible assumption) | (with_reducible refine below_alloc ?_ _) | (with_reducible refine Below.drew ?_) | (with_reducible refine Below.setCell ?_ ?_ _) | (with_reducible refine below_after ?_ (by assumption)) | go_size))⟩)
end Go.Proofs.Ytkpochkfijplaaa
