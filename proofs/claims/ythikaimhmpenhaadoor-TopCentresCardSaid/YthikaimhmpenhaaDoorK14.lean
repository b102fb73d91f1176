/-
  What package ratio's plus returns, of integers of different signs; of all that fit in a word.
  (Written by wip/pack.py out of XFSgC.)
-/
import Derived.Test.YthikaimhmpenhaaDoorK09
import Derived.Test.YthikaimhmpenhaaDoorK13

namespace Go.Proofs.YthikaimhmpenhaaDoor
set_option linter.all false
open Go Go.RowKit Wd
set_option maxRecDepth 100000
theorem set10_far {wr : World} {B B' : Nat} {v0 v1 v2 v3 v4 v5 v6 v7 v8 v9 : Value} {xs : Array Value} (hB : B ≠ B') (h : ∀ o, wr.cell? ⟨B', o, none⟩ = xs[o]?) :
    ∀ o, ((((((((((wr.setCell ⟨B, 0, none⟩ v0).setCell ⟨B, 1, none⟩ v1).setCell ⟨B, 2, none⟩ v2).setCell ⟨B, 3, none⟩ v3).setCell ⟨B, 4, none⟩ v4).setCell ⟨B, 5, none⟩ v5).setCell ⟨B, 6, none⟩ v6).setCell ⟨B, 7, none⟩ v7).setCell ⟨B, 8, none⟩ v8).setCell ⟨B, 9, none⟩ v9).cell? ⟨B', o, none⟩ = xs[o]? :=
  set_far hB (set_far hB (set_far hB (set_far hB (set_far hB (set_far hB (set_far hB (set_far hB (set_far hB (set_far hB (h))))))))))
set_option maxHeartbeats 2000000 in
theorem lplus_diff (s t : Bool) (a b : Nat) (hst : s = !t) (ha : a < 18446744073709551616) (hb : b < 18446744073709551616) (w : World) :
    Calls Tryd.prog 75 #[(.agg #[.bool (s), .int .u64 ↑a, .int .u64 0, .int .u64 0, .int .u64 0, .int .u64 0, .int .u64 0, .int .u64 0, .int .u64 0, .int .u64 0]), (.agg #[.bool (t), .int .u64 ↑b, .int .u64 0, .int .u64 0, .int .u64 0, .int .u64 0, .int .u64 0, .int .u64 0, .int .u64 0, .int .u64 0])] w fun e w' => e = .returned (.agg #[.bool ((if a < b then t else s) && !eqN (if a < b then b - a else a - b) 0), .int .u64 (((if a < b then b - a else a - b) : Nat) : Int), .int .u64 0, .int .u64 0, .int .u64 0, .int .u64 0, .int .u64 0, .int .u64 0, .int .u64 0, .int .u64 0]) ∧ Below w.heap.size w w' := by
  have L := Lib.hid (fun w => largerI s t a b w)
  have s0 := sub_00
  have hne : (s == t) = false := by subst hst; cases t <;> rfl
  by_cases hlt : a < b
  · rw [if_pos hlt, if_pos hlt]
    have s2 := sub_ge (Nat.le_of_lt hlt) hb
    obtain ⟨P, hP⟩ : ∃ P, P = b - a := ⟨_, rfl⟩
    rw [← hP] at s2 ⊢
    have L1 := L.out
    rw [if_neg (by omega), if_pos hlt] at L1
    have L2 := Lib.hid L1
    have Z0 := Lib.hid (fun s w => zeroI s P w)
    generalize eqN P 0 = r at *
    clear hP L1 L hlt ha hb hst
    · skip
      go_enter Tryd.func75, Tryd.ntmps75
      go_wp2_with fail
      ((with_reducible refine (L2.out _).mono ?_); rintro e w1 ⟨rfl, hb1⟩)
      have z0 : w.heap.size < w1.heap.size := by have := hb1.size; simp at this; omega
      have z1 : w.heap.size + 1 < w1.heap.size := by have := hb1.size; simp at this; omega
      have z2 : w.heap.size + 1 + 1 < w1.heap.size := by have := hb1.size; simp at this; omega
      obtain ⟨hc1, hf1⟩ := bcell hb1
      have d0 : ∀ o, w1.cell? ⟨w.heap.size, o, none⟩ = (#[.bool (s), .int .u64 ↑a, .int .u64 0, .int .u64 0, .int .u64 0, .int .u64 0, .int .u64 0, .int .u64 0, .int .u64 0, .int .u64 0] : Array Value)[o]? := fun o => by rw [hc1 _ _ (by simp; omega)]; simp [go_sem]
      have d1 : ∀ o, w1.cell? ⟨w.heap.size + 1, o, none⟩ = (#[.bool (t), .int .u64 ↑b, .int .u64 0, .int .u64 0, .int .u64 0, .int .u64 0, .int .u64 0, .int .u64 0, .int .u64 0, .int .u64 0] : Array Value)[o]? := fun o => by rw [hc1 _ _ (by simp)]; simp [go_sem]
      have d2 : ∀ o, w1.cell? ⟨w.heap.size + 1 + 1, o, none⟩ = (#[.bool (false), .int .u64 (((0) : Nat) : Int), .int .u64 0, .int .u64 0, .int .u64 0, .int .u64 0, .int .u64 0, .int .u64 0, .int .u64 0, .int .u64 0] : Array Value)[o]? := fun o => by rw [hc1 _ _ (by simp)]; simp [go_sem]
      have f0 : ∀ o, w1.frozen? ⟨w.heap.size, o, none⟩ = false := fun o => by rw [hf1 _ _ (by simp; omega)]; simp [go_sem]
      have f1 : ∀ o, w1.frozen? ⟨w.heap.size + 1, o, none⟩ = false := fun o => by rw [hf1 _ _ (by simp)]; simp [go_sem]
      have f2 : ∀ o, w1.frozen? ⟨w.heap.size + 1 + 1, o, none⟩ = false := fun o => by rw [hf1 _ _ (by simp)]; simp [go_sem]
      clear hc1 hf1
      go_wp2
      go_loopw [7, 41] (fun c i wr => ∃ k S : Nat, k ≤ 9 ∧ i = .int .i64 k ∧ c = .int .u64 0 ∧ (k = 0 ∧ S = b ∨ 1 ≤ k ∧ S = P) ∧ PluI w t s S a wr) (fun _ i _ => 9 - (intOf i).toNat)
      case atStart =>
        refine ⟨0, b, by omega, rfl, rfl, Or.inl ⟨rfl, rfl⟩, ?_, ?_, ?_, ?_, ?_, by simp; omega, by (repeat' first | (with_reducible first | exact Bq0 | assumption | refine Bq1 ?_ | refine Bq2 ?_ | refine Bq3 ?_ ?_ | refine Bq4 ?_ (by assumption)) | go_size)⟩
        · exact set10_far (by omega) (set10_at d0)
        · exact set10_at (set10_far (by omega) d1)
        · exact set10_far (by omega) (set10_far (by omega) d2)
        · intro o; simp only [World.frozen?_setCell]; exact f0 o
        · intro o; simp only [World.frozen?_setCell]; exact f2 o
      case round =>
        obtain ⟨k, S, hk, rfl, rfl, hS, HM⟩ := hrel
        have HM0 := Lib.hid HM
        obtain ⟨c0, c1, c2, f0, f2, hz, hb⟩ := HM
        by_cases hlt : k < 9
        · have hf := f0 (1 + k)
          clear d0 d1 d2
          rcases hS with ⟨rfl, rfl⟩ | ⟨h1, rfl⟩
          · go_wp2
            go_region
            go_wp2
            go_roundw
            case rel => exact ⟨1, P, by omega, rfl, rfl, Or.inr ⟨by omega, rfl⟩, (HM0.out.set0 (S' := P)).drew⟩
            case measure => simp [intOf]
          · have d0 := (c0 (1 + k)).trans (get_longS _ S k h1 hlt)
            have d1 := (c1 (1 + k)).trans (get_longS _ a k h1 hlt)
            clear c0 c1
            go_wp2
            go_region
            go_wp2
            go_roundw
            case rel => exact ⟨k + 1, S, by omega, by go_num, rfl, Or.inr ⟨by omega, rfl⟩, (HM0.out.set1 h1 hlt).drew⟩
            case measure => simp [intOf]; omega
        · obtain rfl : k = 9 := by omega
          obtain rfl : S = P := by omega
          have z0 : w.heap.size < wr.heap.size := by omega
          have z2 : w.heap.size + 1 + 1 < wr.heap.size := hz
          clear HM0 hlt hk s2 s0
          cases t
          · go_wp2_with ((with_reducible show bodyPost _ _ _ _ _ _); refine bodyPost_ret (by simp [results, Tryd.results75, go_sem, c0, c2, f0, f2, z0, z2]; try rfl) rfl ?_; exact ⟨rfl, by (repeat' first | (with_reducible first | exact Bq0 | assumption | refine Bq1 ?_ | refine Bq2 ?_ | refine Bq3 ?_ ?_ | refine Bq4 ?_ (by assumption)) | go_size)⟩)
          · go_wp2_with fail
            ((with_reducible refine (Z0.out true _).mono ?_); rintro e w2 ⟨rfl, hb2⟩)
            have g0 := keep_cell hb2 z0 c0
            have k0 := keep_frozen hb2 z0 f0
            have y0 := keep_lt hb2 z0
            have g2 := keep_cell hb2 z2 c2
            have k2 := keep_frozen hb2 z2 f2
            have y2 := keep_lt hb2 z2
            clear c0 c1 c2 f0 f2 z0 z2 hz
            cases r
            all_goals go_wp2_with ((with_reducible show bodyPost _ _ _ _ _ _); refine bodyPost_ret (by simp [results, Tryd.results75, go_sem, g0, k0, y0, g2, k2, y2]; try rfl) rfl ?_; exact ⟨rfl, by (repeat' first | (with_reducible first | exact Bq0 | assumption | refine Bq1 ?_ | refine Bq2 ?_ | refine Bq3 ?_ ?_ | refine Bq4 ?_ (by assumption)) | go_size)⟩)
  · rw [if_neg hlt, if_neg hlt]
    have s2 := sub_ge (Nat.le_of_not_lt hlt) ha
    obtain ⟨P, hP⟩ : ∃ P, P = a - b := ⟨_, rfl⟩
    rw [← hP] at s2 ⊢
    have L1 := L.out
    have hnn : ¬ ((if b < a then (1 : Int) else if a < b then -1 else 0) < 0) := by rw [if_neg hlt]; split <;> omega
    have L2 := Lib.hid L1
    have Z0 := Lib.hid (fun s w => zeroI s P w)
    generalize eqN P 0 = r at *
    have hv : ∃ v : Int, v = (if b < a then (1 : Int) else if a < b then -1 else 0) := ⟨_, rfl⟩
    obtain ⟨v, hv⟩ := hv
    rw [← hv] at L2 hnn
    clear hv hP L1 L hlt ha hb hst
    · skip
      go_enter Tryd.func75, Tryd.ntmps75
      go_wp2_with fail
      ((with_reducible refine (L2.out _).mono ?_); rintro e w1 ⟨rfl, hb1⟩)
      have z0 : w.heap.size < w1.heap.size := by have := hb1.size; simp at this; omega
      have z1 : w.heap.size + 1 < w1.heap.size := by have := hb1.size; simp at this; omega
      have z2 : w.heap.size + 1 + 1 < w1.heap.size := by have := hb1.size; simp at this; omega
      obtain ⟨hc1, hf1⟩ := bcell hb1
      have d0 : ∀ o, w1.cell? ⟨w.heap.size, o, none⟩ = (#[.bool (s), .int .u64 ↑a, .int .u64 0, .int .u64 0, .int .u64 0, .int .u64 0, .int .u64 0, .int .u64 0, .int .u64 0, .int .u64 0] : Array Value)[o]? := fun o => by rw [hc1 _ _ (by simp; omega)]; simp [go_sem]
      have d1 : ∀ o, w1.cell? ⟨w.heap.size + 1, o, none⟩ = (#[.bool (t), .int .u64 ↑b, .int .u64 0, .int .u64 0, .int .u64 0, .int .u64 0, .int .u64 0, .int .u64 0, .int .u64 0, .int .u64 0] : Array Value)[o]? := fun o => by rw [hc1 _ _ (by simp)]; simp [go_sem]
      have d2 : ∀ o, w1.cell? ⟨w.heap.size + 1 + 1, o, none⟩ = (#[.bool (false), .int .u64 (((0) : Nat) : Int), .int .u64 0, .int .u64 0, .int .u64 0, .int .u64 0, .int .u64 0, .int .u64 0, .int .u64 0, .int .u64 0] : Array Value)[o]? := fun o => by rw [hc1 _ _ (by simp)]; simp [go_sem]
      have f0 : ∀ o, w1.frozen? ⟨w.heap.size, o, none⟩ = false := fun o => by rw [hf1 _ _ (by simp; omega)]; simp [go_sem]
      have f1 : ∀ o, w1.frozen? ⟨w.heap.size + 1, o, none⟩ = false := fun o => by rw [hf1 _ _ (by simp)]; simp [go_sem]
      have f2 : ∀ o, w1.frozen? ⟨w.heap.size + 1 + 1, o, none⟩ = false := fun o => by rw [hf1 _ _ (by simp)]; simp [go_sem]
      clear hc1 hf1
      go_wp2
      go_loopw [7, 41] (fun c i wr => ∃ k S : Nat, k ≤ 9 ∧ i = .int .i64 k ∧ c = .int .u64 0 ∧ (k = 0 ∧ S = a ∨ 1 ≤ k ∧ S = P) ∧ PluI w s t S b wr) (fun _ i _ => 9 - (intOf i).toNat)
      case atStart =>
        refine ⟨0, a, by omega, rfl, rfl, Or.inl ⟨rfl, rfl⟩, d0, d1, d2, f0, f2, by omega, by (repeat' first | (with_reducible first | exact Bq0 | assumption | refine Bq1 ?_ | refine Bq2 ?_ | refine Bq3 ?_ ?_ | refine Bq4 ?_ (by assumption)) | go_size)⟩
      case round =>
        obtain ⟨k, S, hk, rfl, rfl, hS, HM⟩ := hrel
        have HM0 := Lib.hid HM
        obtain ⟨c0, c1, c2, f0, f2, hz, hb⟩ := HM
        by_cases hlt : k < 9
        · have hf := f0 (1 + k)
          clear d0 d1 d2
          rcases hS with ⟨rfl, rfl⟩ | ⟨h1, rfl⟩
          · go_wp2
            go_region
            go_wp2
            go_roundw
            case rel => exact ⟨1, P, by omega, rfl, rfl, Or.inr ⟨by omega, rfl⟩, (HM0.out.set0 (S' := P)).drew⟩
            case measure => simp [intOf]
          · have d0 := (c0 (1 + k)).trans (get_longS _ S k h1 hlt)
            have d1 := (c1 (1 + k)).trans (get_longS _ b k h1 hlt)
            clear c0 c1
            go_wp2
            go_region
            go_wp2
            go_roundw
            case rel => exact ⟨k + 1, S, by omega, by go_num, rfl, Or.inr ⟨by omega, rfl⟩, (HM0.out.set1 h1 hlt).drew⟩
            case measure => simp [intOf]; omega
        · obtain rfl : k = 9 := by omega
          obtain rfl : S = P := by omega
          have z0 : w.heap.size < wr.heap.size := by omega
          have z2 : w.heap.size + 1 + 1 < wr.heap.size := hz
          clear HM0 hlt hk s2 s0
          cases s
          · go_wp2_with ((with_reducible show bodyPost _ _ _ _ _ _); refine bodyPost_ret (by simp [results, Tryd.results75, go_sem, c0, c2, f0, f2, z0, z2]; try rfl) rfl ?_; exact ⟨rfl, by (repeat' first | (with_reducible first | exact Bq0 | assumption | refine Bq1 ?_ | refine Bq2 ?_ | refine Bq3 ?_ ?_ | refine Bq4 ?_ (by assumption)) | go_size)⟩)
          · go_wp2_with fail
            ((with_reducible refine (Z0.out true _).mono ?_); rintro e w2 ⟨rfl, hb2⟩)
            have g0 := keep_cell hb2 z0 c0
            have k0 := keep_frozen hb2 z0 f0
            have y0 := keep_lt hb2 z0
            have g2 := keep_cell hb2 z2 c2
            have k2 := keep_frozen hb2 z2 f2
            have y2 := keep_lt hb2 z2
            clear c0 c1 c2 f0 f2 z0 z2 hz
            cases r
            all_goals go_wp2_with ((with_reducible show bodyPost _ _ _ _ _ _); refine bodyPost_ret (by simp [results, Tryd.results75, go_sem, g0, k0, y0, g2, k2, y2]; try rfl) rfl ?_; exact ⟨rfl, by (repeat' first | (with_reducible first | exact Bq0 | assumption | refine Bq1 ?_ | refine Bq2 ?_ | refine Bq3 ?_ ?_ | refine Bq4 ?_ (by assumption)) | go_size)⟩)
theorem zs_valE {s : Bool} {a : Nat} : zs (val s a) = (s && !eqN a 0) := by
  unfold zs val eqN
  by_cases h : a = 0
  · subst h; cases s <;> rfl
  · cases s <;> simp [h] <;> omega
theorem zs_valid {s : Bool} {a : Nat} (h : s = true → a ≠ 0) : zs (val s a) = s := by
  rw [zs_valE]
  cases s
  · rfl
  · unfold eqN; simp [h rfl]
theorem abs_val' (s : Bool) (a : Nat) : (val s a).natAbs = a := by unfold val; cases s <;> simp
theorem lplusI (s t : Bool) (a b : Nat) (hs : s = true → a ≠ 0) (ht : t = true → b ≠ 0) (hab : a + b < 18446744073709551616) (w : World) :
    Calls Tryd.prog 75 #[(.agg #[.bool (s), .int .u64 ↑a, .int .u64 0, .int .u64 0, .int .u64 0, .int .u64 0, .int .u64 0, .int .u64 0, .int .u64 0, .int .u64 0]), (.agg #[.bool (t), .int .u64 ↑b, .int .u64 0, .int .u64 0, .int .u64 0, .int .u64 0, .int .u64 0, .int .u64 0, .int .u64 0, .int .u64 0])] w fun e w' => e = .returned (.agg #[.bool (zs (val s a + val t b)), .int .u64 ((((val s a + val t b).natAbs) : Nat) : Int), .int .u64 0, .int .u64 0, .int .u64 0, .int .u64 0, .int .u64 0, .int .u64 0, .int .u64 0, .int .u64 0]) ∧ Below w.heap.size w w' := by
  by_cases hst : s = t
  · subst hst
    have h := lplus_same s a b hab w
    have e : val s a + val s b = val s (a + b) := by unfold val; cases s <;> simp <;> omega
    rw [e, abs_val', zs_valid (fun h => by have := hs h; omega)]
    exact h
  · have hst' : s = !t := by cases s <;> cases t <;> first | rfl | exact absurd rfl hst
    have h := lplus_diff s t a b hst' (by omega) (by omega) w
    by_cases hlt : a < b
    · rw [if_pos hlt, if_pos hlt] at h
      have e : val s a + val t b = val t (b - a) := by subst hst'; unfold val; cases t <;> simp <;> omega
      rw [e, abs_val', zs_valE]
      exact h
    · rw [if_neg hlt, if_neg hlt] at h
      have e : val s a + val t b = val s (a - b) := by subst hst'; unfold val; cases t <;> simp <;> omega
      rw [e, abs_val', zs_valE]
      exact h
end Go.Proofs.YthikaimhmpenhaaDoor
