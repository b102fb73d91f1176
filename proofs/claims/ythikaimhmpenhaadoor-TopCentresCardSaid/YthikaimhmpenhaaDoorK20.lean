/-
  What package ratio's Mul returns, of two fractions whose numerators are integers of one word. Written by gen_fmul.py.
  (Written by wip/pack.py out of XFMul.)
-/
import Derived.Test.YthikaimhmpenhaaDoorK16
import Derived.Test.YthikaimhmpenhaaDoorK19

namespace Go.Proofs.YthikaimhmpenhaaDoor
set_option linter.all false
open Go Go.RowKit Wd
set_option maxRecDepth 100000
set_option maxHeartbeats 4000000 in
/-- Mul: of two fractions. -/
theorem mulI (sa sb : Bool) (a p b q : Nat) (ha : a < 18446744073709551616) (hb : b < 18446744073709551616) (hp : p < 18446744073709551616) (hq : q < 18446744073709551616) (hp0 : 0 < p) (hq0 : 0 < q) (hsa : sa = true → a ≠ 0) (hsb : sb = true → b ≠ 0) (ga : Nat.gcd a p = 1) (gb : Nat.gcd b q = 1)
    (hab : (a / Nat.gcd a q) * (b / Nat.gcd b p) < 18446744073709551616) (hpq : (p / Nat.gcd b p) * (q / Nat.gcd a q) < 18446744073709551616) (z : Int) (hz : z = val sa a * val sb b) (w : World) (hT : Tab64 w) :
    Calls Tryd.prog 56 #[(.agg #[.bool (sa), .int .u64 ↑a, .int .u64 0, .int .u64 0, .int .u64 0, .bool false, .int .u64 ↑p, .int .u64 0, .int .u64 0, .int .u64 0]), (.agg #[.bool (sb), .int .u64 ↑b, .int .u64 0, .int .u64 0, .int .u64 0, .bool false, .int .u64 ↑q, .int .u64 0, .int .u64 0, .int .u64 0])] w fun e w' => e = .returned (.tuple #[(.agg #[.bool (zs z), .int .u64 (((qn z.natAbs (p * q)) : Nat) : Int), .int .u64 0, .int .u64 0, .int .u64 0, .bool false, .int .u64 (((qd z.natAbs (p * q)) : Nat) : Int), .int .u64 0, .int .u64 0, .int .u64 0]), .int .i64 0]) ∧ Below w.heap.size w w' := by
  have hpq0 : 0 < p * q := Nat.mul_pos hp0 hq0
  have hzn : z.natAbs = a * b := by rw [hz, Int.natAbs_mul, abs_val, abs_val]
  have hzs : zs z = (!(sa == sb) && !eqN (a * b) 0) := by rw [hz, zs_mul]
  rw [hzn]
  have hlow := fun h0 h1 => mul_low (a := a) (b := b) hp0 hq0 ga gb h0 h1
  have hzero := q_zero hpq0
  have e0 : a = 0 ∨ b = 0 → zs z = false ∧ qn (a * b) (p * q) = 0 ∧ qd (a * b) (p * q) = 1 := fun h => by
    have h2 : a * b = 0 := by rcases h with h | h <;> simp [h]
    rw [hzs, h2]
    exact ⟨by unfold eqN; simp, hzero.1, hzero.2⟩
  have s1 := fun w hT => soundI sa a p ha hp hp0 hsa ga w hT
  have s2 := fun w hT => soundI sb b q hb hq hq0 hsb gb w hT
  have q1 := fun w => signI sa a ha w
  have q2 := fun w => signI sb b hb w
  have hg : 0 < Nat.gcd a q := Nat.gcd_pos_of_pos_right a hq0
  have hh : 0 < Nat.gcd b p := Nat.gcd_pos_of_pos_right b hp0
  have hgq : Nat.gcd a q ≤ q := Nat.le_of_dvd hq0 (Nat.gcd_dvd_right a q)
  have hhp : Nat.gcd b p ≤ p := Nat.le_of_dvd hp0 (Nat.gcd_dvd_right b p)
  have l1 : a / Nat.gcd a q ≤ a := Nat.div_le_self _ _
  have l2 : b / Nat.gcd b p ≤ b := Nat.div_le_self _ _
  have l3 : p / Nat.gcd b p ≤ p := Nat.div_le_self _ _
  have l4 : q / Nat.gcd a q ≤ q := Nat.div_le_self _ _
  have g1 := fun w hT => gcdI sa a q ha hq hq0 w hT
  have g2 := fun w hT => gcdI sb b p hb hp hp0 w hT
  have o1 := fun w => overI sa a (Nat.gcd a q) ha (by omega) hg (Nat.gcd_dvd_left a q) hsa w
  have o2 := fun w => overI sb b (Nat.gcd b p) hb (by omega) hh (Nat.gcd_dvd_left b p) hsb w
  have o3 := fun w => overS p (Nat.gcd b p) hp (by omega) hh w
  have o4 := fun w => overS q (Nat.gcd a q) hq (by omega) hg w
  have m1 := fun w => wmulI sa sb (a / Nat.gcd a q) (b / Nat.gcd b p) (by omega) (by omega) hab w
  have m2 := fun w => wmulS (p / Nat.gcd b p) (q / Nat.gcd a q) (by omega) (by omega) hpq w
  have e1 : a ≠ 0 → b ≠ 0 → zs z = zs (val sa (a / Nat.gcd a q) * val sb (b / Nat.gcd b p)) ∧ qn (a * b) (p * q) = (a / Nat.gcd a q) * (b / Nat.gcd b p) ∧ qd (a * b) (p * q) = (p / Nat.gcd b p) * (q / Nat.gcd a q) := fun h0 h1 => by
    refine ⟨?_, (hlow h0 h1).1, (hlow h0 h1).2⟩
    have n1 : 0 < a / Nat.gcd a q := Nat.div_pos (Nat.le_of_dvd (by omega) (Nat.gcd_dvd_left a q)) hg
    have n2 : 0 < b / Nat.gcd b p := Nat.div_pos (Nat.le_of_dvd (by omega) (Nat.gcd_dvd_left b p)) hh
    have n3 : a * b ≠ 0 := Nat.mul_ne_zero h0 h1
    have n4 : (a / Nat.gcd a q) * (b / Nat.gcd b p) ≠ 0 := Nat.mul_ne_zero (by omega) (by omega)
    rw [hzs, zs_mul]
    unfold eqN
    rw [decide_eq_false n3, decide_eq_false n4]
  clear hzs hzn hlow hzero
  generalize zs z = rS at *
  generalize qn (a * b) (p * q) = rN at *
  generalize qd (a * b) (p * q) = rD at *
  generalize zs (val sa (a / Nat.gcd a q) * val sb (b / Nat.gcd b p)) = r at *
  generalize (a / Nat.gcd a q) * (b / Nat.gcd b p) = x' at *
  generalize (p / Nat.gcd b p) * (q / Nat.gcd a q) = y' at *
  generalize Nat.gcd a q = g at *
  generalize Nat.gcd b p = h at *
  generalize a / g = t1 at *
  generalize b / h = t2 at *
  generalize p / h = t3 at *
  generalize q / g = t4 at *
  have S1 := Lib.hid s1
  have S2 := Lib.hid s2
  have G1 := Lib.hid g1
  have G2 := Lib.hid g2
  have O1 := Lib.hid o1
  have O2 := Lib.hid o2
  have O3 := Lib.hid o3
  have O4 := Lib.hid o4
  have M1 := Lib.hid m1
  have M2 := Lib.hid m2
  have HT := Lib.hid hT
  clear s1 s2 g1 g2 o1 o2 o3 o4 m1 m2 hT ha hb hp hq hp0 hq0 hsa hsb ga gb hab hpq hz hpq0 hg hh hgq hhp l1 l2 l3 l4
  by_cases h0 : a = 0
  · obtain ⟨rfl, rfl, rfl⟩ := e0 (Or.inl h0)
    clear e0 e1
    rw [if_pos h0] at q1
    have Q1 := Lib.hid q1
    have Q2 := Lib.hid q2
    clear q1 q2 h0
    simp only [Int.natCast_one, Int.natCast_zero, Int.cast_ofNat_Int]
    go_enter Tryd.func56, Tryd.ntmps56
    go_upto_region 1 with (fail)
    refine wp_world (fun x => (∀ o, x.cell? ⟨w.heap.size, o, none⟩ = (#[.bool (sa), .int .u64 ↑a, .int .u64 0, .int .u64 0, .int .u64 0, .bool false, .int .u64 ↑p, .int .u64 0, .int .u64 0, .int .u64 0] : Array Value)[o]?) ∧ (∀ o, x.cell? ⟨w.heap.size + 1, o, none⟩ = (#[.bool (sb), .int .u64 ↑b, .int .u64 0, .int .u64 0, .int .u64 0, .bool false, .int .u64 ↑q, .int .u64 0, .int .u64 0, .int .u64 0] : Array Value)[o]?) ∧ (∀ o, x.cell? ⟨w.heap.size + 1 + 1, o, none⟩ = (#[.bool false, .int .u64 0, .int .u64 0, .int .u64 0, .int .u64 0, .bool false, .int .u64 0, .int .u64 0, .int .u64 0, .int .u64 0] : Array Value)[o]?) ∧ (∀ o, x.frozen? ⟨w.heap.size, o, none⟩ = false) ∧ (∀ o, x.frozen? ⟨w.heap.size + 1, o, none⟩ = false) ∧ (∀ o, x.frozen? ⟨w.heap.size + 1 + 1, o, none⟩ = false) ∧ w.heap.size < x.heap.size ∧ w.heap.size + 1 < x.heap.size ∧ w.heap.size + 1 + 1 < x.heap.size ∧ Below w.heap.size w x) ⟨fun o => by simp [go_sem], fun o => by simp [go_sem], fun o => by simp [go_sem], fun o => by simp [go_sem], fun o => by simp [go_sem], fun o => by simp [go_sem], by (first | omega | (simp [go_sem]; done) | (simp [go_sem]; omega)), by (first | omega | (simp [go_sem]; done) | (simp [go_sem]; omega)), by (first | omega | (simp [go_sem]; done) | (simp [go_sem]; omega)), Grn⟩ ?_
    rintro A ⟨hAc0, hAc1, hAc2, hAf0, hAf1, hAf2, hAz0, hAz1, hAz2, hAb⟩
    have hAK := Lib.hid (show ∀ x : World, Kp A.heap.size [] A x → (∀ o, x.cell? ⟨w.heap.size, o, none⟩ = (#[.bool (sa), .int .u64 ↑a, .int .u64 0, .int .u64 0, .int .u64 0, .bool false, .int .u64 ↑p, .int .u64 0, .int .u64 0, .int .u64 0] : Array Value)[o]?) ∧ (∀ o, x.cell? ⟨w.heap.size + 1, o, none⟩ = (#[.bool (sb), .int .u64 ↑b, .int .u64 0, .int .u64 0, .int .u64 0, .bool false, .int .u64 ↑q, .int .u64 0, .int .u64 0, .int .u64 0] : Array Value)[o]?) ∧ (∀ o, x.frozen? ⟨w.heap.size, o, none⟩ = false) ∧ (∀ o, x.frozen? ⟨w.heap.size + 1, o, none⟩ = false) ∧ w.heap.size < x.heap.size ∧ w.heap.size + 1 < x.heap.size ∧ A.heap.size ≤ x.heap.size from fun x k => ⟨fun o => (k.cell _ o hAz0 (by simp)).trans (hAc0 o), fun o => (k.cell _ o hAz1 (by simp)).trans (hAc1 o), fun o => (k.froz _ o hAz0).trans (hAf0 o), fun o => (k.froz _ o hAz1).trans (hAf1 o), Nat.lt_of_lt_of_le hAz0 k.size, Nat.lt_of_lt_of_le hAz1 k.size, k.size⟩)
    go_cut [] (fun wx => Kp A.heap.size [] A wx ∧ Below w.heap.size w wx)
    case first =>
      go_region_held3 (fun x => (∀ o, x.cell? ⟨w.heap.size, o, none⟩ = (#[.bool (sa), .int .u64 ↑a, .int .u64 0, .int .u64 0, .int .u64 0, .bool false, .int .u64 ↑p, .int .u64 0, .int .u64 0, .int .u64 0] : Array Value)[o]?) ∧ (∀ o, x.cell? ⟨w.heap.size + 1, o, none⟩ = (#[.bool (sb), .int .u64 ↑b, .int .u64 0, .int .u64 0, .int .u64 0, .bool false, .int .u64 ↑q, .int .u64 0, .int .u64 0, .int .u64 0] : Array Value)[o]?) ∧ (∀ o, x.frozen? ⟨w.heap.size, o, none⟩ = false) ∧ (∀ o, x.frozen? ⟨w.heap.size + 1, o, none⟩ = false) ∧ w.heap.size < x.heap.size ∧ w.heap.size + 1 < x.heap.size ∧ A.heap.size ≤ x.heap.size) ((refine hAK.out _ ?_; (repeat (first | (with_reducible assumption) | (with_reducible exact Kp.refl (Nat.le_refl _)) | (with_reducible refine Kp.drew ?_) | (with_reducible refine Kp.alloc ?_ _) | ((with_reducible refine Kp.same ?_ ?_ ?_ ?_ ?_); (focus (first | exact hAc0 _ | exact hAc1 _)); (focus (first | exact hAz0 | exact hAz1)); (focus (exact List.not_mem_nil)); (focus rfl)) | ((with_reducible apply Kp.later); (with_reducible assumption)))))) ((first | (go_at_call 69; (with_reducible refine (S1.out _ (HT.out.later Grn)).mono ?_); rintro e A_1 ⟨rfl, hbA_1⟩; have hkA_1 : Kp A.heap.size [] A A_1 := (by (repeat (first | (with_reducible assumption) | (with_reducible exact Kp.refl (Nat.le_refl _)) | (with_reducible refine Kp.drew ?_) | (with_reducible refine Kp.alloc ?_ _) | ((with_reducible refine Kp.same ?_ ?_ ?_ ?_ ?_); (focus (first | exact hAc0 _ | exact hAc1 _)); (focus (first | exact hAz0 | exact hAz1)); (focus (exact List.not_mem_nil)); (focus rfl)) | ((with_reducible apply Kp.later); (with_reducible assumption)))))) | (go_at_call 69; (with_reducible refine (S2.out _ (HT.out.later Grn)).mono ?_); rintro e A_2 ⟨rfl, hbA_2⟩; have hkA_2 : Kp A.heap.size [] A A_2 := (by (repeat (first | (with_reducible assumption) | (with_reducible exact Kp.refl (Nat.le_refl _)) | (with_reducible refine Kp.drew ?_) | (with_reducible refine Kp.alloc ?_ _) | ((with_reducible refine Kp.same ?_ ?_ ?_ ?_ ?_); (focus (first | exact hAc0 _ | exact hAc1 _)); (focus (first | exact hAz0 | exact hAz1)); (focus (exact List.not_mem_nil)); (focus rfl)) | ((with_reducible apply Kp.later); (with_reducible assumption))))))))
      all_goals go_wp2
      all_goals go_meet
      all_goals (case rel => exact ⟨by (repeat (first | (with_reducible assumption) | (with_reducible exact Kp.refl (Nat.le_refl _)) | (with_reducible refine Kp.drew ?_) | (with_reducible refine Kp.alloc ?_ _) | ((with_reducible refine Kp.same ?_ ?_ ?_ ?_ ?_); (focus (first | exact hAc0 _ | exact hAc1 _)); (focus (first | exact hAz0 | exact hAz1)); (focus (exact List.not_mem_nil)); (focus rfl)) | ((with_reducible apply Kp.later); (with_reducible assumption)))), Grn⟩)
    case rest =>
      obtain ⟨hk, hB⟩ := hcut
      have hCc0 := fun o => (hk.cell _ o hAz0 (by simp)).trans (hAc0 o)
      have hCc1 := fun o => (hk.cell _ o hAz1 (by simp)).trans (hAc1 o)
      have hCc2 := fun o => (hk.cell _ o hAz2 (by simp)).trans (hAc2 o)
      have hCf0 := fun o => (hk.froz _ o hAz0).trans (hAf0 o)
      have hCf1 := fun o => (hk.froz _ o hAz1).trans (hAf1 o)
      have hCf2 := fun o => (hk.froz _ o hAz2).trans (hAf2 o)
      have hCz0 := Nat.lt_of_lt_of_le hAz0 hk.size
      have hCz1 := Nat.lt_of_lt_of_le hAz1 hk.size
      have hCz2 := Nat.lt_of_lt_of_le hAz2 hk.size
      clear hAK hAc0 hAc1 hAc2 hAf0 hAf1 hAf2 hAz0 hAz1 hAz2 hk hAb
      go_wp2_with fail
      ((with_reducible refine (Q1.out _).mono ?_); rintro e w1 ⟨rfl, hb1⟩)
      obtain ⟨hc1, hf1⟩ := bcell hb1
      go_wp2_with fail
      ((with_reducible refine (oneS _).mono ?_); rintro e w2 ⟨rfl, hb2⟩)
      obtain ⟨hc2, hf2⟩ := bcell hb2
      have e2 := keep_lt hb2 (keep_lt hb1 hCz2)
      have i2 := keep_cell hb2 (keep_lt hb1 hCz2) (keep_cell hb1 hCz2 hCc2)
      have j2 := keep_frozen hb2 (keep_lt hb1 hCz2) (keep_frozen hb1 hCz2 hCf2)
      go_wp2_with ((with_reducible show bodyPost _ _ _ _ _ _); refine bodyPost_ret (by simp [results, Tryd.results56, go_sem, e2, i2, j2]; try rfl) rfl ?_; exact ⟨rfl, Grn⟩)
  by_cases h1 : b = 0
  · obtain ⟨rfl, rfl, rfl⟩ := e0 (Or.inr h1)
    clear e0 e1
    rw [if_neg h0] at q1
    rw [if_pos h1] at q2
    have hv1 : ¬ ((if sa = true then (-1 : Int) else 1) = 0) := by cases sa <;> decide
    generalize (if sa = true then (-1 : Int) else 1) = v1 at *
    have Q1 := Lib.hid q1
    have Q2 := Lib.hid q2
    clear q1 q2 h0 h1
    simp only [Int.natCast_one, Int.natCast_zero, Int.cast_ofNat_Int]
    go_enter Tryd.func56, Tryd.ntmps56
    go_upto_region 1 with (fail)
    refine wp_world (fun x => (∀ o, x.cell? ⟨w.heap.size, o, none⟩ = (#[.bool (sa), .int .u64 ↑a, .int .u64 0, .int .u64 0, .int .u64 0, .bool false, .int .u64 ↑p, .int .u64 0, .int .u64 0, .int .u64 0] : Array Value)[o]?) ∧ (∀ o, x.cell? ⟨w.heap.size + 1, o, none⟩ = (#[.bool (sb), .int .u64 ↑b, .int .u64 0, .int .u64 0, .int .u64 0, .bool false, .int .u64 ↑q, .int .u64 0, .int .u64 0, .int .u64 0] : Array Value)[o]?) ∧ (∀ o, x.cell? ⟨w.heap.size + 1 + 1, o, none⟩ = (#[.bool false, .int .u64 0, .int .u64 0, .int .u64 0, .int .u64 0, .bool false, .int .u64 0, .int .u64 0, .int .u64 0, .int .u64 0] : Array Value)[o]?) ∧ (∀ o, x.frozen? ⟨w.heap.size, o, none⟩ = false) ∧ (∀ o, x.frozen? ⟨w.heap.size + 1, o, none⟩ = false) ∧ (∀ o, x.frozen? ⟨w.heap.size + 1 + 1, o, none⟩ = false) ∧ w.heap.size < x.heap.size ∧ w.heap.size + 1 < x.heap.size ∧ w.heap.size + 1 + 1 < x.heap.size ∧ Below w.heap.size w x) ⟨fun o => by simp [go_sem], fun o => by simp [go_sem], fun o => by simp [go_sem], fun o => by simp [go_sem], fun o => by simp [go_sem], fun o => by simp [go_sem], by (first | omega | (simp [go_sem]; done) | (simp [go_sem]; omega)), by (first | omega | (simp [go_sem]; done) | (simp [go_sem]; omega)), by (first | omega | (simp [go_sem]; done) | (simp [go_sem]; omega)), Grn⟩ ?_
    rintro A ⟨hAc0, hAc1, hAc2, hAf0, hAf1, hAf2, hAz0, hAz1, hAz2, hAb⟩
    have hAK := Lib.hid (show ∀ x : World, Kp A.heap.size [] A x → (∀ o, x.cell? ⟨w.heap.size, o, none⟩ = (#[.bool (sa), .int .u64 ↑a, .int .u64 0, .int .u64 0, .int .u64 0, .bool false, .int .u64 ↑p, .int .u64 0, .int .u64 0, .int .u64 0] : Array Value)[o]?) ∧ (∀ o, x.cell? ⟨w.heap.size + 1, o, none⟩ = (#[.bool (sb), .int .u64 ↑b, .int .u64 0, .int .u64 0, .int .u64 0, .bool false, .int .u64 ↑q, .int .u64 0, .int .u64 0, .int .u64 0] : Array Value)[o]?) ∧ (∀ o, x.frozen? ⟨w.heap.size, o, none⟩ = false) ∧ (∀ o, x.frozen? ⟨w.heap.size + 1, o, none⟩ = false) ∧ w.heap.size < x.heap.size ∧ w.heap.size + 1 < x.heap.size ∧ A.heap.size ≤ x.heap.size from fun x k => ⟨fun o => (k.cell _ o hAz0 (by simp)).trans (hAc0 o), fun o => (k.cell _ o hAz1 (by simp)).trans (hAc1 o), fun o => (k.froz _ o hAz0).trans (hAf0 o), fun o => (k.froz _ o hAz1).trans (hAf1 o), Nat.lt_of_lt_of_le hAz0 k.size, Nat.lt_of_lt_of_le hAz1 k.size, k.size⟩)
    go_cut [] (fun wx => Kp A.heap.size [] A wx ∧ Below w.heap.size w wx)
    case first =>
      go_region_held3 (fun x => (∀ o, x.cell? ⟨w.heap.size, o, none⟩ = (#[.bool (sa), .int .u64 ↑a, .int .u64 0, .int .u64 0, .int .u64 0, .bool false, .int .u64 ↑p, .int .u64 0, .int .u64 0, .int .u64 0] : Array Value)[o]?) ∧ (∀ o, x.cell? ⟨w.heap.size + 1, o, none⟩ = (#[.bool (sb), .int .u64 ↑b, .int .u64 0, .int .u64 0, .int .u64 0, .bool false, .int .u64 ↑q, .int .u64 0, .int .u64 0, .int .u64 0] : Array Value)[o]?) ∧ (∀ o, x.frozen? ⟨w.heap.size, o, none⟩ = false) ∧ (∀ o, x.frozen? ⟨w.heap.size + 1, o, none⟩ = false) ∧ w.heap.size < x.heap.size ∧ w.heap.size + 1 < x.heap.size ∧ A.heap.size ≤ x.heap.size) ((refine hAK.out _ ?_; (repeat (first | (with_reducible assumption) | (with_reducible exact Kp.refl (Nat.le_refl _)) | (with_reducible refine Kp.drew ?_) | (with_reducible refine Kp.alloc ?_ _) | ((with_reducible refine Kp.same ?_ ?_ ?_ ?_ ?_); (focus (first | exact hAc0 _ | exact hAc1 _)); (focus (first | exact hAz0 | exact hAz1)); (focus (exact List.not_mem_nil)); (focus rfl)) | ((with_reducible apply Kp.later); (with_reducible assumption)))))) ((first | (go_at_call 69; (with_reducible refine (S1.out _ (HT.out.later Grn)).mono ?_); rintro e A_1 ⟨rfl, hbA_1⟩; have hkA_1 : Kp A.heap.size [] A A_1 := (by (repeat (first | (with_reducible assumption) | (with_reducible exact Kp.refl (Nat.le_refl _)) | (with_reducible refine Kp.drew ?_) | (with_reducible refine Kp.alloc ?_ _) | ((with_reducible refine Kp.same ?_ ?_ ?_ ?_ ?_); (focus (first | exact hAc0 _ | exact hAc1 _)); (focus (first | exact hAz0 | exact hAz1)); (focus (exact List.not_mem_nil)); (focus rfl)) | ((with_reducible apply Kp.later); (with_reducible assumption)))))) | (go_at_call 69; (with_reducible refine (S2.out _ (HT.out.later Grn)).mono ?_); rintro e A_2 ⟨rfl, hbA_2⟩; have hkA_2 : Kp A.heap.size [] A A_2 := (by (repeat (first | (with_reducible assumption) | (with_reducible exact Kp.refl (Nat.le_refl _)) | (with_reducible refine Kp.drew ?_) | (with_reducible refine Kp.alloc ?_ _) | ((with_reducible refine Kp.same ?_ ?_ ?_ ?_ ?_); (focus (first | exact hAc0 _ | exact hAc1 _)); (focus (first | exact hAz0 | exact hAz1)); (focus (exact List.not_mem_nil)); (focus rfl)) | ((with_reducible apply Kp.later); (with_reducible assumption))))))))
      all_goals go_wp2
      all_goals go_meet
      all_goals (case rel => exact ⟨by (repeat (first | (with_reducible assumption) | (with_reducible exact Kp.refl (Nat.le_refl _)) | (with_reducible refine Kp.drew ?_) | (with_reducible refine Kp.alloc ?_ _) | ((with_reducible refine Kp.same ?_ ?_ ?_ ?_ ?_); (focus (first | exact hAc0 _ | exact hAc1 _)); (focus (first | exact hAz0 | exact hAz1)); (focus (exact List.not_mem_nil)); (focus rfl)) | ((with_reducible apply Kp.later); (with_reducible assumption)))), Grn⟩)
    case rest =>
      obtain ⟨hk, hB⟩ := hcut
      have hCc0 := fun o => (hk.cell _ o hAz0 (by simp)).trans (hAc0 o)
      have hCc1 := fun o => (hk.cell _ o hAz1 (by simp)).trans (hAc1 o)
      have hCc2 := fun o => (hk.cell _ o hAz2 (by simp)).trans (hAc2 o)
      have hCf0 := fun o => (hk.froz _ o hAz0).trans (hAf0 o)
      have hCf1 := fun o => (hk.froz _ o hAz1).trans (hAf1 o)
      have hCf2 := fun o => (hk.froz _ o hAz2).trans (hAf2 o)
      have hCz0 := Nat.lt_of_lt_of_le hAz0 hk.size
      have hCz1 := Nat.lt_of_lt_of_le hAz1 hk.size
      have hCz2 := Nat.lt_of_lt_of_le hAz2 hk.size
      clear hAK hAc0 hAc1 hAc2 hAf0 hAf1 hAf2 hAz0 hAz1 hAz2 hk hAb
      go_wp2_with fail
      ((with_reducible refine (Q1.out _).mono ?_); rintro e w1 ⟨rfl, hb1⟩)
      obtain ⟨hc1, hf1⟩ := bcell hb1
      have d1 := keep_cell hb1 hCz1 hCc1
      have d1z := keep_lt hb1 hCz1
      go_wp2_with fail
      ((with_reducible refine (Q2.out _).mono ?_); rintro e w3 ⟨rfl, hb3⟩)
      obtain ⟨hc3, hf3⟩ := bcell hb3
      have hb13 := below_after hb1 hb3
      go_wp2_with fail
      ((with_reducible refine (oneS _).mono ?_); rintro e w2 ⟨rfl, hb2⟩)
      obtain ⟨hc2, hf2⟩ := bcell hb2
      have e2 := keep_lt hb2 (keep_lt hb13 hCz2)
      have i2 := keep_cell hb2 (keep_lt hb13 hCz2) (keep_cell hb13 hCz2 hCc2)
      have j2 := keep_frozen hb2 (keep_lt hb13 hCz2) (keep_frozen hb13 hCz2 hCf2)
      go_wp2_with ((with_reducible show bodyPost _ _ _ _ _ _); refine bodyPost_ret (by simp [results, Tryd.results56, go_sem, e2, i2, j2]; try rfl) rfl ?_; exact ⟨rfl, Grn⟩)
  obtain ⟨er, es, et⟩ := e1 h0 h1
  replace er := er.symm
  replace es := es.symm
  replace et := et.symm
  subst er es et
  clear e0 e1
  rw [if_neg h0] at q1
  rw [if_neg h1] at q2
  have hv1 : ¬ ((if sa = true then (-1 : Int) else 1) = 0) := by cases sa <;> decide
  have hv2 : ¬ ((if sb = true then (-1 : Int) else 1) = 0) := by cases sb <;> decide
  have hw1 : ((if sa = true then (-1 : Int) else 1) == 0) = false := by cases sa <;> rfl
  have hw2 : ((if sb = true then (-1 : Int) else 1) == 0) = false := by cases sb <;> rfl
  generalize (if sa = true then (-1 : Int) else 1) = v1 at *
  generalize (if sb = true then (-1 : Int) else 1) = v2 at *
  have Q1 := Lib.hid q1
  have Q2 := Lib.hid q2
  clear q1 q2 h0 h1
  go_enter Tryd.func56, Tryd.ntmps56
  go_upto_region 1 with (fail)
  refine wp_world (fun x => (∀ o, x.cell? ⟨w.heap.size, o, none⟩ = (#[.bool (sa), .int .u64 ↑a, .int .u64 0, .int .u64 0, .int .u64 0, .bool false, .int .u64 ↑p, .int .u64 0, .int .u64 0, .int .u64 0] : Array Value)[o]?) ∧ (∀ o, x.cell? ⟨w.heap.size + 1, o, none⟩ = (#[.bool (sb), .int .u64 ↑b, .int .u64 0, .int .u64 0, .int .u64 0, .bool false, .int .u64 ↑q, .int .u64 0, .int .u64 0, .int .u64 0] : Array Value)[o]?) ∧ (∀ o, x.cell? ⟨w.heap.size + 1 + 1, o, none⟩ = (#[.bool false, .int .u64 0, .int .u64 0, .int .u64 0, .int .u64 0, .bool false, .int .u64 0, .int .u64 0, .int .u64 0, .int .u64 0] : Array Value)[o]?) ∧ (∀ o, x.frozen? ⟨w.heap.size, o, none⟩ = false) ∧ (∀ o, x.frozen? ⟨w.heap.size + 1, o, none⟩ = false) ∧ (∀ o, x.frozen? ⟨w.heap.size + 1 + 1, o, none⟩ = false) ∧ w.heap.size < x.heap.size ∧ w.heap.size + 1 < x.heap.size ∧ w.heap.size + 1 + 1 < x.heap.size ∧ Below w.heap.size w x) ⟨fun o => by simp [go_sem], fun o => by simp [go_sem], fun o => by simp [go_sem], fun o => by simp [go_sem], fun o => by simp [go_sem], fun o => by simp [go_sem], by (first | omega | (simp [go_sem]; done) | (simp [go_sem]; omega)), by (first | omega | (simp [go_sem]; done) | (simp [go_sem]; omega)), by (first | omega | (simp [go_sem]; done) | (simp [go_sem]; omega)), Grn⟩ ?_
  rintro A ⟨hAc0, hAc1, hAc2, hAf0, hAf1, hAf2, hAz0, hAz1, hAz2, hAb⟩
  have hAK := Lib.hid (show ∀ x : World, Kp A.heap.size [] A x → (∀ o, x.cell? ⟨w.heap.size, o, none⟩ = (#[.bool (sa), .int .u64 ↑a, .int .u64 0, .int .u64 0, .int .u64 0, .bool false, .int .u64 ↑p, .int .u64 0, .int .u64 0, .int .u64 0] : Array Value)[o]?) ∧ (∀ o, x.cell? ⟨w.heap.size + 1, o, none⟩ = (#[.bool (sb), .int .u64 ↑b, .int .u64 0, .int .u64 0, .int .u64 0, .bool false, .int .u64 ↑q, .int .u64 0, .int .u64 0, .int .u64 0] : Array Value)[o]?) ∧ (∀ o, x.frozen? ⟨w.heap.size, o, none⟩ = false) ∧ (∀ o, x.frozen? ⟨w.heap.size + 1, o, none⟩ = false) ∧ w.heap.size < x.heap.size ∧ w.heap.size + 1 < x.heap.size ∧ A.heap.size ≤ x.heap.size from fun x k => ⟨fun o => (k.cell _ o hAz0 (by simp)).trans (hAc0 o), fun o => (k.cell _ o hAz1 (by simp)).trans (hAc1 o), fun o => (k.froz _ o hAz0).trans (hAf0 o), fun o => (k.froz _ o hAz1).trans (hAf1 o), Nat.lt_of_lt_of_le hAz0 k.size, Nat.lt_of_lt_of_le hAz1 k.size, k.size⟩)
  go_cut [] (fun wx => Kp A.heap.size [] A wx ∧ Below w.heap.size w wx)
  case first =>
    go_region_held3 (fun x => (∀ o, x.cell? ⟨w.heap.size, o, none⟩ = (#[.bool (sa), .int .u64 ↑a, .int .u64 0, .int .u64 0, .int .u64 0, .bool false, .int .u64 ↑p, .int .u64 0, .int .u64 0, .int .u64 0] : Array Value)[o]?) ∧ (∀ o, x.cell? ⟨w.heap.size + 1, o, none⟩ = (#[.bool (sb), .int .u64 ↑b, .int .u64 0, .int .u64 0, .int .u64 0, .bool false, .int .u64 ↑q, .int .u64 0, .int .u64 0, .int .u64 0] : Array Value)[o]?) ∧ (∀ o, x.frozen? ⟨w.heap.size, o, none⟩ = false) ∧ (∀ o, x.frozen? ⟨w.heap.size + 1, o, none⟩ = false) ∧ w.heap.size < x.heap.size ∧ w.heap.size + 1 < x.heap.size ∧ A.heap.size ≤ x.heap.size) ((refine hAK.out _ ?_; (repeat (first | (with_reducible assumption) | (with_reducible exact Kp.refl (Nat.le_refl _)) | (with_reducible refine Kp.drew ?_) | (with_reducible refine Kp.alloc ?_ _) | ((with_reducible refine Kp.same ?_ ?_ ?_ ?_ ?_); (focus (first | exact hAc0 _ | exact hAc1 _)); (focus (first | exact hAz0 | exact hAz1)); (focus (exact List.not_mem_nil)); (focus rfl)) | ((with_reducible apply Kp.later); (with_reducible assumption)))))) ((first | (go_at_call 69; (with_reducible refine (S1.out _ (HT.out.later Grn)).mono ?_); rintro e A_1 ⟨rfl, hbA_1⟩; have hkA_1 : Kp A.heap.size [] A A_1 := (by (repeat (first | (with_reducible assumption) | (with_reducible exact Kp.refl (Nat.le_refl _)) | (with_reducible refine Kp.drew ?_) | (with_reducible refine Kp.alloc ?_ _) | ((with_reducible refine Kp.same ?_ ?_ ?_ ?_ ?_); (focus (first | exact hAc0 _ | exact hAc1 _)); (focus (first | exact hAz0 | exact hAz1)); (focus (exact List.not_mem_nil)); (focus rfl)) | ((with_reducible apply Kp.later); (with_reducible assumption)))))) | (go_at_call 69; (with_reducible refine (S2.out _ (HT.out.later Grn)).mono ?_); rintro e A_2 ⟨rfl, hbA_2⟩; have hkA_2 : Kp A.heap.size [] A A_2 := (by (repeat (first | (with_reducible assumption) | (with_reducible exact Kp.refl (Nat.le_refl _)) | (with_reducible refine Kp.drew ?_) | (with_reducible refine Kp.alloc ?_ _) | ((with_reducible refine Kp.same ?_ ?_ ?_ ?_ ?_); (focus (first | exact hAc0 _ | exact hAc1 _)); (focus (first | exact hAz0 | exact hAz1)); (focus (exact List.not_mem_nil)); (focus rfl)) | ((with_reducible apply Kp.later); (with_reducible assumption))))))))
    all_goals go_wp2
    all_goals go_meet
    all_goals (case rel => exact ⟨by (repeat (first | (with_reducible assumption) | (with_reducible exact Kp.refl (Nat.le_refl _)) | (with_reducible refine Kp.drew ?_) | (with_reducible refine Kp.alloc ?_ _) | ((with_reducible refine Kp.same ?_ ?_ ?_ ?_ ?_); (focus (first | exact hAc0 _ | exact hAc1 _)); (focus (first | exact hAz0 | exact hAz1)); (focus (exact List.not_mem_nil)); (focus rfl)) | ((with_reducible apply Kp.later); (with_reducible assumption)))), Grn⟩)
  case rest =>
    obtain ⟨hk, hB⟩ := hcut
    have hCc0 := fun o => (hk.cell _ o hAz0 (by simp)).trans (hAc0 o)
    have hCc1 := fun o => (hk.cell _ o hAz1 (by simp)).trans (hAc1 o)
    have hCc2 := fun o => (hk.cell _ o hAz2 (by simp)).trans (hAc2 o)
    have hCf0 := fun o => (hk.froz _ o hAz0).trans (hAf0 o)
    have hCf1 := fun o => (hk.froz _ o hAz1).trans (hAf1 o)
    have hCf2 := fun o => (hk.froz _ o hAz2).trans (hAf2 o)
    have hCz0 := Nat.lt_of_lt_of_le hAz0 hk.size
    have hCz1 := Nat.lt_of_lt_of_le hAz1 hk.size
    have hCz2 := Nat.lt_of_lt_of_le hAz2 hk.size
    clear hAK hAc0 hAc1 hAc2 hAf0 hAf1 hAf2 hAz0 hAz1 hAz2 hk hAb
    go_wp2_with fail
    ((with_reducible refine (Q1.out _).mono ?_); rintro e w1 ⟨rfl, hb1⟩)
    obtain ⟨hc1, hf1⟩ := bcell hb1
    have d1 := keep_cell hb1 hCz1 hCc1
    have d1z := keep_lt hb1 hCz1
    go_wp2_with fail
    ((with_reducible refine (Q2.out _).mono ?_); rintro e w3 ⟨rfl, hb3⟩)
    obtain ⟨hc3, hf3⟩ := bcell hb3
    have hb13 := below_after hb1 hb3
    go_upto_region 4 with (fail)
    have e0 := keep_lt hb13 hCz0
    have e1 := keep_lt hb13 hCz1
    have e2 := keep_lt hb13 hCz2
    refine wp_world (fun x => (∀ o, x.cell? ⟨w.heap.size, o, none⟩ = (#[.bool (sa), .int .u64 ↑a, .int .u64 0, .int .u64 0, .int .u64 0, .bool false, .int .u64 ↑p, .int .u64 0, .int .u64 0, .int .u64 0] : Array Value)[o]?) ∧ (∀ o, x.cell? ⟨w.heap.size + 1, o, none⟩ = (#[.bool (sb), .int .u64 ↑b, .int .u64 0, .int .u64 0, .int .u64 0, .bool false, .int .u64 ↑q, .int .u64 0, .int .u64 0, .int .u64 0] : Array Value)[o]?) ∧ (∀ o, x.cell? ⟨w.heap.size + 1 + 1, o, none⟩ = (#[.bool false, .int .u64 0, .int .u64 0, .int .u64 0, .int .u64 0, .bool false, .int .u64 0, .int .u64 0, .int .u64 0, .int .u64 0] : Array Value)[o]?) ∧ (∀ o, x.frozen? ⟨w.heap.size, o, none⟩ = false) ∧ (∀ o, x.frozen? ⟨w.heap.size + 1, o, none⟩ = false) ∧ (∀ o, x.frozen? ⟨w.heap.size + 1 + 1, o, none⟩ = false) ∧ w.heap.size < x.heap.size ∧ w.heap.size + 1 < x.heap.size ∧ w.heap.size + 1 + 1 < x.heap.size ∧ Below w.heap.size w x) ⟨keep_cell hb13 hCz0 hCc0, keep_cell hb13 hCz1 hCc1, keep_cell hb13 hCz2 hCc2, fun o => by simp [go_sem, keep_frozen hb13 hCz0 hCf0, keep_frozen hb13 hCz1 hCf1, keep_frozen hb13 hCz2 hCf2, e0, e1, e2], fun o => by simp [go_sem, keep_frozen hb13 hCz0 hCf0, keep_frozen hb13 hCz1 hCf1, keep_frozen hb13 hCz2 hCf2, e0, e1, e2], fun o => by simp [go_sem, keep_frozen hb13 hCz0 hCf0, keep_frozen hb13 hCz1 hCf1, keep_frozen hb13 hCz2 hCf2, e0, e1, e2], by (first | omega | (simp [go_sem, keep_frozen hb13 hCz0 hCf0, keep_frozen hb13 hCz1 hCf1, keep_frozen hb13 hCz2 hCf2, e0, e1, e2]; done) | (simp [go_sem, keep_frozen hb13 hCz0 hCf0, keep_frozen hb13 hCz1 hCf1, keep_frozen hb13 hCz2 hCf2, e0, e1, e2]; omega)), by (first | omega | (simp [go_sem, keep_frozen hb13 hCz0 hCf0, keep_frozen hb13 hCz1 hCf1, keep_frozen hb13 hCz2 hCf2, e0, e1, e2]; done) | (simp [go_sem, keep_frozen hb13 hCz0 hCf0, keep_frozen hb13 hCz1 hCf1, keep_frozen hb13 hCz2 hCf2, e0, e1, e2]; omega)), by (first | omega | (simp [go_sem, keep_frozen hb13 hCz0 hCf0, keep_frozen hb13 hCz1 hCf1, keep_frozen hb13 hCz2 hCf2, e0, e1, e2]; done) | (simp [go_sem, keep_frozen hb13 hCz0 hCf0, keep_frozen hb13 hCz1 hCf1, keep_frozen hb13 hCz2 hCf2, e0, e1, e2]; omega)), Grn⟩ ?_
    rintro D ⟨hDc0, hDc1, hDc2, hDf0, hDf1, hDf2, hDz0, hDz1, hDz2, hDb⟩
    clear hb1 hc1 hf1 hb3 hc3 hf3 d1 d1z hb13 hCc0 hCc1 hCc2 hCf0 hCf1 hCf2 hCz0 hCz1 hCz2 hB e0 e1 e2
    go_cut [6, 7] (fun v7 v8 wx => ∃ B7 B8 : Nat, v7 = .pointer (some ⟨B7, 0, none⟩) ∧ v8 = .pointer (some ⟨B8, 0, none⟩) ∧ B7 ≠ B8 ∧ New D.heap.size B7 #[.bool false, .int .u64 ↑g, .int .u64 0, .int .u64 0, .int .u64 0] wx ∧ New D.heap.size B8 #[.bool false, .int .u64 ↑h, .int .u64 0, .int .u64 0, .int .u64 0] wx ∧ Below D.heap.size D wx)
    case first =>
      refine wp_world (fun x => (∀ o, x.cell? ⟨w.heap.size, o, none⟩ = (#[.bool (sa), .int .u64 ↑a, .int .u64 0, .int .u64 0, .int .u64 0, .bool false, .int .u64 ↑p, .int .u64 0, .int .u64 0, .int .u64 0] : Array Value)[o]?) ∧ (∀ o, x.cell? ⟨w.heap.size + 1, o, none⟩ = (#[.bool (sb), .int .u64 ↑b, .int .u64 0, .int .u64 0, .int .u64 0, .bool false, .int .u64 ↑q, .int .u64 0, .int .u64 0, .int .u64 0] : Array Value)[o]?) ∧ w.heap.size < x.heap.size ∧ w.heap.size + 1 < x.heap.size ∧ Below D.heap.size D x) ⟨fun o => by first | (simp [go_sem, hDc0, hDc1, hDz0, hDz1]; done) | (rcases o with _ | _ | _ | _ | _ | o <;> simp [go_sem, hDc0, hDc1, hDz0, hDz1]), fun o => by first | (simp [go_sem, hDc0, hDc1, hDz0, hDz1]; done) | (rcases o with _ | _ | _ | _ | _ | o <;> simp [go_sem, hDc0, hDc1, hDz0, hDz1]), by (first | omega | (simp [go_sem, hDc0, hDc1, hDz0, hDz1]; done) | (simp [go_sem, hDc0, hDc1, hDz0, hDz1]; omega)), by (first | omega | (simp [go_sem, hDc0, hDc1, hDz0, hDz1]; done) | (simp [go_sem, hDc0, hDc1, hDz0, hDz1]; omega)), Grn⟩ ?_
      rintro E ⟨hEc0, hEc1, hEz0, hEz1, hEb⟩
      have hEK := Lib.hid (show ∀ x : World, Kp E.heap.size [] E x → ((∀ o, x.cell? ⟨w.heap.size, o, none⟩ = (#[.bool (sa), .int .u64 ↑a, .int .u64 0, .int .u64 0, .int .u64 0, .bool false, .int .u64 ↑p, .int .u64 0, .int .u64 0, .int .u64 0] : Array Value)[o]?) ∧ (∀ o, x.cell? ⟨w.heap.size + 1, o, none⟩ = (#[.bool (sb), .int .u64 ↑b, .int .u64 0, .int .u64 0, .int .u64 0, .bool false, .int .u64 ↑q, .int .u64 0, .int .u64 0, .int .u64 0] : Array Value)[o]?) ∧ w.heap.size < x.heap.size ∧ w.heap.size + 1 < x.heap.size ∧ E.heap.size ≤ x.heap.size) from fun x k => ⟨fun o => (k.cell _ o hEz0 (by first | (simp; done) | (simp; omega))).trans (hEc0 o), fun o => (k.cell _ o hEz1 (by first | (simp; done) | (simp; omega))).trans (hEc1 o), Nat.lt_of_lt_of_le hEz0 k.size, Nat.lt_of_lt_of_le hEz1 k.size, k.size⟩)
      go_region_held3 (fun x => (∀ o, x.cell? ⟨w.heap.size, o, none⟩ = (#[.bool (sa), .int .u64 ↑a, .int .u64 0, .int .u64 0, .int .u64 0, .bool false, .int .u64 ↑p, .int .u64 0, .int .u64 0, .int .u64 0] : Array Value)[o]?) ∧ (∀ o, x.cell? ⟨w.heap.size + 1, o, none⟩ = (#[.bool (sb), .int .u64 ↑b, .int .u64 0, .int .u64 0, .int .u64 0, .bool false, .int .u64 ↑q, .int .u64 0, .int .u64 0, .int .u64 0] : Array Value)[o]?) ∧ w.heap.size < x.heap.size ∧ w.heap.size + 1 < x.heap.size ∧ E.heap.size ≤ x.heap.size) ((refine hEK.out _ ?_; exact Kpn)) ((first | (go_at_call 72; (with_reducible refine (G1.out _ (HT.out.later (by have hx := hDb; exact Grn))).mono ?_); rintro e E_1 ⟨rfl, hbE_1⟩; have hkE_1 : Kp E.heap.size [] E E_1 := Kpn; obtain ⟨hE_1k, hE_1g⟩ := bcell hbE_1; have hE_1r := hkE_1.size; have hE_1s := hbE_1.size; (try simp at hE_1s); have hE_1z : E.heap.size ≤ E_1.heap.size := (by (first | exact hE_1s | exact Nat.le_of_lt hE_1s | exact Nat.le_of_lt (Nat.lt_of_succ_lt hE_1s))); (try (have hE_1t00 : E.heap.size < E_1.heap.size := (by (first | exact hE_1s | exact Nat.lt_of_succ_lt hE_1s)))); (try (have hE_1t01 : E.heap.size + 1 < E_1.heap.size := (by exact hE_1s)))) | (go_at_call 72; (with_reducible refine (G2.out _ (HT.out.later (by have hx := hDb; exact Grn))).mono ?_); rintro e E_2 ⟨rfl, hbE_2⟩; have hkE_2 : Kp E.heap.size [] E E_2 := Kpn; obtain ⟨hE_2k, hE_2g⟩ := bcell hbE_2; have hE_2r := hkE_2.size; have hE_2s := hbE_2.size; (try simp at hE_2s); have hE_2z : E_1.heap.size ≤ E_2.heap.size := (by (first | exact hE_2s | exact Nat.le_of_lt hE_2s | exact Nat.le_of_lt (Nat.lt_of_succ_lt hE_2s))); (try (have hE_2t10 : E_1.heap.size < E_2.heap.size := (by (first | exact hE_2s | exact Nat.lt_of_succ_lt hE_2s)))); (try (have hE_2t11 : E_1.heap.size + 1 < E_2.heap.size := (by exact hE_2s))); (try (have hE_2t00 : E.heap.size < E_2.heap.size := Nat.lt_of_lt_of_le hE_1t00 hE_2z)); (try (have hE_2t01 : E.heap.size + 1 < E_2.heap.size := Nat.lt_of_lt_of_le hE_1t01 hE_2z)))))
      all_goals
        go_wp2
        go_meet
        case rel =>
              (repeat (rename_i hjunk; clear hjunk)); have hwsE := hEb.size; skip
              refine ⟨_, _, rfl, rfl, ?_, ⟨?_, ?_, ?_, ?_⟩, ⟨?_, ?_, ?_, ?_⟩, Grn⟩
              · (first | (with_reducible refine Nat.ne_of_lt ?_; with_reducible assumption) | (with_reducible refine Nat.ne_of_gt ?_; with_reducible assumption) | (with_reducible exact Nat.ne_of_lt (Nat.lt_add_one _)) | (with_reducible exact Nat.ne_of_gt (Nat.lt_add_one _)) | omega)
              · (first | (with_reducible assumption) | omega | (simp; omega))
              · exact Szn
              · (repeat (first | (with_reducible assumption) | (with_reducible exact new_cells _ _ _) | (with_reducible exact new_cells2 _ _ _ _) | (with_reducible refine keep_drew ?_) | (with_reducible apply set8_at) | (with_reducible apply set5_at) | ((with_reducible refine new_cells_at ?_ _ _); (focus ((simp only [World.size_alloc, World.size_drew, World.size_setCell]; done)))) | ((with_reducible refine set8_far ?_ ?_); (focus ((first | (with_reducible refine Nat.ne_of_lt ?_; with_reducible assumption) | (with_reducible refine Nat.ne_of_gt ?_; with_reducible assumption) | (with_reducible exact Nat.ne_of_lt (Nat.lt_add_one _)) | (with_reducible exact Nat.ne_of_gt (Nat.lt_add_one _)) | omega)))) | ((with_reducible refine set5_far ?_ ?_); (focus ((first | (with_reducible refine Nat.ne_of_lt ?_; with_reducible assumption) | (with_reducible refine Nat.ne_of_gt ?_; with_reducible assumption) | (with_reducible exact Nat.ne_of_lt (Nat.lt_add_one _)) | (with_reducible exact Nat.ne_of_gt (Nat.lt_add_one _)) | omega)))) | ((with_reducible refine keep_cell_a ?_ ?_); (focus (exact Szn))) | ((with_reducible refine keep_cell hbE_2 ?_ ?_); (focus (exact Szn))) | ((with_reducible refine keep_cell hbE_1 ?_ ?_); (focus (exact Szn)))))
              · (repeat (first | (with_reducible assumption) | (with_reducible exact new_frozen _ _ _) | (with_reducible exact new_frozen2 _ _ _ _) | (with_reducible refine keep_frozen_drew ?_) | (with_reducible refine keep_frozen_c ?_) | ((with_reducible refine new_frozen_at ?_ _ _); (focus ((simp only [World.size_alloc, World.size_drew, World.size_setCell]; done)))) | ((with_reducible refine keep_frozen_a ?_ ?_); (focus (exact Szn))) | ((with_reducible refine keep_frozen hbE_2 ?_ ?_); (focus (exact Szn))) | ((with_reducible refine keep_frozen hbE_1 ?_ ?_); (focus (exact Szn)))))
              · (first | (with_reducible assumption) | omega | (simp; omega))
              · exact Szn
              · (repeat (first | (with_reducible assumption) | (with_reducible exact new_cells _ _ _) | (with_reducible exact new_cells2 _ _ _ _) | (with_reducible refine keep_drew ?_) | (with_reducible apply set8_at) | (with_reducible apply set5_at) | ((with_reducible refine new_cells_at ?_ _ _); (focus ((simp only [World.size_alloc, World.size_drew, World.size_setCell]; done)))) | ((with_reducible refine set8_far ?_ ?_); (focus ((first | (with_reducible refine Nat.ne_of_lt ?_; with_reducible assumption) | (with_reducible refine Nat.ne_of_gt ?_; with_reducible assumption) | (with_reducible exact Nat.ne_of_lt (Nat.lt_add_one _)) | (with_reducible exact Nat.ne_of_gt (Nat.lt_add_one _)) | omega)))) | ((with_reducible refine set5_far ?_ ?_); (focus ((first | (with_reducible refine Nat.ne_of_lt ?_; with_reducible assumption) | (with_reducible refine Nat.ne_of_gt ?_; with_reducible assumption) | (with_reducible exact Nat.ne_of_lt (Nat.lt_add_one _)) | (with_reducible exact Nat.ne_of_gt (Nat.lt_add_one _)) | omega)))) | ((with_reducible refine keep_cell_a ?_ ?_); (focus (exact Szn))) | ((with_reducible refine keep_cell hbE_2 ?_ ?_); (focus (exact Szn))) | ((with_reducible refine keep_cell hbE_1 ?_ ?_); (focus (exact Szn)))))
              · (repeat (first | (with_reducible assumption) | (with_reducible exact new_frozen _ _ _) | (with_reducible exact new_frozen2 _ _ _ _) | (with_reducible refine keep_frozen_drew ?_) | (with_reducible refine keep_frozen_c ?_) | ((with_reducible refine new_frozen_at ?_ _ _); (focus ((simp only [World.size_alloc, World.size_drew, World.size_setCell]; done)))) | ((with_reducible refine keep_frozen_a ?_ ?_); (focus (exact Szn))) | ((with_reducible refine keep_frozen hbE_2 ?_ ?_); (focus (exact Szn))) | ((with_reducible refine keep_frozen hbE_1 ?_ ?_); (focus (exact Szn)))))
    case rest =>
      obtain ⟨B7, B8, rfl, rfl, hne, N7, N8, hE⟩ := hcut
      have hsE := hE.size
      have n7 := N7.lt
      have n8 := N8.lt
      have f0 := keep_lt hE hDz0
      have f1 := keep_lt hE hDz1
      have f2 := keep_lt hE hDz2
      go_upto_region 5 with (fail)
      refine wp_world (fun x => (∀ o, x.cell? ⟨w.heap.size, o, none⟩ = (#[.bool (sa), .int .u64 ↑a, .int .u64 0, .int .u64 0, .int .u64 0, .bool false, .int .u64 ↑p, .int .u64 0, .int .u64 0, .int .u64 0] : Array Value)[o]?) ∧ (∀ o, x.cell? ⟨w.heap.size + 1, o, none⟩ = (#[.bool (sb), .int .u64 ↑b, .int .u64 0, .int .u64 0, .int .u64 0, .bool false, .int .u64 ↑q, .int .u64 0, .int .u64 0, .int .u64 0] : Array Value)[o]?) ∧ (∀ o, x.cell? ⟨w.heap.size + 1 + 1, o, none⟩ = (#[.bool false, .int .u64 0, .int .u64 0, .int .u64 0, .int .u64 0, .bool false, .int .u64 0, .int .u64 0, .int .u64 0, .int .u64 0] : Array Value)[o]?) ∧ (∀ o, x.cell? ⟨B7, o, none⟩ = (#[.bool false, .int .u64 ↑g, .int .u64 0, .int .u64 0, .int .u64 0] : Array Value)[o]?) ∧ (∀ o, x.cell? ⟨B8, o, none⟩ = (#[.bool false, .int .u64 ↑h, .int .u64 0, .int .u64 0, .int .u64 0] : Array Value)[o]?) ∧ (∀ o, x.frozen? ⟨w.heap.size, o, none⟩ = false) ∧ (∀ o, x.frozen? ⟨w.heap.size + 1, o, none⟩ = false) ∧ (∀ o, x.frozen? ⟨w.heap.size + 1 + 1, o, none⟩ = false) ∧ (∀ o, x.frozen? ⟨B7, o, none⟩ = false) ∧ (∀ o, x.frozen? ⟨B8, o, none⟩ = false) ∧ w.heap.size < x.heap.size ∧ w.heap.size + 1 < x.heap.size ∧ w.heap.size + 1 + 1 < x.heap.size ∧ B7 < x.heap.size ∧ B8 < x.heap.size ∧ Below w.heap.size w x) ⟨keep_cell hE hDz0 hDc0, keep_cell hE hDz1 hDc1, keep_cell hE hDz2 hDc2, N7.cell, N8.cell, fun o => by simp [go_sem, keep_frozen hE hDz0 hDf0, keep_frozen hE hDz1 hDf1, keep_frozen hE hDz2 hDf2, N7.froz, N8.froz], fun o => by simp [go_sem, keep_frozen hE hDz0 hDf0, keep_frozen hE hDz1 hDf1, keep_frozen hE hDz2 hDf2, N7.froz, N8.froz], fun o => by simp [go_sem, keep_frozen hE hDz0 hDf0, keep_frozen hE hDz1 hDf1, keep_frozen hE hDz2 hDf2, N7.froz, N8.froz], fun o => by simp [go_sem, keep_frozen hE hDz0 hDf0, keep_frozen hE hDz1 hDf1, keep_frozen hE hDz2 hDf2, N7.froz, N8.froz], fun o => by simp [go_sem, keep_frozen hE hDz0 hDf0, keep_frozen hE hDz1 hDf1, keep_frozen hE hDz2 hDf2, N7.froz, N8.froz], by (first | omega | (simp [go_sem, keep_frozen hE hDz0 hDf0, keep_frozen hE hDz1 hDf1, keep_frozen hE hDz2 hDf2, N7.froz, N8.froz]; done) | (simp [go_sem, keep_frozen hE hDz0 hDf0, keep_frozen hE hDz1 hDf1, keep_frozen hE hDz2 hDf2, N7.froz, N8.froz]; omega)), by (first | omega | (simp [go_sem, keep_frozen hE hDz0 hDf0, keep_frozen hE hDz1 hDf1, keep_frozen hE hDz2 hDf2, N7.froz, N8.froz]; done) | (simp [go_sem, keep_frozen hE hDz0 hDf0, keep_frozen hE hDz1 hDf1, keep_frozen hE hDz2 hDf2, N7.froz, N8.froz]; omega)), by (first | omega | (simp [go_sem, keep_frozen hE hDz0 hDf0, keep_frozen hE hDz1 hDf1, keep_frozen hE hDz2 hDf2, N7.froz, N8.froz]; done) | (simp [go_sem, keep_frozen hE hDz0 hDf0, keep_frozen hE hDz1 hDf1, keep_frozen hE hDz2 hDf2, N7.froz, N8.froz]; omega)), by (first | omega | (simp [go_sem, keep_frozen hE hDz0 hDf0, keep_frozen hE hDz1 hDf1, keep_frozen hE hDz2 hDf2, N7.froz, N8.froz]; done) | (simp [go_sem, keep_frozen hE hDz0 hDf0, keep_frozen hE hDz1 hDf1, keep_frozen hE hDz2 hDf2, N7.froz, N8.froz]; omega)), by (first | omega | (simp [go_sem, keep_frozen hE hDz0 hDf0, keep_frozen hE hDz1 hDf1, keep_frozen hE hDz2 hDf2, N7.froz, N8.froz]; done) | (simp [go_sem, keep_frozen hE hDz0 hDf0, keep_frozen hE hDz1 hDf1, keep_frozen hE hDz2 hDf2, N7.froz, N8.froz]; omega)), Grn⟩ ?_
      rintro F ⟨hFc0, hFc1, hFc2, hFc3, hFc4, hFf0, hFf1, hFf2, hFf3, hFf4, hFz0, hFz1, hFz2, hFz3, hFz4, hFb⟩
      clear hE hDc0 hDc1 hDc2 hDf0 hDf1 hDf2 hDz0 hDz1 hDz2 hDb N7 N8 n7 n8 f0 f1 f2 hsE
      go_cut [5, 8] (fun v5 v9 wx => ∃ B9 : Nat, v5 = .int .i64 0 ∧ v9 = .pointer (some ⟨B9, 0, none⟩) ∧ New F.heap.size B9 #[.bool (r), .int .u64 ↑x', .int .u64 0, .int .u64 0, .int .u64 0] wx ∧ Below F.heap.size F wx)
      case first =>
        refine wp_world (fun x => (∀ o, x.cell? ⟨w.heap.size, o, none⟩ = (#[.bool (sa), .int .u64 ↑a, .int .u64 0, .int .u64 0, .int .u64 0, .bool false, .int .u64 ↑p, .int .u64 0, .int .u64 0, .int .u64 0] : Array Value)[o]?) ∧ (∀ o, x.cell? ⟨w.heap.size + 1, o, none⟩ = (#[.bool (sb), .int .u64 ↑b, .int .u64 0, .int .u64 0, .int .u64 0, .bool false, .int .u64 ↑q, .int .u64 0, .int .u64 0, .int .u64 0] : Array Value)[o]?) ∧ (∀ o, x.cell? ⟨B7, o, none⟩ = (#[.bool false, .int .u64 ↑g, .int .u64 0, .int .u64 0, .int .u64 0] : Array Value)[o]?) ∧ (∀ o, x.cell? ⟨B8, o, none⟩ = (#[.bool false, .int .u64 ↑h, .int .u64 0, .int .u64 0, .int .u64 0] : Array Value)[o]?) ∧ w.heap.size < x.heap.size ∧ w.heap.size + 1 < x.heap.size ∧ B7 < x.heap.size ∧ B8 < x.heap.size ∧ Below F.heap.size F x) ⟨fun o => by first | (simp [go_sem, hFc0, hFc1, hFc3, hFc4, hFz0, hFz1, hFz3, hFz4]; done) | (rcases o with _ | _ | _ | _ | _ | o <;> simp [go_sem, hFc0, hFc1, hFc3, hFc4, hFz0, hFz1, hFz3, hFz4]), fun o => by first | (simp [go_sem, hFc0, hFc1, hFc3, hFc4, hFz0, hFz1, hFz3, hFz4]; done) | (rcases o with _ | _ | _ | _ | _ | o <;> simp [go_sem, hFc0, hFc1, hFc3, hFc4, hFz0, hFz1, hFz3, hFz4]), fun o => by first | (simp [go_sem, hFc0, hFc1, hFc3, hFc4, hFz0, hFz1, hFz3, hFz4]; done) | (rcases o with _ | _ | _ | _ | _ | o <;> simp [go_sem, hFc0, hFc1, hFc3, hFc4, hFz0, hFz1, hFz3, hFz4]), fun o => by first | (simp [go_sem, hFc0, hFc1, hFc3, hFc4, hFz0, hFz1, hFz3, hFz4]; done) | (rcases o with _ | _ | _ | _ | _ | o <;> simp [go_sem, hFc0, hFc1, hFc3, hFc4, hFz0, hFz1, hFz3, hFz4]), by (first | omega | (simp [go_sem, hFc0, hFc1, hFc3, hFc4, hFz0, hFz1, hFz3, hFz4]; done) | (simp [go_sem, hFc0, hFc1, hFc3, hFc4, hFz0, hFz1, hFz3, hFz4]; omega)), by (first | omega | (simp [go_sem, hFc0, hFc1, hFc3, hFc4, hFz0, hFz1, hFz3, hFz4]; done) | (simp [go_sem, hFc0, hFc1, hFc3, hFc4, hFz0, hFz1, hFz3, hFz4]; omega)), by (first | omega | (simp [go_sem, hFc0, hFc1, hFc3, hFc4, hFz0, hFz1, hFz3, hFz4]; done) | (simp [go_sem, hFc0, hFc1, hFc3, hFc4, hFz0, hFz1, hFz3, hFz4]; omega)), by (first | omega | (simp [go_sem, hFc0, hFc1, hFc3, hFc4, hFz0, hFz1, hFz3, hFz4]; done) | (simp [go_sem, hFc0, hFc1, hFc3, hFc4, hFz0, hFz1, hFz3, hFz4]; omega)), Grn⟩ ?_
        rintro K ⟨hKc0, hKc1, hKc2, hKc3, hKz0, hKz1, hKz2, hKz3, hKb⟩
        have hKK := Lib.hid (show ∀ x : World, Kp K.heap.size [] K x → ((∀ o, x.cell? ⟨w.heap.size, o, none⟩ = (#[.bool (sa), .int .u64 ↑a, .int .u64 0, .int .u64 0, .int .u64 0, .bool false, .int .u64 ↑p, .int .u64 0, .int .u64 0, .int .u64 0] : Array Value)[o]?) ∧ (∀ o, x.cell? ⟨w.heap.size + 1, o, none⟩ = (#[.bool (sb), .int .u64 ↑b, .int .u64 0, .int .u64 0, .int .u64 0, .bool false, .int .u64 ↑q, .int .u64 0, .int .u64 0, .int .u64 0] : Array Value)[o]?) ∧ (∀ o, x.cell? ⟨B7, o, none⟩ = (#[.bool false, .int .u64 ↑g, .int .u64 0, .int .u64 0, .int .u64 0] : Array Value)[o]?) ∧ (∀ o, x.cell? ⟨B8, o, none⟩ = (#[.bool false, .int .u64 ↑h, .int .u64 0, .int .u64 0, .int .u64 0] : Array Value)[o]?) ∧ w.heap.size < x.heap.size ∧ w.heap.size + 1 < x.heap.size ∧ B7 < x.heap.size ∧ B8 < x.heap.size ∧ K.heap.size ≤ x.heap.size) from fun x k => ⟨fun o => (k.cell _ o hKz0 (by first | (simp; done) | (simp; omega))).trans (hKc0 o), fun o => (k.cell _ o hKz1 (by first | (simp; done) | (simp; omega))).trans (hKc1 o), fun o => (k.cell _ o hKz2 (by first | (simp; done) | (simp; omega))).trans (hKc2 o), fun o => (k.cell _ o hKz3 (by first | (simp; done) | (simp; omega))).trans (hKc3 o), Nat.lt_of_lt_of_le hKz0 k.size, Nat.lt_of_lt_of_le hKz1 k.size, Nat.lt_of_lt_of_le hKz2 k.size, Nat.lt_of_lt_of_le hKz3 k.size, k.size⟩)
        go_region_held3 (fun x => (∀ o, x.cell? ⟨w.heap.size, o, none⟩ = (#[.bool (sa), .int .u64 ↑a, .int .u64 0, .int .u64 0, .int .u64 0, .bool false, .int .u64 ↑p, .int .u64 0, .int .u64 0, .int .u64 0] : Array Value)[o]?) ∧ (∀ o, x.cell? ⟨w.heap.size + 1, o, none⟩ = (#[.bool (sb), .int .u64 ↑b, .int .u64 0, .int .u64 0, .int .u64 0, .bool false, .int .u64 ↑q, .int .u64 0, .int .u64 0, .int .u64 0] : Array Value)[o]?) ∧ (∀ o, x.cell? ⟨B7, o, none⟩ = (#[.bool false, .int .u64 ↑g, .int .u64 0, .int .u64 0, .int .u64 0] : Array Value)[o]?) ∧ (∀ o, x.cell? ⟨B8, o, none⟩ = (#[.bool false, .int .u64 ↑h, .int .u64 0, .int .u64 0, .int .u64 0] : Array Value)[o]?) ∧ w.heap.size < x.heap.size ∧ w.heap.size + 1 < x.heap.size ∧ B7 < x.heap.size ∧ B8 < x.heap.size ∧ K.heap.size ≤ x.heap.size) ((refine hKK.out _ ?_; exact Kpn)) ((first | (go_at_call 74; (with_reducible refine (O1.out _).mono ?_); rintro e K_1 ⟨rfl, hbK_1⟩; have hkK_1 : Kp K.heap.size [] K K_1 := Kpn; obtain ⟨hK_1k, hK_1g⟩ := bcell hbK_1; have hK_1r := hkK_1.size; have hK_1s := hbK_1.size; (try simp at hK_1s); have hK_1z : K.heap.size ≤ K_1.heap.size := (by (first | exact hK_1s | exact Nat.le_of_lt hK_1s | exact Nat.le_of_lt (Nat.lt_of_succ_lt hK_1s))); (try (have hK_1t00 : K.heap.size < K_1.heap.size := (by (first | exact hK_1s | exact Nat.lt_of_succ_lt hK_1s)))); (try (have hK_1t01 : K.heap.size + 1 < K_1.heap.size := (by exact hK_1s)))) | (go_at_call 74; (with_reducible refine (O2.out _).mono ?_); rintro e K_2 ⟨rfl, hbK_2⟩; have hkK_2 : Kp K.heap.size [] K K_2 := Kpn; obtain ⟨hK_2k, hK_2g⟩ := bcell hbK_2; have hK_2r := hkK_2.size; have hK_2s := hbK_2.size; (try simp at hK_2s); have hK_2z : K_1.heap.size ≤ K_2.heap.size := (by (first | exact hK_2s | exact Nat.le_of_lt hK_2s | exact Nat.le_of_lt (Nat.lt_of_succ_lt hK_2s))); (try (have hK_2t10 : K_1.heap.size < K_2.heap.size := (by (first | exact hK_2s | exact Nat.lt_of_succ_lt hK_2s)))); (try (have hK_2t11 : K_1.heap.size + 1 < K_2.heap.size := (by exact hK_2s))); (try (have hK_2t00 : K.heap.size < K_2.heap.size := Nat.lt_of_lt_of_le hK_1t00 hK_2z)); (try (have hK_2t01 : K.heap.size + 1 < K_2.heap.size := Nat.lt_of_lt_of_le hK_1t01 hK_2z))) | (go_at_call 73; (with_reducible refine (M1.out _).mono ?_); rintro e K_3 ⟨rfl, hbK_3⟩; have hkK_3 : Kp K.heap.size [] K K_3 := Kpn; obtain ⟨hK_3k, hK_3g⟩ := bcell hbK_3; have hK_3r := hkK_3.size; have hK_3s := hbK_3.size; (try simp at hK_3s); have hK_3z : K_2.heap.size ≤ K_3.heap.size := (by (first | exact hK_3s | exact Nat.le_of_lt hK_3s | exact Nat.le_of_lt (Nat.lt_of_succ_lt hK_3s))); (try (have hK_3t20 : K_2.heap.size < K_3.heap.size := (by (first | exact hK_3s | exact Nat.lt_of_succ_lt hK_3s)))); (try (have hK_3t21 : K_2.heap.size + 1 < K_3.heap.size := (by exact hK_3s))); (try (have hK_3t00 : K.heap.size < K_3.heap.size := Nat.lt_of_lt_of_le hK_2t00 hK_3z)); (try (have hK_3t01 : K.heap.size + 1 < K_3.heap.size := Nat.lt_of_lt_of_le hK_2t01 hK_3z)); (try (have hK_3t10 : K_1.heap.size < K_3.heap.size := Nat.lt_of_lt_of_le hK_2t10 hK_3z)); (try (have hK_3t11 : K_1.heap.size + 1 < K_3.heap.size := Nat.lt_of_lt_of_le hK_2t11 hK_3z)))))
        all_goals
          go_wp2
          go_meet
          case rel =>
              (repeat (rename_i hjunk; clear hjunk)); have hwsK := hKb.size; skip
              refine ⟨_, rfl, rfl, ?_⟩
              first
                | ((with_reducible refine new_alloc ?_ ?_)
                   · (first | (with_reducible assumption) | omega | (simp; omega))
                   · exact Grn)
                | ((with_reducible refine new5 ?_ ?_ ?_ ?_ ?_ ?_)
                   · (first | (with_reducible assumption) | omega | (simp; omega))
                   · exact Szn
                   · (repeat (first | (with_reducible assumption) | (with_reducible exact new_cells _ _ _) | (with_reducible exact new_cells2 _ _ _ _) | (with_reducible refine keep_drew ?_) | (with_reducible apply set8_at) | (with_reducible apply set5_at) | ((with_reducible refine new_cells_at ?_ _ _); (focus ((simp only [World.size_alloc, World.size_drew, World.size_setCell]; done)))) | ((with_reducible refine set8_far ?_ ?_); (focus ((first | (with_reducible refine Nat.ne_of_lt ?_; with_reducible assumption) | (with_reducible refine Nat.ne_of_gt ?_; with_reducible assumption) | (with_reducible exact Nat.ne_of_lt (Nat.lt_add_one _)) | (with_reducible exact Nat.ne_of_gt (Nat.lt_add_one _)) | omega)))) | ((with_reducible refine set5_far ?_ ?_); (focus ((first | (with_reducible refine Nat.ne_of_lt ?_; with_reducible assumption) | (with_reducible refine Nat.ne_of_gt ?_; with_reducible assumption) | (with_reducible exact Nat.ne_of_lt (Nat.lt_add_one _)) | (with_reducible exact Nat.ne_of_gt (Nat.lt_add_one _)) | omega)))) | ((with_reducible refine keep_cell_a ?_ ?_); (focus (exact Szn))) | ((with_reducible refine keep_cell hbK_3 ?_ ?_); (focus (exact Szn))) | ((with_reducible refine keep_cell hbK_2 ?_ ?_); (focus (exact Szn))) | ((with_reducible refine keep_cell hbK_1 ?_ ?_); (focus (exact Szn)))))
                   · (repeat (first | (with_reducible assumption) | (with_reducible exact new_frozen _ _ _) | (with_reducible exact new_frozen2 _ _ _ _) | (with_reducible refine keep_frozen_drew ?_) | (with_reducible refine keep_frozen_c ?_) | ((with_reducible refine new_frozen_at ?_ _ _); (focus ((simp only [World.size_alloc, World.size_drew, World.size_setCell]; done)))) | ((with_reducible refine keep_frozen_a ?_ ?_); (focus (exact Szn))) | ((with_reducible refine keep_frozen hbK_3 ?_ ?_); (focus (exact Szn))) | ((with_reducible refine keep_frozen hbK_2 ?_ ?_); (focus (exact Szn))) | ((with_reducible refine keep_frozen hbK_1 ?_ ?_); (focus (exact Szn)))))
                   · (first | (with_reducible assumption) | omega | (simp; omega))
                   · exact Grn)
      case rest =>
        obtain ⟨B9, rfl, rfl, N9, hG⟩ := hcut
        have hsG := hG.size
        have n9 := N9.lt
        have f0 := keep_lt hG hFz0
        have f1 := keep_lt hG hFz1
        have f2 := keep_lt hG hFz2
        have f3 := keep_lt hG hFz3
        have f4 := keep_lt hG hFz4
        go_upto_region 6 with (fail)
        refine wp_world (fun x => (∀ o, x.cell? ⟨w.heap.size, o, none⟩ = (#[.bool (sa), .int .u64 ↑a, .int .u64 0, .int .u64 0, .int .u64 0, .bool false, .int .u64 ↑p, .int .u64 0, .int .u64 0, .int .u64 0] : Array Value)[o]?) ∧ (∀ o, x.cell? ⟨w.heap.size + 1, o, none⟩ = (#[.bool (sb), .int .u64 ↑b, .int .u64 0, .int .u64 0, .int .u64 0, .bool false, .int .u64 ↑q, .int .u64 0, .int .u64 0, .int .u64 0] : Array Value)[o]?) ∧ (∀ o, x.cell? ⟨w.heap.size + 1 + 1, o, none⟩ = (#[.bool false, .int .u64 0, .int .u64 0, .int .u64 0, .int .u64 0, .bool false, .int .u64 0, .int .u64 0, .int .u64 0, .int .u64 0] : Array Value)[o]?) ∧ (∀ o, x.cell? ⟨B7, o, none⟩ = (#[.bool false, .int .u64 ↑g, .int .u64 0, .int .u64 0, .int .u64 0] : Array Value)[o]?) ∧ (∀ o, x.cell? ⟨B8, o, none⟩ = (#[.bool false, .int .u64 ↑h, .int .u64 0, .int .u64 0, .int .u64 0] : Array Value)[o]?) ∧ (∀ o, x.cell? ⟨B9, o, none⟩ = (#[.bool (r), .int .u64 ↑x', .int .u64 0, .int .u64 0, .int .u64 0] : Array Value)[o]?) ∧ (∀ o, x.frozen? ⟨w.heap.size, o, none⟩ = false) ∧ (∀ o, x.frozen? ⟨w.heap.size + 1, o, none⟩ = false) ∧ (∀ o, x.frozen? ⟨w.heap.size + 1 + 1, o, none⟩ = false) ∧ (∀ o, x.frozen? ⟨B7, o, none⟩ = false) ∧ (∀ o, x.frozen? ⟨B8, o, none⟩ = false) ∧ (∀ o, x.frozen? ⟨B9, o, none⟩ = false) ∧ w.heap.size < x.heap.size ∧ w.heap.size + 1 < x.heap.size ∧ w.heap.size + 1 + 1 < x.heap.size ∧ B7 < x.heap.size ∧ B8 < x.heap.size ∧ B9 < x.heap.size ∧ Below w.heap.size w x) ⟨keep_cell hG hFz0 hFc0, keep_cell hG hFz1 hFc1, keep_cell hG hFz2 hFc2, keep_cell hG hFz3 hFc3, keep_cell hG hFz4 hFc4, N9.cell, fun o => by simp [go_sem, keep_frozen hG hFz0 hFf0, keep_frozen hG hFz1 hFf1, keep_frozen hG hFz2 hFf2, keep_frozen hG hFz3 hFf3, keep_frozen hG hFz4 hFf4, N9.froz], fun o => by simp [go_sem, keep_frozen hG hFz0 hFf0, keep_frozen hG hFz1 hFf1, keep_frozen hG hFz2 hFf2, keep_frozen hG hFz3 hFf3, keep_frozen hG hFz4 hFf4, N9.froz], fun o => by simp [go_sem, keep_frozen hG hFz0 hFf0, keep_frozen hG hFz1 hFf1, keep_frozen hG hFz2 hFf2, keep_frozen hG hFz3 hFf3, keep_frozen hG hFz4 hFf4, N9.froz], fun o => by simp [go_sem, keep_frozen hG hFz0 hFf0, keep_frozen hG hFz1 hFf1, keep_frozen hG hFz2 hFf2, keep_frozen hG hFz3 hFf3, keep_frozen hG hFz4 hFf4, N9.froz], fun o => by simp [go_sem, keep_frozen hG hFz0 hFf0, keep_frozen hG hFz1 hFf1, keep_frozen hG hFz2 hFf2, keep_frozen hG hFz3 hFf3, keep_frozen hG hFz4 hFf4, N9.froz], fun o => by simp [go_sem, keep_frozen hG hFz0 hFf0, keep_frozen hG hFz1 hFf1, keep_frozen hG hFz2 hFf2, keep_frozen hG hFz3 hFf3, keep_frozen hG hFz4 hFf4, N9.froz], by (first | omega | (simp [go_sem, keep_frozen hG hFz0 hFf0, keep_frozen hG hFz1 hFf1, keep_frozen hG hFz2 hFf2, keep_frozen hG hFz3 hFf3, keep_frozen hG hFz4 hFf4, N9.froz]; done) | (simp [go_sem, keep_frozen hG hFz0 hFf0, keep_frozen hG hFz1 hFf1, keep_frozen hG hFz2 hFf2, keep_frozen hG hFz3 hFf3, keep_frozen hG hFz4 hFf4, N9.froz]; omega)), by (first | omega | (simp [go_sem, keep_frozen hG hFz0 hFf0, keep_frozen hG hFz1 hFf1, keep_frozen hG hFz2 hFf2, keep_frozen hG hFz3 hFf3, keep_frozen hG hFz4 hFf4, N9.froz]; done) | (simp [go_sem, keep_frozen hG hFz0 hFf0, keep_frozen hG hFz1 hFf1, keep_frozen hG hFz2 hFf2, keep_frozen hG hFz3 hFf3, keep_frozen hG hFz4 hFf4, N9.froz]; omega)), by (first | omega | (simp [go_sem, keep_frozen hG hFz0 hFf0, keep_frozen hG hFz1 hFf1, keep_frozen hG hFz2 hFf2, keep_frozen hG hFz3 hFf3, keep_frozen hG hFz4 hFf4, N9.froz]; done) | (simp [go_sem, keep_frozen hG hFz0 hFf0, keep_frozen hG hFz1 hFf1, keep_frozen hG hFz2 hFf2, keep_frozen hG hFz3 hFf3, keep_frozen hG hFz4 hFf4, N9.froz]; omega)), by (first | omega | (simp [go_sem, keep_frozen hG hFz0 hFf0, keep_frozen hG hFz1 hFf1, keep_frozen hG hFz2 hFf2, keep_frozen hG hFz3 hFf3, keep_frozen hG hFz4 hFf4, N9.froz]; done) | (simp [go_sem, keep_frozen hG hFz0 hFf0, keep_frozen hG hFz1 hFf1, keep_frozen hG hFz2 hFf2, keep_frozen hG hFz3 hFf3, keep_frozen hG hFz4 hFf4, N9.froz]; omega)), by (first | omega | (simp [go_sem, keep_frozen hG hFz0 hFf0, keep_frozen hG hFz1 hFf1, keep_frozen hG hFz2 hFf2, keep_frozen hG hFz3 hFf3, keep_frozen hG hFz4 hFf4, N9.froz]; done) | (simp [go_sem, keep_frozen hG hFz0 hFf0, keep_frozen hG hFz1 hFf1, keep_frozen hG hFz2 hFf2, keep_frozen hG hFz3 hFf3, keep_frozen hG hFz4 hFf4, N9.froz]; omega)), by (first | omega | (simp [go_sem, keep_frozen hG hFz0 hFf0, keep_frozen hG hFz1 hFf1, keep_frozen hG hFz2 hFf2, keep_frozen hG hFz3 hFf3, keep_frozen hG hFz4 hFf4, N9.froz]; done) | (simp [go_sem, keep_frozen hG hFz0 hFf0, keep_frozen hG hFz1 hFf1, keep_frozen hG hFz2 hFf2, keep_frozen hG hFz3 hFf3, keep_frozen hG hFz4 hFf4, N9.froz]; omega)), Grn⟩ ?_
        rintro G ⟨hGc0, hGc1, hGc2, hGc3, hGc4, hGc5, hGf0, hGf1, hGf2, hGf3, hGf4, hGf5, hGz0, hGz1, hGz2, hGz3, hGz4, hGz5, hGb⟩
        clear hG hFc0 hFc1 hFc2 hFc3 hFc4 hFf0 hFf1 hFf2 hFf3 hFf4 hFz0 hFz1 hFz2 hFz3 hFz4 hFb N9 n9 f0 f1 f2 f3 f4 hsG
        go_cut [10, 9] (fun v5 v17 wx => ∃ B17 : Nat, v5 = .int .i64 0 ∧ v17 = .pointer (some ⟨B17, 0, none⟩) ∧ New G.heap.size B17 #[.bool false, .int .u64 ↑y', .int .u64 0, .int .u64 0, .int .u64 0] wx ∧ Below G.heap.size G wx)
        case first =>
          refine wp_world (fun x => (∀ o, x.cell? ⟨w.heap.size, o, none⟩ = (#[.bool (sa), .int .u64 ↑a, .int .u64 0, .int .u64 0, .int .u64 0, .bool false, .int .u64 ↑p, .int .u64 0, .int .u64 0, .int .u64 0] : Array Value)[o]?) ∧ (∀ o, x.cell? ⟨w.heap.size + 1, o, none⟩ = (#[.bool (sb), .int .u64 ↑b, .int .u64 0, .int .u64 0, .int .u64 0, .bool false, .int .u64 ↑q, .int .u64 0, .int .u64 0, .int .u64 0] : Array Value)[o]?) ∧ (∀ o, x.cell? ⟨B7, o, none⟩ = (#[.bool false, .int .u64 ↑g, .int .u64 0, .int .u64 0, .int .u64 0] : Array Value)[o]?) ∧ (∀ o, x.cell? ⟨B8, o, none⟩ = (#[.bool false, .int .u64 ↑h, .int .u64 0, .int .u64 0, .int .u64 0] : Array Value)[o]?) ∧ w.heap.size < x.heap.size ∧ w.heap.size + 1 < x.heap.size ∧ B7 < x.heap.size ∧ B8 < x.heap.size ∧ Below G.heap.size G x) ⟨fun o => by first | (simp [go_sem, hGc0, hGc1, hGc3, hGc4, hGz0, hGz1, hGz3, hGz4]; done) | (rcases o with _ | _ | _ | _ | _ | o <;> simp [go_sem, hGc0, hGc1, hGc3, hGc4, hGz0, hGz1, hGz3, hGz4]), fun o => by first | (simp [go_sem, hGc0, hGc1, hGc3, hGc4, hGz0, hGz1, hGz3, hGz4]; done) | (rcases o with _ | _ | _ | _ | _ | o <;> simp [go_sem, hGc0, hGc1, hGc3, hGc4, hGz0, hGz1, hGz3, hGz4]), fun o => by first | (simp [go_sem, hGc0, hGc1, hGc3, hGc4, hGz0, hGz1, hGz3, hGz4]; done) | (rcases o with _ | _ | _ | _ | _ | o <;> simp [go_sem, hGc0, hGc1, hGc3, hGc4, hGz0, hGz1, hGz3, hGz4]), fun o => by first | (simp [go_sem, hGc0, hGc1, hGc3, hGc4, hGz0, hGz1, hGz3, hGz4]; done) | (rcases o with _ | _ | _ | _ | _ | o <;> simp [go_sem, hGc0, hGc1, hGc3, hGc4, hGz0, hGz1, hGz3, hGz4]), by (first | omega | (simp [go_sem, hGc0, hGc1, hGc3, hGc4, hGz0, hGz1, hGz3, hGz4]; done) | (simp [go_sem, hGc0, hGc1, hGc3, hGc4, hGz0, hGz1, hGz3, hGz4]; omega)), by (first | omega | (simp [go_sem, hGc0, hGc1, hGc3, hGc4, hGz0, hGz1, hGz3, hGz4]; done) | (simp [go_sem, hGc0, hGc1, hGc3, hGc4, hGz0, hGz1, hGz3, hGz4]; omega)), by (first | omega | (simp [go_sem, hGc0, hGc1, hGc3, hGc4, hGz0, hGz1, hGz3, hGz4]; done) | (simp [go_sem, hGc0, hGc1, hGc3, hGc4, hGz0, hGz1, hGz3, hGz4]; omega)), by (first | omega | (simp [go_sem, hGc0, hGc1, hGc3, hGc4, hGz0, hGz1, hGz3, hGz4]; done) | (simp [go_sem, hGc0, hGc1, hGc3, hGc4, hGz0, hGz1, hGz3, hGz4]; omega)), Grn⟩ ?_
          rintro V ⟨hVc0, hVc1, hVc2, hVc3, hVz0, hVz1, hVz2, hVz3, hVb⟩
          have hVK := Lib.hid (show ∀ x : World, Kp V.heap.size [] V x → ((∀ o, x.cell? ⟨w.heap.size, o, none⟩ = (#[.bool (sa), .int .u64 ↑a, .int .u64 0, .int .u64 0, .int .u64 0, .bool false, .int .u64 ↑p, .int .u64 0, .int .u64 0, .int .u64 0] : Array Value)[o]?) ∧ (∀ o, x.cell? ⟨w.heap.size + 1, o, none⟩ = (#[.bool (sb), .int .u64 ↑b, .int .u64 0, .int .u64 0, .int .u64 0, .bool false, .int .u64 ↑q, .int .u64 0, .int .u64 0, .int .u64 0] : Array Value)[o]?) ∧ (∀ o, x.cell? ⟨B7, o, none⟩ = (#[.bool false, .int .u64 ↑g, .int .u64 0, .int .u64 0, .int .u64 0] : Array Value)[o]?) ∧ (∀ o, x.cell? ⟨B8, o, none⟩ = (#[.bool false, .int .u64 ↑h, .int .u64 0, .int .u64 0, .int .u64 0] : Array Value)[o]?) ∧ w.heap.size < x.heap.size ∧ w.heap.size + 1 < x.heap.size ∧ B7 < x.heap.size ∧ B8 < x.heap.size ∧ V.heap.size ≤ x.heap.size) from fun x k => ⟨fun o => (k.cell _ o hVz0 (by first | (simp; done) | (simp; omega))).trans (hVc0 o), fun o => (k.cell _ o hVz1 (by first | (simp; done) | (simp; omega))).trans (hVc1 o), fun o => (k.cell _ o hVz2 (by first | (simp; done) | (simp; omega))).trans (hVc2 o), fun o => (k.cell _ o hVz3 (by first | (simp; done) | (simp; omega))).trans (hVc3 o), Nat.lt_of_lt_of_le hVz0 k.size, Nat.lt_of_lt_of_le hVz1 k.size, Nat.lt_of_lt_of_le hVz2 k.size, Nat.lt_of_lt_of_le hVz3 k.size, k.size⟩)
          go_region_held3 (fun x => (∀ o, x.cell? ⟨w.heap.size, o, none⟩ = (#[.bool (sa), .int .u64 ↑a, .int .u64 0, .int .u64 0, .int .u64 0, .bool false, .int .u64 ↑p, .int .u64 0, .int .u64 0, .int .u64 0] : Array Value)[o]?) ∧ (∀ o, x.cell? ⟨w.heap.size + 1, o, none⟩ = (#[.bool (sb), .int .u64 ↑b, .int .u64 0, .int .u64 0, .int .u64 0, .bool false, .int .u64 ↑q, .int .u64 0, .int .u64 0, .int .u64 0] : Array Value)[o]?) ∧ (∀ o, x.cell? ⟨B7, o, none⟩ = (#[.bool false, .int .u64 ↑g, .int .u64 0, .int .u64 0, .int .u64 0] : Array Value)[o]?) ∧ (∀ o, x.cell? ⟨B8, o, none⟩ = (#[.bool false, .int .u64 ↑h, .int .u64 0, .int .u64 0, .int .u64 0] : Array Value)[o]?) ∧ w.heap.size < x.heap.size ∧ w.heap.size + 1 < x.heap.size ∧ B7 < x.heap.size ∧ B8 < x.heap.size ∧ V.heap.size ≤ x.heap.size) ((refine hVK.out _ ?_; exact Kpn)) ((first | (go_at_call 74; (with_reducible refine (O3.out _).mono ?_); rintro e V_1 ⟨rfl, hbV_1⟩; have hkV_1 : Kp V.heap.size [] V V_1 := Kpn; obtain ⟨hV_1k, hV_1g⟩ := bcell hbV_1; have hV_1r := hkV_1.size; have hV_1s := hbV_1.size; (try simp at hV_1s); have hV_1z : V.heap.size ≤ V_1.heap.size := (by (first | exact hV_1s | exact Nat.le_of_lt hV_1s | exact Nat.le_of_lt (Nat.lt_of_succ_lt hV_1s))); (try (have hV_1t00 : V.heap.size < V_1.heap.size := (by (first | exact hV_1s | exact Nat.lt_of_succ_lt hV_1s)))); (try (have hV_1t01 : V.heap.size + 1 < V_1.heap.size := (by exact hV_1s)))) | (go_at_call 74; (with_reducible refine (O4.out _).mono ?_); rintro e V_2 ⟨rfl, hbV_2⟩; have hkV_2 : Kp V.heap.size [] V V_2 := Kpn; obtain ⟨hV_2k, hV_2g⟩ := bcell hbV_2; have hV_2r := hkV_2.size; have hV_2s := hbV_2.size; (try simp at hV_2s); have hV_2z : V_1.heap.size ≤ V_2.heap.size := (by (first | exact hV_2s | exact Nat.le_of_lt hV_2s | exact Nat.le_of_lt (Nat.lt_of_succ_lt hV_2s))); (try (have hV_2t10 : V_1.heap.size < V_2.heap.size := (by (first | exact hV_2s | exact Nat.lt_of_succ_lt hV_2s)))); (try (have hV_2t11 : V_1.heap.size + 1 < V_2.heap.size := (by exact hV_2s))); (try (have hV_2t00 : V.heap.size < V_2.heap.size := Nat.lt_of_lt_of_le hV_1t00 hV_2z)); (try (have hV_2t01 : V.heap.size + 1 < V_2.heap.size := Nat.lt_of_lt_of_le hV_1t01 hV_2z))) | (go_at_call 73; (with_reducible refine (M2.out _).mono ?_); rintro e V_3 ⟨rfl, hbV_3⟩; have hkV_3 : Kp V.heap.size [] V V_3 := Kpn; obtain ⟨hV_3k, hV_3g⟩ := bcell hbV_3; have hV_3r := hkV_3.size; have hV_3s := hbV_3.size; (try simp at hV_3s); have hV_3z : V_2.heap.size ≤ V_3.heap.size := (by (first | exact hV_3s | exact Nat.le_of_lt hV_3s | exact Nat.le_of_lt (Nat.lt_of_succ_lt hV_3s))); (try (have hV_3t20 : V_2.heap.size < V_3.heap.size := (by (first | exact hV_3s | exact Nat.lt_of_succ_lt hV_3s)))); (try (have hV_3t21 : V_2.heap.size + 1 < V_3.heap.size := (by exact hV_3s))); (try (have hV_3t00 : V.heap.size < V_3.heap.size := Nat.lt_of_lt_of_le hV_2t00 hV_3z)); (try (have hV_3t01 : V.heap.size + 1 < V_3.heap.size := Nat.lt_of_lt_of_le hV_2t01 hV_3z)); (try (have hV_3t10 : V_1.heap.size < V_3.heap.size := Nat.lt_of_lt_of_le hV_2t10 hV_3z)); (try (have hV_3t11 : V_1.heap.size + 1 < V_3.heap.size := Nat.lt_of_lt_of_le hV_2t11 hV_3z)))))
          all_goals
            go_wp2
            go_meet
            case rel =>
                (repeat (rename_i hjunk; clear hjunk)); have hwsV := hVb.size; skip
                refine ⟨_, rfl, rfl, ?_⟩
                first
                  | ((with_reducible refine new_alloc ?_ ?_)
                     · (first | (with_reducible assumption) | omega | (simp; omega))
                     · exact Grn)
                  | ((with_reducible refine new5 ?_ ?_ ?_ ?_ ?_ ?_)
                     · (first | (with_reducible assumption) | omega | (simp; omega))
                     · exact Szn
                     · (repeat (first | (with_reducible assumption) | (with_reducible exact new_cells _ _ _) | (with_reducible exact new_cells2 _ _ _ _) | (with_reducible refine keep_drew ?_) | (with_reducible apply set8_at) | (with_reducible apply set5_at) | ((with_reducible refine new_cells_at ?_ _ _); (focus ((simp only [World.size_alloc, World.size_drew, World.size_setCell]; done)))) | ((with_reducible refine set8_far ?_ ?_); (focus ((first | (with_reducible refine Nat.ne_of_lt ?_; with_reducible assumption) | (with_reducible refine Nat.ne_of_gt ?_; with_reducible assumption) | (with_reducible exact Nat.ne_of_lt (Nat.lt_add_one _)) | (with_reducible exact Nat.ne_of_gt (Nat.lt_add_one _)) | omega)))) | ((with_reducible refine set5_far ?_ ?_); (focus ((first | (with_reducible refine Nat.ne_of_lt ?_; with_reducible assumption) | (with_reducible refine Nat.ne_of_gt ?_; with_reducible assumption) | (with_reducible exact Nat.ne_of_lt (Nat.lt_add_one _)) | (with_reducible exact Nat.ne_of_gt (Nat.lt_add_one _)) | omega)))) | ((with_reducible refine keep_cell_a ?_ ?_); (focus (exact Szn))) | ((with_reducible refine keep_cell hbV_3 ?_ ?_); (focus (exact Szn))) | ((with_reducible refine keep_cell hbV_2 ?_ ?_); (focus (exact Szn))) | ((with_reducible refine keep_cell hbV_1 ?_ ?_); (focus (exact Szn)))))
                     · (repeat (first | (with_reducible assumption) | (with_reducible exact new_frozen _ _ _) | (with_reducible exact new_frozen2 _ _ _ _) | (with_reducible refine keep_frozen_drew ?_) | (with_reducible refine keep_frozen_c ?_) | ((with_reducible refine new_frozen_at ?_ _ _); (focus ((simp only [World.size_alloc, World.size_drew, World.size_setCell]; done)))) | ((with_reducible refine keep_frozen_a ?_ ?_); (focus (exact Szn))) | ((with_reducible refine keep_frozen hbV_3 ?_ ?_); (focus (exact Szn))) | ((with_reducible refine keep_frozen hbV_2 ?_ ?_); (focus (exact Szn))) | ((with_reducible refine keep_frozen hbV_1 ?_ ?_); (focus (exact Szn)))))
                     · (first | (with_reducible assumption) | omega | (simp; omega))
                     · exact Grn)
        case rest =>
          obtain ⟨B17, rfl, rfl, N17, hU⟩ := hcut
          have c1 := keep_cell hU hGz2 hGc2
          have f1 := keep_frozen hU hGz2 hGf2
          have z1 := keep_lt hU hGz2
          have c4 := keep_cell hU hGz5 hGc5
          have z4 := keep_lt hU hGz5
          have c17 := N17.cell
          have z17 := N17.lt
          have hW := below_after hGb hU
          go_wp2_with ((with_reducible show bodyPost _ _ _ _ _ _); refine bodyPost_ret (by simp [results, Tryd.results56, go_sem, c1, f1, z1, c4, z4, c17, z17]; try rfl) rfl ?_; exact ⟨rfl, Grn⟩)
end Go.Proofs.YthikaimhmpenhaaDoor
