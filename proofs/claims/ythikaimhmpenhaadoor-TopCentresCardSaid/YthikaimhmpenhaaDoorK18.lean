/-
  What package ratio's Sub returns, of two fractions whose numerators are integers of one word.
  (Written by wip/pack.py out of XFSub.)
-/
import Derived.Test.YthikaimhmpenhaaDoorK17

namespace Go.Proofs.YthikaimhmpenhaaDoor
set_option linter.all false
open Go Go.RowKit Wd
set_option maxRecDepth 100000
set_option maxHeartbeats 4000000 in
theorem subI (sa sb : Bool) (a p b q : Nat) (ha : a < 18446744073709551616) (hb : b < 18446744073709551616) (hp : p < 4611686018427387904) (hq : q < 18446744073709551616) (hp0 : 0 < p) (hq0 : 0 < q) (hsa : sa = true → a ≠ 0) (hsb : sb = true → b ≠ 0) (ga : Nat.gcd a p = 1) (gb : Nat.gcd b q = 1)
    (ht : a * (q / Nat.gcd p q) + b * (p / Nat.gcd p q) < 18446744073709551616) (hx : (p / Nat.gcd p q) * q < 18446744073709551616) (z : Int) (hz : z = val sa a * (q : Int) - val sb b * (p : Int)) (w : World) (hT : Tab64 w) :
    Calls Tryd.prog 58 #[(.agg #[.bool (sa), .int .u64 ↑a, .int .u64 0, .int .u64 0, .int .u64 0, .bool false, .int .u64 ↑p, .int .u64 0, .int .u64 0, .int .u64 0]), (.agg #[.bool (sb), .int .u64 ↑b, .int .u64 0, .int .u64 0, .int .u64 0, .bool false, .int .u64 ↑q, .int .u64 0, .int .u64 0, .int .u64 0])] w fun e w' => e = .returned (.tuple #[(.agg #[.bool (zs z), .int .u64 (((qn z.natAbs (p * q)) : Nat) : Int), .int .u64 0, .int .u64 0, .int .u64 0, .bool false, .int .u64 (((qd z.natAbs (p * q)) : Nat) : Int), .int .u64 0, .int .u64 0, .int .u64 0]), .int .i64 0]) ∧ Below w.heap.size w w' := by
  have n1 := fun w hT => negativeI sb b q hb hq hq0 hsb gb w hT
  have hv : val (zs (val (!sb) b)) b = - val sb b := by
    have h := val_zs (val (!sb) b)
    rw [abs_val] at h
    rw [h]
    unfold val; cases sb <;> simp
  have hn : zs (val (!sb) b) = true → b ≠ 0 := fun h hc => by
    rw [hc, show val (!sb) 0 = 0 by unfold val; cases sb <;> rfl, zs_zero] at h; cases h
  have a1 := fun w hT => addI sa a p sa (zs (val (!sb) b)) a p b q (fun w hT => soundI sa a p ha (by omega) hp0 hsa ga w hT) ha hb hp hq hp0 hq0 hsa hn ga gb ht hx z (by rw [hv, hz, Int.neg_mul]; exact Int.sub_eq_add_neg) w hT
  generalize zs (val (!sb) b) = sc at *
  generalize qn z.natAbs (p * q) = rN at *
  generalize qd z.natAbs (p * q) = rD at *
  generalize zs z = rS at *
  have N1 := Lib.hid n1
  have A1 := Lib.hid a1
  have HT := Lib.hid hT
  clear n1 a1 hT ha hb hp hq hp0 hq0 hsa hsb ga gb ht hx hz hv hn
  go_enter Tryd.func58, Tryd.ntmps58
  go_upto_region 1 with (fail)
  refine wp_world (fun x => (∀ o, x.cell? ⟨w.heap.size, o, none⟩ = (#[.bool (sa), .int .u64 ↑a, .int .u64 0, .int .u64 0, .int .u64 0, .bool false, .int .u64 ↑p, .int .u64 0, .int .u64 0, .int .u64 0] : Array Value)[o]?) ∧ (∀ o, x.cell? ⟨w.heap.size + 1, o, none⟩ = (#[.bool (sb), .int .u64 ↑b, .int .u64 0, .int .u64 0, .int .u64 0, .bool false, .int .u64 ↑q, .int .u64 0, .int .u64 0, .int .u64 0] : Array Value)[o]?) ∧ (∀ o, x.cell? ⟨w.heap.size + 1 + 1, o, none⟩ = (#[.bool false, .int .u64 0, .int .u64 0, .int .u64 0, .int .u64 0, .bool false, .int .u64 0, .int .u64 0, .int .u64 0, .int .u64 0] : Array Value)[o]?) ∧ (∀ o, x.frozen? ⟨w.heap.size, o, none⟩ = false) ∧ (∀ o, x.frozen? ⟨w.heap.size + 1, o, none⟩ = false) ∧ (∀ o, x.frozen? ⟨w.heap.size + 1 + 1, o, none⟩ = false) ∧ w.heap.size < x.heap.size ∧ w.heap.size + 1 < x.heap.size ∧ w.heap.size + 1 + 1 < x.heap.size ∧ Below w.heap.size w x) (by (repeat' apply And.intro) <;> first | (intro o; simp [go_sem]; done) | ((repeat' first | (with_reducible first | exact Bq0 | assumption | refine Bq1 ?_ | refine Bq2 ?_ | refine Bq3 ?_ ?_ | refine Bq4 ?_ (by assumption)) | go_size); done) | omega | (simp [go_sem]; done) | (simp [go_sem]; omega)) ?_
  rintro A ⟨hAc0, hAc1, hAc2, hAf0, hAf1, hAf2, hAz0, hAz1, hAz2, hAb⟩
  have KA := fun (x : World) (hx : Below A.heap.size A x) => And.intro (keep_cell hx hAz0 hAc0) (keep_cell hx hAz1 hAc1)
  have TA := HT.out.later hAb
  have J2 := fun (x : World) (hx : Below A.heap.size A x) => And.intro (keep_cell hx hAz2 hAc2) (And.intro (keep_frozen hx hAz2 hAf2) (keep_lt hx hAz2))
  refine wp_region_linL (S := fun x => Below A.heap.size A x) (by kernel_rfl) (by kernel_rfl) ((Below.refl _ _).drew) ?_
  (first | (refine linL_take (i := 0) (v := undef) rfl (by kernel_rfl) (by kernel_rfl) (gives_no (by rfl)) ?_; (try simp only [Nq1, Nq2, Nq3, Act.put, Nq4, Nq5, Nq6])) | (refine linL_take (i := 0) (v := ?lv38) rfl (by kernel_rfl) (by kernel_rfl) (gives_val (by rfl) (fun x hx => ?lh38)) ?lr38; (case lh38 => ((have hk := KA x hx); clear hx; go_simp; (try with_reducible rfl))); (try simp only [Nq1, Nq2, Nq3, Act.put, Nq4, Nq5, Nq6])))
  (first | (refine linL_take (i := 1) (v := undef) rfl (by kernel_rfl) (by kernel_rfl) (gives_no (by rfl)) ?_; (try simp only [Nq1, Nq2, Nq3, Act.put, Nq4, Nq5, Nq6])) | (refine linL_take (i := 1) (v := ?lv39) rfl (by kernel_rfl) (by kernel_rfl) (gives_val (by rfl) (fun x hx => ?lh39)) ?lr39; (case lh39 => ((have hk := KA x hx); clear hx; go_simp; (try with_reducible rfl))); (try simp only [Nq1, Nq2, Nq3, Act.put, Nq4, Nq5, Nq6])))
  (first | (refine linL_take (i := 2) (v := undef) rfl (by kernel_rfl) (by kernel_rfl) (gives_no (by rfl)) ?_; (try simp only [Nq1, Nq2, Nq3, Act.put, Nq4, Nq5, Nq6])) | (refine linL_take (i := 2) rfl (by kernel_rfl) (by kernel_rfl) (gives_call (by rfl) (fun x hx => ?lh40) (lin_belowT TA N1.out)) ?lr40; (case lh40 => go_simp); (try simp only [Nq1, Nq2, Nq3, Act.put, Nq4, Nq5, Nq6])))
  (first | (refine linL_take (i := 3) (v := undef) rfl (by kernel_rfl) (by kernel_rfl) (gives_no (by rfl)) ?_; (try simp only [Nq1, Nq2, Nq3, Act.put, Nq4, Nq5, Nq6])) | (refine linL_take (i := 3) rfl (by kernel_rfl) (by kernel_rfl) (gives_call (by rfl) (fun x hx => ?lh41) (lin_belowT TA A1.out)) ?lr41; (case lh41 => go_simp); (try simp only [Nq1, Nq2, Nq3, Act.put, Nq4, Nq5, Nq6])))
  (first | (refine linL_take (i := 4) (v := undef) rfl (by kernel_rfl) (by kernel_rfl) (gives_no (by rfl)) ?_; (try simp only [Nq1, Nq2, Nq3, Act.put, Nq4, Nq5, Nq6])) | (refine linL_take (i := 4) (v := ?lv42) rfl (by kernel_rfl) (by kernel_rfl) (gives_val (by rfl) (fun x hx => ?lh42)) ?lr42; (case lh42 => ((have hk := KA x hx); clear hx; go_simp; (try with_reducible rfl))); (try simp only [Nq1, Nq2, Nq3, Act.put, Nq4, Nq5, Nq6])))
  (first | (refine linL_take (i := 5) (v := undef) rfl (by kernel_rfl) (by kernel_rfl) (gives_no (by rfl)) ?_; (try simp only [Nq1, Nq2, Nq3, Act.put, Nq4, Nq5, Nq6])) | (refine linL_take (i := 5) (v := ?lv43) rfl (by kernel_rfl) (by kernel_rfl) (gives_val (by rfl) (fun x hx => ?lh43)) ?lr43; (case lh43 => ((have hk := KA x hx); clear hx; go_simp; (try with_reducible rfl))); (try simp only [Nq1, Nq2, Nq3, Act.put, Nq4, Nq5, Nq6])))
  refine linL_leaf (by kernel_rfl) (fun Ax hAx => ?_)
  have hkAx := KA Ax hAx
  refine wpAny_ready (rs := [6]) (by decide +kernel) (by simp) (AllReady.cons rfl (fun KK hKK => ?_) AllReady.nil)
  go_simp
  (refine hKK _ _ ?_); clear hKK KK; (try simp only [Nq1, Nq2, Nq3, Act.put, Nq4, Nq5, Nq6])
  refine wpAny_ready (rs := [7]) (by decide +kernel) (by simp) (AllReady.cons rfl (fun KK hKK => ?_) AllReady.nil)
  go_simp
  (refine hKK _ _ ?_); clear hKK KK; (try simp only [Nq1, Nq2, Nq3, Act.put, Nq4, Nq5, Nq6])
  refine wpAny_done (by kernel_rfl) ?_ _
  obtain ⟨hBc2, hBf2, hBz2⟩ := J2 Ax hAx
  have hB := below_after hAb hAx
  clear J2 KA TA hkAx
  go_wp2_with ((with_reducible show bodyPost _ _ _ _ _ _); refine bodyPost_ret (by simp [results, Tryd.results58, go_sem, hBc2, hBf2, hBz2]; try rfl) rfl ?_; exact ⟨rfl, by (repeat' first | (with_reducible first | exact Bq0 | assumption | refine Bq1 ?_ | refine Bq2 ?_ | refine Bq3 ?_ ?_ | refine Bq4 ?_ (by assumption)) | go_size)⟩)
end Go.Proofs.YthikaimhmpenhaaDoor
