/-
  What the small functions of package ratio return, of fractions whose numerator is an integer of one word: gcd, over, Mul (of wide), sign, Valid, sound, negative.
  A region that draws its order and whose operations all yield the same values in every world that meets S, S holding behind each of them: one walk, in any order that its edges allow.
  A large region by wpLin: the frame that it begins with stands under a letter, what has been yielded as a chain behind it.
  Fractions of natural numbers in lowest terms; what the sum, the product and the difference of two come to. Plain.
  The sum of two fractions with integers above: its parts. Plain.
  (Written by wip/pack.py out of XFSgR, XFLin, XFLinB, XFAdM, XFAdI.)
-/
import Derived.Test.YthikaimhmpenhaaDoorK15
import Derived.Test.YthikaimhmpenhaaDoorK01
import Derived.WalkKit

namespace Go.Proofs.YthikaimhmpenhaaDoor
set_option linter.all false
open Go Go.RowKit Wd
set_option maxRecDepth 100000
theorem w_one (s : Bool) {a : Nat} (h : a < 18446744073709551616) : ((.agg #[.bool (s), .int .u64 (wd (a) 0), .int .u64 (wd (a) 1), .int .u64 (wd (a) 2), .int .u64 (wd (a) 3)]) : Value) = (.agg #[.bool (s), .int .u64 ↑a, .int .u64 0, .int .u64 0, .int .u64 0]) := by
  have e := wd_small h
  rw [e.1, e.2.1, e.2.2.1, e.2.2.2]
theorem z_one {z : Int} (h : z.natAbs < 18446744073709551616) : ((.agg #[.bool (zs (z)), .int .u64 (wd (Int.natAbs (z)) 0), .int .u64 (wd (Int.natAbs (z)) 1), .int .u64 (wd (Int.natAbs (z)) 2), .int .u64 (wd (Int.natAbs (z)) 3)]) : Value) = (.agg #[.bool (zs z), .int .u64 (((z.natAbs) : Nat) : Int), .int .u64 0, .int .u64 0, .int .u64 0]) := w_one (zs z) h
theorem gcdI (s : Bool) (a b : Nat) (ha : a < 18446744073709551616) (hb : b < 18446744073709551616) (hb0 : 0 < b) (w : World) (hT : Tab64 w) :
    Calls Tryd.prog 72 #[(.agg #[.bool (s), .int .u64 ↑a, .int .u64 0, .int .u64 0, .int .u64 0]), (.agg #[.bool false, .int .u64 ↑b, .int .u64 0, .int .u64 0, .int .u64 0])] w fun e w' => e = .returned (.agg #[.bool false, .int .u64 (((Nat.gcd a b) : Nat) : Int), .int .u64 0, .int .u64 0, .int .u64 0]) ∧ Below w.heap.size w w' := by
  have h := gcd_any s false a b (small256 ha) (small256 hb) w hT
  have hg : Nat.gcd a b < 18446744073709551616 := Nat.lt_of_le_of_lt (Nat.le_of_dvd hb0 (Nat.gcd_dvd_right a b)) hb
  rwa [val_nat, w_one s ha, w_small hb, z_small hg] at h
theorem val_div {s : Bool} {a b : Nat} (hb : 0 < b) (h : b ∣ a) : val s a / (b : Int) = val s (a / b) := by
  obtain ⟨c, rfl⟩ := h
  rw [Nat.mul_div_cancel_left _ hb]
  unfold val
  cases s
  · simp only [Bool.false_eq_true, if_false]
    rw [Int.natCast_mul]; exact Int.mul_ediv_cancel_left _ (by omega)
  · simp only [if_true]
    rw [Int.natCast_mul, ← Int.mul_neg]; exact Int.mul_ediv_cancel_left _ (by omega)
theorem overI (s : Bool) (a b : Nat) (ha : a < 18446744073709551616) (hb : b < 18446744073709551616) (hb0 : 0 < b) (hd : b ∣ a) (hs : s = true → a ≠ 0) (w : World) :
    Calls Tryd.prog 74 #[(.agg #[.bool (s), .int .u64 ↑a, .int .u64 0, .int .u64 0, .int .u64 0]), (.agg #[.bool false, .int .u64 ↑b, .int .u64 0, .int .u64 0, .int .u64 0])] w fun e w' => e = .returned (.agg #[.bool (s), .int .u64 (((a / b) : Nat) : Int), .int .u64 0, .int .u64 0, .int .u64 0]) ∧ Below w.heap.size w w' := by
  have h := over_any s false a b (small256 ha) (small256 hb) (fun _ => Nat.mod_eq_zero_of_dvd hd) w
  have hv : zs (val s (a / b)) = s := zs_valid fun e => by
    have := hs e
    obtain ⟨c, rfl⟩ := hd
    rw [Nat.mul_div_cancel_left _ hb0]
    intro hc; subst hc; omega
  rw [val_nat, divQ_pos (by omega), val_div hb0 hd, w_one s ha, w_small hb, z_one (by rw [abs_val]; exact Nat.lt_of_le_of_lt (Nat.div_le_self a b) ha), hv, abs_val] at h
  exact h
theorem wmulI (s t : Bool) (a b : Nat) (ha : a < 18446744073709551616) (hb : b < 18446744073709551616) (hab : a * b < 18446744073709551616) (w : World) :
    Calls Tryd.prog 73 #[(.agg #[.bool (s), .int .u64 ↑a, .int .u64 0, .int .u64 0, .int .u64 0]), (.agg #[.bool (t), .int .u64 ↑b, .int .u64 0, .int .u64 0, .int .u64 0])] w fun e w' => e = .returned (.tuple #[(.agg #[.bool (zs (val s a * val t b)), .int .u64 (((a * b) : Nat) : Int), .int .u64 0, .int .u64 0, .int .u64 0]), .int .i64 0]) ∧ Below w.heap.size w w' := by
  have h := mul_any s t a b (small256 ha) (small256 hb) w
  have hn : (val s a * val t b).natAbs = a * b := by rw [val_mul, abs_val]
  have hn2 : (val s a * val t b).natAbs < 2 ^ 256 := by rw [hn]; exact small256 hab
  rw [fitZ_in hn2, fitE_in hn2, w_one s ha, w_one t hb, z_one (by rw [hn]; exact hab), hn] at h
  exact h
theorem signI (s : Bool) (a : Nat) (ha : a < 18446744073709551616) (w : World) :
    Calls Tryd.prog 70 #[(.agg #[.bool (s), .int .u64 ↑a, .int .u64 0, .int .u64 0, .int .u64 0])] w fun e w' => e = .returned (.int .i64 (if a = 0 then 0 else if s then -1 else 1)) ∧ Below w.heap.size w w' := by
  have h := sign_any s a (small256 ha) w
  rw [w_one s ha] at h
  have e : cmpZ (val s a) 0 = if a = 0 then 0 else if s then -1 else 1 := by
    unfold cmpZ val
    by_cases h0 : a = 0
    · subst h0; cases s <;> rfl
    · rw [if_neg h0]
      cases s
      · simp only [Bool.false_eq_true, if_false]; rw [if_neg (by omega), if_pos (by omega)]
      · simp only [if_true]; rw [if_pos (by omega)]
  rwa [e] at h
theorem validI (s : Bool) (a : Nat) (ha : a < 18446744073709551616) (hs : s = true → a ≠ 0) (w : World) :
    Calls Tryd.prog 82 #[(.agg #[.bool (s), .int .u64 ↑a, .int .u64 0, .int .u64 0, .int .u64 0])] w fun e w' => e = .returned (.bool true) ∧ Below w.heap.size w w' := by
  have h := valid_any s a (small256 ha) w
  have e : (!(s && eqN a 0)) = true := by
    cases s
    · rfl
    · unfold eqN; simp [hs rfl]
  rwa [w_one s ha, e] at h
theorem negI (s : Bool) (a : Nat) (ha : a < 18446744073709551616) (w : World) :
    Calls Tryd.prog 83 #[(.agg #[.bool (s), .int .u64 ↑a, .int .u64 0, .int .u64 0, .int .u64 0])] w fun e w' => e = .returned (.agg #[.bool (zs (val (!s) a)), .int .u64 ↑a, .int .u64 0, .int .u64 0, .int .u64 0]) ∧ Below w.heap.size w w' := by
  have h := neg_any s a (small256 ha) w
  rwa [w_one s ha, z_one (by rw [abs_val]; exact ha), abs_val] at h
set_option maxHeartbeats 1000000 in
theorem rvalidI (s : Bool) (n d : Nat) (hn : n < 18446744073709551616) (hd : d < 18446744073709551616) (h0 : 0 < d) (hs : s = true → n ≠ 0) (hg : Nat.gcd n d = 1) (w : World) (hT : Tab64 w) :
    Calls Tryd.prog 85 #[(.agg #[.bool (s), .int .u64 ↑n, .int .u64 0, .int .u64 0, .int .u64 0, .bool false, .int .u64 ↑d, .int .u64 0, .int .u64 0, .int .u64 0])] w fun e w' => e = .returned (.bool true) ∧ Below w.heap.size w w' := by
  have V1 := Lib.hid (fun w => validI s n hn hs w)
  have V2 := Lib.hid (fun w => validS d hd w)
  have S1 := fun w => signS d hd w
  have G1 := fun w hT => gcdI s n d hn hd h0 w hT
  rw [if_neg (by omega)] at S1
  rw [hg] at G1
  have S1' := Lib.hid S1
  have G1' := Lib.hid G1
  have HT := Lib.hid hT
  clear S1 G1 hT hn hd h0 hg hs
  go_enter Tryd.func85, Tryd.ntmps85
  go_wp2_with fail
  ((with_reducible refine (V1.out _).mono ?_); rintro e w1 ⟨rfl, hb1⟩)
  obtain ⟨hc1, hf1⟩ := bcell hb1
  have hz1_w_0 : w.heap.size < w1.heap.size := by have h := hb1.size; (try simp at h); omega
  go_wp2_with fail
  ((with_reducible refine (V2.out _).mono ?_); rintro e w2 ⟨rfl, hb2⟩)
  obtain ⟨hc2, hf2⟩ := bcell hb2
  have hz2_w_0 : w.heap.size < w2.heap.size := by have h := hb2.size; (try simp at h); omega
  go_wp2_with fail
  ((with_reducible refine (S1'.out _).mono ?_); rintro e w3 ⟨rfl, hb3⟩)
  obtain ⟨hc3, hf3⟩ := bcell hb3
  have hz3_w_0 : w.heap.size < w3.heap.size := by have h := hb3.size; (try simp at h); omega
  go_wp2_with fail
  ((with_reducible refine (G1'.out _ (HT.out.later (by (repeat' first | (with_reducible first | exact Bq0 | assumption | refine Bq1 ?_ | refine Bq2 ?_ | refine Bq3 ?_ ?_ | refine Bq4 ?_ (by assumption)) | go_size)))).mono ?_); rintro e w4 ⟨rfl, hb4⟩)
  obtain ⟨hc4, hf4⟩ := bcell hb4
  have hz4_w_0 : w.heap.size < w4.heap.size := by have h := hb4.size; (try simp at h); omega
  go_wp2_with fail
  ((with_reducible refine (oneS _).mono ?_); rintro e w5 ⟨rfl, hb5⟩)
  obtain ⟨hc5, hf5⟩ := bcell hb5
  have hz5_w_0 : w.heap.size < w5.heap.size := by have h := hb5.size; (try simp at h); omega
  go_wp2_with fail
  ((with_reducible refine (cmp11 _).mono ?_); rintro e w6 ⟨rfl, hb6⟩)
  obtain ⟨hc6, hf6⟩ := bcell hb6
  have hz6_w_0 : w.heap.size < w6.heap.size := by have h := hb6.size; (try simp at h); omega
  go_wp2_with ((with_reducible show bodyPost _ _ _ _ _ _); refine bodyPost_ret (by simp [results, Tryd.results85, go_sem, ]; try rfl) rfl ?_; exact ⟨rfl, by (repeat' first | (with_reducible first | exact Bq0 | assumption | refine Bq1 ?_ | refine Bq2 ?_ | refine Bq3 ?_ ?_ | refine Bq4 ?_ (by assumption)) | go_size)⟩)
set_option maxHeartbeats 1000000 in
theorem soundI (s : Bool) (n d : Nat) (hn : n < 18446744073709551616) (hd : d < 18446744073709551616) (h0 : 0 < d) (hs : s = true → n ≠ 0) (hg : Nat.gcd n d = 1) (w : World) (hT : Tab64 w) :
    Calls Tryd.prog 69 #[(.agg #[.bool (s), .int .u64 ↑n, .int .u64 0, .int .u64 0, .int .u64 0, .bool false, .int .u64 ↑d, .int .u64 0, .int .u64 0, .int .u64 0])] w fun e w' => e = .returned (.agg #[.bool (s), .int .u64 ↑n, .int .u64 0, .int .u64 0, .int .u64 0, .bool false, .int .u64 ↑d, .int .u64 0, .int .u64 0, .int .u64 0]) ∧ Below w.heap.size w w' := by
  have V1 := Lib.hid (fun w hT => rvalidI s n d hn hd h0 hs hg w hT)
  have HT := Lib.hid hT
  clear hT hn hd h0 hg hs
  go_enter Tryd.func69, Tryd.ntmps69
  go_wp2_with fail
  ((with_reducible refine (V1.out _ (HT.out.later (by (repeat' first | (with_reducible first | exact Bq0 | assumption | refine Bq1 ?_ | refine Bq2 ?_ | refine Bq3 ?_ ?_ | refine Bq4 ?_ (by assumption)) | go_size)))).mono ?_); rintro e w1 ⟨rfl, hb1⟩)
  obtain ⟨hc1, hf1⟩ := bcell hb1
  have hz1_w_0 : w.heap.size < w1.heap.size := by have h := hb1.size; (try simp at h); omega
  have hz1_w_1 : w.heap.size + 1 < w1.heap.size := by have h := hb1.size; (try simp at h); omega
  go_wp2_with ((with_reducible show bodyPost _ _ _ _ _ _); refine bodyPost_ret (by simp [results, Tryd.results69, go_sem, hc1, hf1, hz1_w_0, hz1_w_1]; try rfl) rfl ?_; exact ⟨rfl, by (repeat' first | (with_reducible first | exact Bq0 | assumption | refine Bq1 ?_ | refine Bq2 ?_ | refine Bq3 ?_ ?_ | refine Bq4 ?_ (by assumption)) | go_size)⟩)
set_option maxHeartbeats 1000000 in
theorem rvalid0 (w : World) :
    Calls Tryd.prog 85 #[(.agg #[.bool (false), .int .u64 (((0) : Nat) : Int), .int .u64 0, .int .u64 0, .int .u64 0, .bool false, .int .u64 (((0) : Nat) : Int), .int .u64 0, .int .u64 0, .int .u64 0])] w fun e w' => e = .returned (.bool false) ∧ Below w.heap.size w w' := by
  have V1 := Lib.hid (fun w => validS 0 (by omega) w)
  have S1 := Lib.hid (fun w => signS 0 (by omega) w)
  simp only [Int.natCast_zero, Int.cast_ofNat_Int, if_pos] at *
  go_enter Tryd.func85, Tryd.ntmps85
  go_wp2_with fail
  ((with_reducible refine (V1.out _).mono ?_); rintro e w1 ⟨rfl, hb1⟩)
  obtain ⟨hc1, hf1⟩ := bcell hb1
  have hz1_w_0 : w.heap.size < w1.heap.size := by have h := hb1.size; (try simp at h); omega
  go_wp2_with fail
  ((with_reducible refine (V1.out _).mono ?_); rintro e w2 ⟨rfl, hb2⟩)
  obtain ⟨hc2, hf2⟩ := bcell hb2
  have hz2_w_0 : w.heap.size < w2.heap.size := by have h := hb2.size; (try simp at h); omega
  go_wp2_with fail
  ((with_reducible refine (S1.out _).mono ?_); rintro e w3 ⟨rfl, hb3⟩)
  obtain ⟨hc3, hf3⟩ := bcell hb3
  have hz3_w_0 : w.heap.size < w3.heap.size := by have h := hb3.size; (try simp at h); omega
  go_wp2_with ((with_reducible show bodyPost _ _ _ _ _ _); refine bodyPost_ret (by simp [results, Tryd.results85, go_sem, ]; try rfl) rfl ?_; exact ⟨rfl, by (repeat' first | (with_reducible first | exact Bq0 | assumption | refine Bq1 ?_ | refine Bq2 ?_ | refine Bq3 ?_ ?_ | refine Bq4 ?_ (by assumption)) | go_size)⟩)
set_option maxHeartbeats 1000000 in
theorem sound0 (w : World) :
    Calls Tryd.prog 69 #[(.agg #[.bool (false), .int .u64 (((0) : Nat) : Int), .int .u64 0, .int .u64 0, .int .u64 0, .bool false, .int .u64 (((0) : Nat) : Int), .int .u64 0, .int .u64 0, .int .u64 0])] w fun e w' => e = .returned (.agg #[.bool (false), .int .u64 (((0) : Nat) : Int), .int .u64 0, .int .u64 0, .int .u64 0, .bool false, .int .u64 (((1) : Nat) : Int), .int .u64 0, .int .u64 0, .int .u64 0]) ∧ Below w.heap.size w w' := by
  have V1 := Lib.hid (fun w => rvalid0 w)
  simp only [Int.natCast_zero, Int.natCast_one, Int.cast_ofNat_Int] at *
  go_enter Tryd.func69, Tryd.ntmps69
  go_wp2_with fail
  ((with_reducible refine (V1.out _).mono ?_); rintro e w1 ⟨rfl, hb1⟩)
  obtain ⟨hc1, hf1⟩ := bcell hb1
  have hz1_w_0 : w.heap.size < w1.heap.size := by have h := hb1.size; (try simp at h); omega
  have hz1_w_1 : w.heap.size + 1 < w1.heap.size := by have h := hb1.size; (try simp at h); omega
  go_wp2_with fail
  ((with_reducible refine (oneS _).mono ?_); rintro e w2 ⟨rfl, hb2⟩)
  obtain ⟨hc2, hf2⟩ := bcell hb2
  have hz2_w_0 : w.heap.size < w2.heap.size := by have h := hb2.size; (try simp at h); omega
  have hz2_w_1 : w.heap.size + 1 < w2.heap.size := by have h := hb2.size; (try simp at h); omega
  go_wp2_with ((with_reducible show bodyPost _ _ _ _ _ _); refine bodyPost_ret (by simp [results, Tryd.results69, go_sem, hc1, hf1, hz1_w_0, hz1_w_1, hc2, hf2, hz2_w_0, hz2_w_1]; try rfl) rfl ?_; exact ⟨rfl, by (repeat' first | (with_reducible first | exact Bq0 | assumption | refine Bq1 ?_ | refine Bq2 ?_ | refine Bq3 ?_ ?_ | refine Bq4 ?_ (by assumption)) | go_size)⟩)
set_option maxHeartbeats 1000000 in
theorem negativeI (s : Bool) (n d : Nat) (hn : n < 18446744073709551616) (hd : d < 18446744073709551616) (h0 : 0 < d) (hs : s = true → n ≠ 0) (hg : Nat.gcd n d = 1) (w : World) (hT : Tab64 w) :
    Calls Tryd.prog 80 #[(.agg #[.bool (s), .int .u64 ↑n, .int .u64 0, .int .u64 0, .int .u64 0, .bool false, .int .u64 ↑d, .int .u64 0, .int .u64 0, .int .u64 0])] w fun e w' => e = .returned (.agg #[.bool (zs (val (!s) n)), .int .u64 ↑n, .int .u64 0, .int .u64 0, .int .u64 0, .bool false, .int .u64 ↑d, .int .u64 0, .int .u64 0, .int .u64 0]) ∧ Below w.heap.size w w' := by
  have S1 := Lib.hid (fun w hT => soundI s n d hn hd h0 hs hg w hT)
  have N1 := Lib.hid (fun w => negI s n hn w)
  have HT := Lib.hid hT
  generalize zs (val (!s) n) = r at *
  clear hT hn hd h0 hg hs
  go_enter Tryd.func80, Tryd.ntmps80
  go_wp2_with fail
  ((with_reducible refine (S1.out _ (HT.out.later (by (repeat' first | (with_reducible first | exact Bq0 | assumption | refine Bq1 ?_ | refine Bq2 ?_ | refine Bq3 ?_ ?_ | refine Bq4 ?_ (by assumption)) | go_size)))).mono ?_); rintro e w1 ⟨rfl, hb1⟩)
  obtain ⟨hc1, hf1⟩ := bcell hb1
  have hz1_w_0 : w.heap.size < w1.heap.size := by have h := hb1.size; (try simp at h); omega
  have hz1_w_1 : w.heap.size + 1 < w1.heap.size := by have h := hb1.size; (try simp at h); omega
  have d0 : ∀ o, w1.cell? ⟨w.heap.size, o, none⟩ = (#[.bool (s), .int .u64 ↑n, .int .u64 0, .int .u64 0, .int .u64 0, .bool false, .int .u64 ↑d, .int .u64 0, .int .u64 0, .int .u64 0] : Array Value)[o]? := fun o => by rw [hc1 _ _ (by simp; omega)]; simp [go_sem]
  have d1 : ∀ o, w1.cell? ⟨w.heap.size + 1, o, none⟩ = (#[.bool (false), .int .u64 (((0) : Nat) : Int), .int .u64 0, .int .u64 0, .int .u64 0, .bool false, .int .u64 (((0) : Nat) : Int), .int .u64 0, .int .u64 0, .int .u64 0] : Array Value)[o]? := fun o => by rw [hc1 _ _ (by simp)]; simp [go_sem]
  go_upto_region 2 with (fail)
  refine wp_world (fun x => (∀ o, x.cell? ⟨w.heap.size, o, none⟩ = (#[.bool (s), .int .u64 ↑n, .int .u64 0, .int .u64 0, .int .u64 0, .bool false, .int .u64 ↑d, .int .u64 0, .int .u64 0, .int .u64 0] : Array Value)[o]?) ∧ (∀ o, x.cell? ⟨w.heap.size + 1, o, none⟩ = (#[.bool (false), .int .u64 (((0) : Nat) : Int), .int .u64 0, .int .u64 0, .int .u64 0, .bool false, .int .u64 (((0) : Nat) : Int), .int .u64 0, .int .u64 0, .int .u64 0] : Array Value)[o]?) ∧ (∀ o, x.frozen? ⟨w.heap.size, o, none⟩ = false) ∧ (∀ o, x.frozen? ⟨w.heap.size + 1, o, none⟩ = false) ∧ w.heap.size < x.heap.size ∧ w.heap.size + 1 < x.heap.size ∧ Below w.heap.size w x) ⟨set10_at d0, set10_far (by omega) d1, fun o => by simp [go_sem, hc1, hf1, hz1_w_0, hz1_w_1], fun o => by simp [go_sem, hc1, hf1, hz1_w_0, hz1_w_1], by (first | omega | (simp [go_sem, hc1, hf1, hz1_w_0, hz1_w_1]; done) | (simp [go_sem, hc1, hf1, hz1_w_0, hz1_w_1]; omega)), by (first | omega | (simp [go_sem, hc1, hf1, hz1_w_0, hz1_w_1]; done) | (simp [go_sem, hc1, hf1, hz1_w_0, hz1_w_1]; omega)), by (repeat' first | (with_reducible first | exact Bq0 | assumption | refine Bq1 ?_ | refine Bq2 ?_ | refine Bq3 ?_ ?_ | refine Bq4 ?_ (by assumption)) | go_size)⟩ ?_
  rintro A ⟨hAc0, hAc1, hAf0, hAf1, hAz0, hAz1, hAb⟩
  clear hb1 hc1 hf1
  go_wp2_with fail
  ((with_reducible refine (N1.out _).mono ?_); rintro e w2 ⟨rfl, hb2⟩)
  have hk2 : Kp A.heap.size [] A w2 := (by (repeat first | (with_reducible first | assumption | exact Kq0 | refine Kq1 ?_ | refine Kq2 ?_) | ((with_reducible refine Kq3 ?_ ?_); focus first | (left; go_size; done) | (right; simp; done)) | (with_reducible apply Kp.later; assumption)))
  have h2c0 := fun o => (hk2.cell _ o hAz0 (by simp)).trans (hAc0 o)
  have h2f0 := fun o => (hk2.froz _ o hAz0).trans (hAf0 o)
  have h2z0 := Nat.lt_of_lt_of_le hAz0 hk2.size
  have h2c1 := fun o => (hk2.cell _ o hAz1 (by simp)).trans (hAc1 o)
  have h2f1 := fun o => (hk2.froz _ o hAz1).trans (hAf1 o)
  have h2z1 := Nat.lt_of_lt_of_le hAz1 hk2.size
  go_wp2_with ((with_reducible show bodyPost _ _ _ _ _ _); refine bodyPost_ret (by simp [results, Tryd.results80, go_sem, h2c0, h2f0, h2z0, h2c1, h2f1, h2z1]; try rfl) rfl ?_; exact ⟨rfl, by (repeat' first | (with_reducible first | exact Bq0 | assumption | refine Bq1 ?_ | refine Bq2 ?_ | refine Bq3 ?_ ?_ | refine Bq4 ?_ (by assumption)) | go_size)⟩)
end Go.Proofs.YthikaimhmpenhaaDoor
namespace Go.Proofs.YthikaimhmpenhaaDoor
set_option linter.all false
open Go Go.RowKit Wd
set_option maxRecDepth 100000
section
variable {P : Program} {ops : Array Oper} {Q : Exit → Act → World → Prop} {md : Region.Mode} {S : World → Prop}
def Gives (P : Program) (ops : Array Oper) (S : World → Prop) (o : Oper) (v : Value) (a : Act) : Prop :=
  (Region.wanted o (yielded ops a.tmps) = true ∧ ∀ w, S w → (execOp a.eval o).run P w = .ok (.value v) w) ∨
  (Region.wanted o (yielded ops a.tmps) = true ∧ ∃ f args, (∀ w, S w → (execOp a.eval o).run P w = .ok (.enter f args) w) ∧ ∀ w, S w → Calls P f args w fun e w' => e = .returned v ∧ S w') ∨
  (Region.wanted o (yielded ops a.tmps) = false ∧ v = undef)
theorem Gives.of_same {o : Oper} {v : Value} {a a' : Act} (h : Gives P ops S o v a) (he : execOp a'.eval o = execOp a.eval o)
    (hw : Region.wanted o (yielded ops a'.tmps) = Region.wanted o (yielded ops a.tmps)) : Gives P ops S o v a' := by
  unfold Gives at *
  rw [he, hw]
  exact h
theorem Gives.wpOp {i : Nat} {o : Oper} {v : Value} {a : Act} (hi : ops[i]? = some o) (hy : Gives P ops S o v a)
    {K : Act → World → Prop} {w : World} (hS : S w) (h : ∀ w', S w' → K (a.put o.dst v) w') : wpOp P ops Q i K a w := by
  unfold Go.wpOp
  simp only [hi]
  rcases hy with ⟨hw, hv⟩ | ⟨hw, f, args, hrun, hc⟩ | ⟨hw, rfl⟩
  · simp only [hw, if_true, Oper.wp, hv w hS, Oper.upon]; exact .inl (h w hS)
  · simp only [hw, if_true, Oper.wp, hrun w hS, Oper.upon]
    refine .inl ((hc w hS).mono fun e w' he => ?_)
    obtain ⟨rfl, hS'⟩ := he
    exact h w' hS'
  · simp only [hw, Bool.false_eq_true, if_false]; exact h w hS
theorem gives_val {o : Oper} {v : Value} {a : Act} (hw : Region.wanted o (yielded ops a.tmps) = true) (h : ∀ w, S w → (execOp a.eval o).run P w = .ok (.value v) w) : Gives P ops S o v a := Or.inl ⟨hw, h⟩
theorem gives_call {o : Oper} {v : Value} {a : Act} {f : FuncId} {args : Array Value} (hw : Region.wanted o (yielded ops a.tmps) = true) (hrun : ∀ w, S w → (execOp a.eval o).run P w = .ok (.enter f args) w)
    (hc : ∀ w, S w → Calls P f args w fun e w' => e = .returned v ∧ S w') : Gives P ops S o v a := Or.inr (Or.inl ⟨hw, f, args, hrun, hc⟩)
end
theorem below_in {b0 : Nat} {a W x : World} (h : Below b0 a W) (hs : b0 ≤ W.heap.size) (hb : Below W.heap.size W x) : Below b0 a x := h.trans (hb.mono hs)
end Go.Proofs.YthikaimhmpenhaaDoor
namespace Go.Proofs.YthikaimhmpenhaaDoor
set_option linter.all false
open Go Go.RowKit Wd
set_option maxRecDepth 100000
section
variable {P : Program} {ops : Array Oper} {Q : Exit → Act → World → Prop} {md : Region.Mode} {S : World → Prop}
end
section
variable {P : Program} {ops : Array Oper} {Q : Exit → Act → World → Prop} {md : Region.Mode} {S : World → Prop}
def deps (md : Region.Mode) (ops : Array Oper) (k : Nat) : List Nat := match ops[k]? with
  | none => []
  | some o => (o.after.toList.filter (Region.binds md)).map (·.on)
def ances (md : Region.Mode) (ops : Array Oper) (k : Nat) : List Nat :=
  (List.range ops.size).reverse.foldl (fun s j => if s.contains j then deps md ops j ++ s else s) (deps md ops k)
def Down (md : Region.Mode) (ops : Array Oper) (listed : Array Bool) : Prop := ∀ j, listed.getD j false = true → ∀ x ∈ deps md ops j, listed.getD x false = true
theorem ances_listed {listed : Array Bool} {k : Nat} (hd : Down md ops listed) (hk : ∀ x ∈ deps md ops k, listed.getD x false = true) : ∀ x ∈ ances md ops k, listed.getD x false = true := by
  unfold ances
  generalize (List.range ops.size).reverse = l
  generalize deps md ops k = s at *
  induction l generalizing s with
  | nil => exact hk
  | cons j l ih =>
    rw [List.foldl_cons]
    apply ih
    intro x hx
    split at hx
    · rename_i hc
      rcases List.mem_append.1 hx with h | h
      · exact hd j (hk j (by simpa using hc)) x h
      · exact hk x h
    · exact hk x hx
theorem mem_deps {k x : Nat} {o : Oper} (ho : ops[k]? = some o) (hx : x ∈ deps md ops k) : ∃ e ∈ o.after, Region.binds md e = true ∧ e.on = x := by
  unfold deps at hx
  rw [ho] at hx
  obtain ⟨e, he, rfl⟩ := List.mem_map.1 hx
  obtain ⟨h1, h2⟩ := List.mem_filter.1 he
  exact ⟨e, by simpa using h1, h2, rfl⟩
theorem ready_deps {listed : Array Bool} {k : Nat} (hk : k ∈ Region.ready md ops listed) : ∀ x ∈ deps md ops k, listed.getD x false = true := by
  obtain ⟨-, o, ho, hall⟩ := mem_ready.1 hk
  intro x hx
  obtain ⟨e, he, hb, rfl⟩ := mem_deps ho hx
  exact hall e he hb
theorem Down.set {listed : Array Bool} {i : Nat} (hd : Down md ops listed) (hi : i ∈ Region.ready md ops listed) : Down md ops (listed.setIfInBounds i true) := by
  have hm : ∀ x, listed.getD x false = true → (listed.setIfInBounds i true).getD x false = true := fun x hx => by
    by_cases hix : i = x
    · subst hix
      rcases Nat.lt_or_ge i listed.size with h' | h'
      · simp [h']
      · simp [Array.getElem?_eq_none h'] at hx
    · rw [getD_set_ne false hix]; exact hx
  intro j hj x hx
  apply hm
  by_cases hij : i = j
  · subst hij; exact ready_deps hi x hx
  · rw [getD_set_ne false hij] at hj; exact hd j hj x hx
theorem Down.start (n : Nat) : Down md ops (Array.replicate n false) := fun j hj => by
  exfalso
  rcases Nat.lt_or_ge j n with h | h
  · simp [h] at hj
  · simp [Array.getElem?_eq_none, h] at hj
def leafOk (md : Region.Mode) (ops : Array Oper) (listed : Array Bool) : Bool :=
  (Region.ready md ops listed).all fun k => (fun s : List Nat => (List.range ops.size).all fun i => !listed.getD i false || s.contains i) (ances md ops k)
def wpLinL (P : Program) (md : Region.Mode) (ops : Array Oper) (Q : Exit → Act → World → Prop) (S : World → Prop) : Nat → Array Bool → Act → Prop
  | 0, listed, a => leafOk md ops listed = true ∧ ∀ w, S w → wpAny P md ops Q 0 listed a w
  | fuel + 1, listed, a =>
    (leafOk md ops listed = true ∧ ∀ w, S w → wpAny P md ops Q (fuel + 1) listed a w) ∨
    ∃ i oi v, ops[i]? = some oi ∧ (∀ j oj, ops[j]? = some oj → j ≠ i → listed.getD j true = false → (∀ e ∈ oj.after, Region.binds md e = true → e.on ≠ i) → oi.apart ops oj = true) ∧
      i ∈ Region.ready md ops listed ∧ Gives P ops S oi v a ∧ wpLinL P md ops Q S fuel (listed.setIfInBounds i true) (a.put oi.dst v)
theorem leaf_bound {listed : Array Bool} {i k : Nat} (h : leafOk md ops listed = true) (hk : k ∈ Region.ready md ops listed) (hi : listed.getD i false = true) (his : i < ops.size) : i ∈ ances md ops k := by
  unfold leafOk at h
  have h1 := List.all_eq_true.1 h k hk
  have h2 := List.all_eq_true.1 h1 i (List.mem_range.2 his)
  rw [hi] at h2
  simpa using h2
theorem leaf_not {listed : Array Bool} {i j : Nat} (hd : Down md ops listed) (hl : leafOk md ops (listed.setIfInBounds i true) = true) (hi : i ∈ Region.ready md ops listed) (hj : j ∈ Region.ready md ops listed) (hji : j ≠ i) (his : i < ops.size) : False := by
  have hin := (mem_ready.1 hi).1
  have hsz : i < listed.size := by
    rcases Nat.lt_or_ge i listed.size with h' | h'
    · exact h'
    · simp [Array.getElem?_eq_none h'] at hin
  have hlf : listed.getD i false = false := by
    simp [hsz] at hin ⊢
    exact hin
  have h1 := leaf_bound (i := i) hl (ready_mono hj hji) (by simp [hsz]) his
  have h2 := ances_listed hd (ready_deps hj) i h1
  rw [hlf] at h2
  cases h2
theorem wpLinL_swap (hsel : ∀ (j : Nat) (o : Oper) cs b, ops[j]? = some o → o.op ≠ .select cs b) : ∀ (fuel : Nat) (listed : Array Bool) (a : Act), Down md ops listed → wpLinL P md ops Q S fuel listed a → ∀ j, j ∈ Region.ready md ops listed →
    leafOk md ops listed = true ∨
    ∃ n, fuel = n + 1 ∧ ∃ oj u, ops[j]? = some oj ∧ Gives P ops S oj u a ∧ wpLinL P md ops Q S n (listed.setIfInBounds j true) (a.put oj.dst u) := by
  intro fuel
  induction fuel with
  | zero => exact fun listed a _ h j hj => Or.inl h.1
  | succ fuel ih =>
    intro listed a hd h j hj
    rcases h with ⟨h0, -⟩ | ⟨i, oi, v, hi, hfree, hr, hy, hrest⟩
    · exact Or.inl h0
    · by_cases hji : j = i
      · subst hji
        exact Or.inr ⟨fuel, rfl, oi, v, hi, hy, hrest⟩
      · obtain ⟨hjun, oj', hoj', hall⟩ := mem_ready.1 hj
        have hin := (mem_ready.1 hr).1
        have hsz : i < listed.size := by
          rcases Nat.lt_or_ge i listed.size with h' | h'
          · exact h'
          · simp [Array.getElem?_eq_none h'] at hin
        have hlf : listed.getD i false = false := by
          simp [hsz] at hin ⊢
          exact hin
        rcases ih _ _ (hd.set hr) hrest j (ready_mono hj hji) with hleaf | ⟨n, rfl, oj, u, hoj, hyj, hrj⟩
        · exact (leaf_not hd hleaf hr hj hji (Array.getElem?_eq_some_iff.1 hi).1).elim
        · obtain rfl : oj' = oj := by rw [hoj] at hoj'; exact (Option.some.inj hoj').symm
          have hnot : ∀ e ∈ oj'.after, Region.binds md e = true → e.on ≠ i := fun e he hb heq => by
            have h1 := hall e he hb
            rw [heq, hlf] at h1
            cases h1
          obtain ⟨h1, h2, h3⟩ := Oper.apart_spec (hfree j oj' hoj hji hjun hnot)
          have hfree' : ∀ k ok, ops[k]? = some ok → k ≠ i → (listed.setIfInBounds j true).getD k true = false →
              (∀ e ∈ ok.after, Region.binds md e = true → e.on ≠ i) → oi.apart ops ok = true := fun k ok hk hki hun hno => by
            refine hfree k ok hk hki ?_ hno
            by_cases hjk : j = k
            · subst hjk; exact hjun
            · rw [getD_set_ne true hjk] at hun; exact hun
          refine Or.inr ⟨n + 1, rfl, oj', u, hoj, hyj.of_same (execOp_put oj' (fun cs b => hsel j oj' cs b hoj) a oi.dst v h1).symm (wanted_put oj' a oi.dst v h1).symm, ?_⟩
          refine Or.inr ⟨i, oi, v, hi, hfree', ready_mono hr (Ne.symm hji), hy.of_same (execOp_put oi (fun cs b => hsel i oi cs b hi) a oj'.dst u h3) (wanted_put oi a oj'.dst u h3), ?_⟩
          rw [Array.setIfInBounds_comm _ _ hji, ← Act.put_comm a v u h2]
          exact hrj
theorem wpAny_of_linL (hsel : ∀ (j : Nat) (o : Oper) cs b, ops[j]? = some o → o.op ≠ .select cs b) : ∀ (fuel : Nat) (listed : Array Bool) (a : Act), Down md ops listed → wpLinL P md ops Q S fuel listed a → ∀ w, S w → wpAny P md ops Q fuel listed a w := by
  intro fuel
  induction fuel with
  | zero => exact fun listed a _ h w hS => h.2 w hS
  | succ fuel ih =>
    intro listed a hd h w hS
    rcases h with ⟨-, h⟩ | ⟨i, oi, v, hi, hfree, hr, hy, hrest⟩
    · exact h w hS
    · refine ⟨fun h0 => (by rw [h0] at hr; cases hr), fun j hj => ?_⟩
      rcases wpLinL_swap hsel (fuel + 1) listed a hd (Or.inr ⟨i, oi, v, hi, hfree, hr, hy, hrest⟩) j hj with hleaf | ⟨n, hn, oj, u, hoj, hyj, hrj⟩
      · -- no leaf stands here: the head is in the way of whatever may come up
        by_cases hji : j = i
        · subst hji
          exact hy.wpOp hi hS (fun w' hS' => ih _ _ (hd.set hr) hrest w' hS')
        · rcases wpLinL_swap hsel fuel _ _ (hd.set hr) hrest j (ready_mono hj hji) with hl2 | ⟨n, rfl, oj, u, hoj, hyj, hrj⟩
          · exact (leaf_not hd hl2 hr hj hji (Array.getElem?_eq_some_iff.1 hi).1).elim
          · obtain ⟨hjun, oj', hoj', hall⟩ := mem_ready.1 hj
            have hin := (mem_ready.1 hr).1
            have hsz : i < listed.size := by
              rcases Nat.lt_or_ge i listed.size with h' | h'
              · exact h'
              · simp [Array.getElem?_eq_none h'] at hin
            obtain rfl : oj' = oj := by rw [hoj] at hoj'; exact (Option.some.inj hoj').symm
            have hnot : ∀ e ∈ oj'.after, Region.binds md e = true → e.on ≠ i := fun e he hb heq => by
              have h1 := hall e he hb
              rw [heq] at h1
              simp [hsz] at hin h1
              rw [hin] at h1
              cases h1
            obtain ⟨h1, h2, h3⟩ := Oper.apart_spec (hfree j oj' hoj hji hjun hnot)
            have hfree' : ∀ k ok, ops[k]? = some ok → k ≠ i → (listed.setIfInBounds j true).getD k true = false →
                (∀ e ∈ ok.after, Region.binds md e = true → e.on ≠ i) → oi.apart ops ok = true := fun k ok hk hki hun hno => by
              refine hfree k ok hk hki ?_ hno
              by_cases hjk : j = k
              · subst hjk; exact hjun
              · rw [getD_set_ne true hjk] at hun; exact hun
            have hyj' : Gives P ops S oj' u a := hyj.of_same (execOp_put oj' (fun cs b => hsel j oj' cs b hoj) a oi.dst v h1).symm (wanted_put oj' a oi.dst v h1).symm
            refine hyj'.wpOp hoj hS (fun w' hS' => ih _ _ (hd.set hj) (Or.inr ⟨i, oi, v, hi, hfree', ready_mono hr (Ne.symm hji), hy.of_same (execOp_put oi (fun cs b => hsel i oi cs b hi) a oj'.dst u h3) (wanted_put oi a oj'.dst u h3), ?_⟩) w' hS')
            rw [Array.setIfInBounds_comm _ _ hji, ← Act.put_comm a v u h2]
            exact hrj
      · obtain rfl : n = fuel := by omega
        exact hyj.wpOp hoj hS (fun w' hS' => ih _ _ (hd.set hj) hrj w' hS')
theorem wp_region_linL {id : Nat} {a : Act} {w : World} (hm : P.follows .mixedOrders = true) (hs : Region.noSelect ops = true) (hS : S w.drew)
    (h : wpLinL P .any ops Q S ops.size (Array.replicate ops.size false) a) : (Code.region id ops true).wp P Q a w :=
  wp_region_any hm (wpAny_of_linL (Region.noSelect_spec hs) _ _ _ (Down.start _) h _ hS)
theorem linL_leaf {fuel : Nat} {listed : Array Bool} {a : Act} (hl : leafOk md ops listed = true) (h : ∀ w, S w → wpAny P md ops Q fuel listed a w) : wpLinL P md ops Q S fuel listed a := by
  cases fuel with
  | zero => exact ⟨hl, h⟩
  | succ n => exact Or.inl ⟨hl, h⟩
theorem linL_take {i : Nat} {oi : Oper} {v : Value} {fuel : Nat} {listed : Array Bool} {a : Act} (hi : ops[i]? = some oi) (hf : Region.free md ops listed i = true) (hr : (Region.ready md ops listed).contains i = true)
    (hy : Gives P ops S oi v a) (h : wpLinL P md ops Q S fuel (listed.setIfInBounds i true) (a.put oi.dst v)) : wpLinL P md ops Q S (fuel + 1) listed a :=
  Or.inr ⟨i, oi, v, hi, Region.free_spec hi hf, by simpa using hr, hy, h⟩
end
end Go.Proofs.YthikaimhmpenhaaDoor
namespace Go.Proofs.YthikaimhmpenhaaDoor
set_option linter.all false
@[irreducible] def qn (n d : Nat) : Nat := n / Nat.gcd n d
@[irreducible] def qd (n d : Nat) : Nat := d / Nat.gcd n d
theorem qd_pos {n d : Nat} (h : 0 < d) : 0 < qd n d := by
  unfold qd
  exact Nat.div_pos (Nat.le_of_dvd h (Nat.gcd_dvd_right n d)) (Nat.gcd_pos_of_pos_right n h)
theorem qn_le (n d : Nat) : qn n d ≤ n := by unfold qn; exact Nat.div_le_self _ _
theorem qd_le (n d : Nat) : qd n d ≤ d := by unfold qd; exact Nat.div_le_self _ _
theorem q_gcd {n d : Nat} (h : 0 < d) : Nat.gcd (qn n d) (qd n d) = 1 := by
  unfold qn qd
  exact Nat.coprime_div_gcd_div_gcd (Nat.gcd_pos_of_pos_right n h)
theorem q_scale {n d k : Nat} (hk : 0 < k) : qn (k * n) (k * d) = qn n d ∧ qd (k * n) (k * d) = qd n d := by
  unfold qn qd
  rw [Nat.gcd_mul_left]
  exact ⟨Nat.mul_div_mul_left _ _ hk, Nat.mul_div_mul_left _ _ hk⟩
theorem q_same {n d m e : Nat} (hd : 0 < d) (he : 0 < e) (h : n * e = m * d) : qn n d = qn m e ∧ qd n d = qd m e := by
  have h1 := @q_scale n d e he
  have h2 := @q_scale m e d hd
  rw [← h1.1, ← h1.2, ← h2.1, ← h2.2, Nat.mul_comm e n, Nat.mul_comm d m, h, Nat.mul_comm e d]
  exact ⟨rfl, rfl⟩
theorem q_low {n d : Nat} (h : Nat.gcd n d = 1) : qn n d = n ∧ qd n d = d := by
  unfold qn qd; rw [h, Nat.div_one, Nat.div_one]; exact ⟨rfl, rfl⟩
theorem q_val {n d : Nat} : qn n d * d = n * qd n d := by
  unfold qn qd
  obtain ⟨a, ha⟩ := Nat.gcd_dvd_left n d
  obtain ⟨b, hb⟩ := Nat.gcd_dvd_right n d
  rcases Nat.eq_zero_or_pos (Nat.gcd n d) with h0 | h0
  · rw [h0, Nat.div_zero, Nat.div_zero]; simp
  · generalize Nat.gcd n d = g at *
    subst ha hb
    rw [Nat.mul_div_cancel_left _ h0, Nat.mul_div_cancel_left _ h0]
    rw [Nat.mul_comm g b, ← Nat.mul_assoc, Nat.mul_comm (a * b) g, Nat.mul_assoc]
theorem q_zero {d : Nat} (h : 0 < d) : qn 0 d = 0 ∧ qd 0 d = 1 := by
  unfold qn qd; rw [Nat.gcd_zero_left, Nat.zero_div, Nat.div_self h]; exact ⟨rfl, rfl⟩
theorem mul_low {a p b q : Nat} (hp : 0 < p) (hq : 0 < q) (ha : Nat.gcd a p = 1) (hb : Nat.gcd b q = 1) (ha0 : a ≠ 0) (hb0 : b ≠ 0) :
    qn (a * b) (p * q) = (a / Nat.gcd a q) * (b / Nat.gcd b p) ∧ qd (a * b) (p * q) = (p / Nat.gcd b p) * (q / Nat.gcd a q) := by
  have hg : 0 < Nat.gcd a q := Nat.gcd_pos_of_pos_right a hq
  have hh : 0 < Nat.gcd b p := Nat.gcd_pos_of_pos_right b hp
  have c1 := Nat.coprime_div_gcd_div_gcd (m := a) (n := q) hg
  have c2 := Nat.coprime_div_gcd_div_gcd (m := b) (n := p) hh
  obtain ⟨a', ha'⟩ := Nat.gcd_dvd_left a q
  obtain ⟨q', hq'⟩ := Nat.gcd_dvd_right a q
  obtain ⟨b', hb'⟩ := Nat.gcd_dvd_left b p
  obtain ⟨p', hp'⟩ := Nat.gcd_dvd_right b p
  generalize Nat.gcd a q = g at *
  generalize Nat.gcd b p = h at *
  subst ha' hq' hb' hp'
  rw [Nat.mul_div_cancel_left _ hg, Nat.mul_div_cancel_left _ hh, Nat.mul_div_cancel_left _ hg, Nat.mul_div_cancel_left _ hh]
  rw [Nat.mul_div_cancel_left _ hg, Nat.mul_div_cancel_left _ hg] at c1
  rw [Nat.mul_div_cancel_left _ hh, Nat.mul_div_cancel_left _ hh] at c2
  have d1 : Nat.Coprime a' p' := Nat.Coprime.coprime_mul_left_right (k := h) (Nat.Coprime.coprime_mul_left (k := g) ha)
  have d2 : Nat.Coprime b' q' := Nat.Coprime.coprime_mul_left_right (k := g) (Nat.Coprime.coprime_mul_left (k := h) hb)
  have hc : Nat.gcd (a' * b') (p' * q') = 1 :=
    Nat.Coprime.mul_left (Nat.Coprime.mul_right d1 c1) (Nat.Coprime.mul_right c2 d2)
  have e1 : g * a' * (h * b') = g * h * (a' * b') := by rw [Nat.mul_assoc, Nat.mul_left_comm a' h b', ← Nat.mul_assoc]
  have e2 : h * p' * (g * q') = g * h * (p' * q') := by rw [Nat.mul_assoc, Nat.mul_left_comm p' g q', ← Nat.mul_assoc, Nat.mul_comm h g]
  rw [e1, e2, (q_scale (Nat.mul_pos hg hh)).1, (q_scale (Nat.mul_pos hg hh)).2]
  exact q_low hc
end Go.Proofs.YthikaimhmpenhaaDoor
namespace Go.Proofs.YthikaimhmpenhaaDoor
set_option linter.all false
theorem cop_left {T : Int} {u v : Int} {x : Nat} (hT : T = u + v * (x : Int)) (h : Nat.gcd u.natAbs x = 1) : Nat.Coprime T.natAbs x := by
  have h1 : Int.gcd (u + v * (x : Int)) (x : Int) = Int.gcd u (x : Int) := Int.gcd_add_mul_right_left ..
  unfold Int.gcd at h1
  rw [Int.natAbs_natCast] at h1
  rw [hT]
  show Nat.gcd _ _ = 1
  rw [h1]; exact h
theorem add_lowI {a b : Int} {p q : Nat} (hp : 0 < p) (hq : 0 < q) (ha : Nat.gcd a.natAbs p = 1) (hb : Nat.gcd b.natAbs q = 1) :
    let g := Nat.gcd p q
    let T := a * ((q / g : Nat) : Int) + b * ((p / g : Nat) : Int)
    let t := T.natAbs
    let h := Nat.gcd (t % g) g
    (a * (q : Int) + b * (p : Int)) = (g : Int) * T ∧ qn (a * (q : Int) + b * (p : Int)).natAbs (p * q) = t / h ∧ qd (a * (q : Int) + b * (p : Int)).natAbs (p * q) = (p / g) * (q / h) ∧ 0 < g ∧ 0 < h ∧ h ≤ g ∧ g ≤ p ∧ p / g ≤ p ∧ q / g ≤ q ∧ h ∣ t ∧ h ∣ q := by
  intro g T t h
  have hg : 0 < g := Nat.gcd_pos_of_pos_left q hp
  obtain ⟨x, hx⟩ : g ∣ p := Nat.gcd_dvd_left p q
  obtain ⟨y, hy⟩ : g ∣ q := Nat.gcd_dvd_right p q
  have hxg : p / g = x := by rw [hx]; exact Nat.mul_div_cancel_left _ hg
  have hyg : q / g = y := by rw [hy]; exact Nat.mul_div_cancel_left _ hg
  have hT : T = a * (y : Int) + b * (x : Int) := by show a * ((q / g : Nat) : Int) + b * ((p / g : Nat) : Int) = _; rw [hxg, hyg]
  have hh : h = Nat.gcd t g := by show Nat.gcd (t % g) g = _; rw [Nat.gcd_comm t g, Nat.gcd_rec g t]
  have hxy : Nat.Coprime x y := by
    have := Nat.coprime_div_gcd_div_gcd (m := p) (n := q) hg
    rw [show p / Nat.gcd p q = x from hxg, show q / Nat.gcd p q = y from hyg] at this
    exact this
  have hax : Nat.Coprime a.natAbs x := Nat.Coprime.coprime_mul_left_right (k := g) (by rw [← hx]; exact ha)
  have hby : Nat.Coprime b.natAbs y := Nat.Coprime.coprime_mul_left_right (k := g) (by rw [← hy]; exact hb)
  have htx : Nat.Coprime t x := cop_left hT (by
    rw [Int.natAbs_mul, Int.natAbs_natCast]; exact Nat.Coprime.mul_left hax hxy.symm)
  have hty : Nat.Coprime t y := cop_left (u := b * (x : Int)) (v := a) (by rw [hT]; exact Int.add_comm _ _) (by
    rw [Int.natAbs_mul, Int.natAbs_natCast]; exact Nat.Coprime.mul_left hby hxy)
  have hN : a * (q : Int) + b * (p : Int) = (g : Int) * T := by
    rw [hT, hx, hy, Int.natCast_mul, Int.natCast_mul, Int.mul_add, Int.mul_left_comm a, Int.mul_left_comm b]
  have hNn : (a * (q : Int) + b * (p : Int)).natAbs = g * t := by rw [hN, Int.natAbs_mul, Int.natAbs_natCast]
  have hD : p * q = g * (g * (x * y)) := by rw [hx, hy, Nat.mul_assoc, Nat.mul_left_comm x g y]
  have hh0 : 0 < h := by rw [hh]; exact Nat.gcd_pos_of_pos_right t hg
  have hhg : h ≤ g := by rw [hh]; exact Nat.le_of_dvd hg (Nat.gcd_dvd_right t g)
  have hgp : g ≤ p := Nat.le_of_dvd hp (Nat.gcd_dvd_left p q)
  have hG : Nat.gcd t (g * (x * y)) = h := by
    rw [hh]
    exact Nat.Coprime.gcd_mul_right_cancel_right g (Nat.Coprime.mul_left (m := x) (n := y) htx.symm hty.symm)
  have hgh : h ∣ g := by rw [hh]; exact Nat.gcd_dvd_right t g
  have hht : h ∣ t := by rw [hh]; exact Nat.gcd_dvd_left t g
  have hhq : h ∣ q := Nat.dvd_trans hgh (Nat.gcd_dvd_right p q)
  obtain ⟨e, he⟩ := hgh
  have hqh : q / h = e * y := by rw [hy, he, Nat.mul_assoc]; exact Nat.mul_div_cancel_left _ hh0
  refine ⟨hN, ?_, ?_, hg, hh0, hhg, hgp, Nat.div_le_self _ _, Nat.div_le_self _ _, hht, hhq⟩
  · rw [hNn, hD, (q_scale hg).1]; unfold qn; rw [hG]
  · rw [hNn, hD, (q_scale hg).2]; unfold qd; rw [hG, hxg, hqh, he, Nat.mul_assoc]
    rw [Nat.mul_div_cancel_left _ hh0, ← Nat.mul_assoc, Nat.mul_comm e x, Nat.mul_assoc]
end Go.Proofs.YthikaimhmpenhaaDoor
