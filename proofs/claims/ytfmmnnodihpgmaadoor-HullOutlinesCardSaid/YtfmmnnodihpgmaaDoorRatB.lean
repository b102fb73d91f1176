/-
  What package ratio's Valid and sound return, of a fraction in lowest terms.
-/
import Derived.Test.YtfmmnnodihpgmaaDoorRatA
namespace Go.Proofs.YtfmmnnodihpgmaaDoor
set_option linter.all false
open Go Go.RowKit Wd
set_option maxRecDepth 100000
theorem small256 {a : Nat} (h : a < 18446744073709551616) : a < 2 ^ 256 := Nat.lt_trans h (by decide)
theorem w_small {a : Nat} (h : a < 18446744073709551616) : ((.agg #[.bool (false), .int .u64 (wd (a) 0), .int .u64 (wd (a) 1), .int .u64 (wd (a) 2), .int .u64 (wd (a) 3)]) : Value) = (.agg #[.bool false, .int .u64 (((a) : Nat) : Int), .int .u64 0, .int .u64 0, .int .u64 0]) := by
  have e := wd_small h
  rw [e.1, e.2.1, e.2.2.1, e.2.2.2]
theorem z_small {a : Nat} (h : a < 18446744073709551616) : ((.agg #[.bool (zs ((a : Int))), .int .u64 (wd (Int.natAbs ((a : Int))) 0), .int .u64 (wd (Int.natAbs ((a : Int))) 1), .int .u64 (wd (Int.natAbs ((a : Int))) 2), .int .u64 (wd (Int.natAbs ((a : Int))) 3)]) : Value) = (.agg #[.bool false, .int .u64 (((a) : Nat) : Int), .int .u64 0, .int .u64 0, .int .u64 0]) := by
  rw [zs_nat', Int.natAbs_natCast]
  exact w_small h
theorem r_small {a b : Nat} (h : a < 18446744073709551616) (h' : b < 18446744073709551616) : ((.agg #[.bool (zs ((a : Int))), .int .u64 (wd (Int.natAbs ((a : Int))) 0), .int .u64 (wd (Int.natAbs ((a : Int))) 1), .int .u64 (wd (Int.natAbs ((a : Int))) 2), .int .u64 (wd (Int.natAbs ((a : Int))) 3), .bool (zs ((b : Int))), .int .u64 (wd (Int.natAbs ((b : Int))) 0), .int .u64 (wd (Int.natAbs ((b : Int))) 1), .int .u64 (wd (Int.natAbs ((b : Int))) 2), .int .u64 (wd (Int.natAbs ((b : Int))) 3)]) : Value) = (.agg #[.bool false, .int .u64 (((a) : Nat) : Int), .int .u64 0, .int .u64 0, .int .u64 0, .bool false, .int .u64 (((b) : Nat) : Int), .int .u64 0, .int .u64 0, .int .u64 0]) := by
  have e := wd_small h
  have e' := wd_small h'
  rw [zs_nat', zs_nat', Int.natAbs_natCast, Int.natAbs_natCast, e.1, e.2.1, e.2.2.1, e.2.2.2, e'.1, e'.2.1, e'.2.2.1, e'.2.2.2]
theorem val_nat (a : Nat) : val false a = (a : Int) := by unfold val; rfl
theorem gcdS (a b : Nat) (ha : a < 18446744073709551616) (hb : b < 18446744073709551616) (hb0 : 0 < b) (w : World) (hT : Tab64 w) :
    Calls Tryd.prog 68 #[(.agg #[.bool false, .int .u64 (((a) : Nat) : Int), .int .u64 0, .int .u64 0, .int .u64 0]), (.agg #[.bool false, .int .u64 (((b) : Nat) : Int), .int .u64 0, .int .u64 0, .int .u64 0])] w fun e w' => e = .returned (.agg #[.bool false, .int .u64 (((Nat.gcd a b) : Nat) : Int), .int .u64 0, .int .u64 0, .int .u64 0]) ∧ Below w.heap.size w w' := by
  have h := gcd_any false false a b (small256 ha) (small256 hb) w hT
  have hg : Nat.gcd a b < 18446744073709551616 := Nat.lt_of_le_of_lt (Nat.le_of_dvd hb0 (Nat.gcd_dvd_right a b)) hb
  rwa [val_nat, w_small ha, w_small hb, z_small hg] at h
theorem overS (a b : Nat) (ha : a < 18446744073709551616) (hb : b < 18446744073709551616) (hb0 : 0 < b) (w : World) :
    Calls Tryd.prog 69 #[(.agg #[.bool false, .int .u64 (((a) : Nat) : Int), .int .u64 0, .int .u64 0, .int .u64 0]), (.agg #[.bool false, .int .u64 (((b) : Nat) : Int), .int .u64 0, .int .u64 0, .int .u64 0])] w fun e w' => e = .returned (.agg #[.bool false, .int .u64 (((a / b) : Nat) : Int), .int .u64 0, .int .u64 0, .int .u64 0]) ∧ Below w.heap.size w w' := by
  have h := over_any false false a b (small256 ha) (small256 hb) w
  rwa [val_nat, val_nat, divQ_pos (by omega), ← Int.natCast_ediv, w_small ha, w_small hb, z_small (Nat.lt_of_le_of_lt (Nat.div_le_self a b) ha)] at h
theorem wmulS (a b : Nat) (ha : a < 18446744073709551616) (hb : b < 18446744073709551616) (hab : a * b < 18446744073709551616) (w : World) :
    Calls Tryd.prog 76 #[(.agg #[.bool false, .int .u64 (((a) : Nat) : Int), .int .u64 0, .int .u64 0, .int .u64 0]), (.agg #[.bool false, .int .u64 (((b) : Nat) : Int), .int .u64 0, .int .u64 0, .int .u64 0])] w fun e w' => e = .returned (.tuple #[(.agg #[.bool false, .int .u64 (((a * b) : Nat) : Int), .int .u64 0, .int .u64 0, .int .u64 0]), .int .i64 0]) ∧ Below w.heap.size w w' := by
  have h := mul_any false false a b (small256 ha) (small256 hb) w
  rw [val_nat, val_nat, ← Int.natCast_mul] at h
  have hn : ((a * b : Nat) : Int).natAbs < 2 ^ 256 := by rw [Int.natAbs_natCast]; exact small256 hab
  rwa [fitZ_in hn, fitE_in hn, w_small ha, w_small hb, z_small hab] at h
theorem signS (a : Nat) (ha : a < 18446744073709551616) (w : World) :
    Calls Tryd.prog 78 #[(.agg #[.bool false, .int .u64 (((a) : Nat) : Int), .int .u64 0, .int .u64 0, .int .u64 0])] w fun e w' => e = .returned (.int .i64 (if a = 0 then 0 else 1)) ∧ Below w.heap.size w w' := by
  have h := sign_any false a (small256 ha) w
  rw [val_nat, w_small ha] at h
  rwa [show cmpZ (a : Int) 0 = if a = 0 then 0 else 1 by unfold cmpZ; split <;> split <;> (try split) <;> omega] at h
theorem oneS (w : World) : Calls Tryd.prog 73 #[] w fun e w' => e = .returned (.agg #[.bool false, .int .u64 1, .int .u64 0, .int .u64 0, .int .u64 0]) ∧ Below w.heap.size w w' := by
  have h := one_any w
  rw [show (1 : Int) = ((1 : Nat) : Int) from rfl, z_small (by omega)] at h
  exact h
theorem validS (a : Nat) (ha : a < 18446744073709551616) (w : World) :
    Calls Tryd.prog 104 #[(.agg #[.bool false, .int .u64 (((a) : Nat) : Int), .int .u64 0, .int .u64 0, .int .u64 0])] w fun e w' => e = .returned (.bool true) ∧ Below w.heap.size w w' := by
  have h := valid_any false a (small256 ha) w
  rwa [w_small ha] at h
theorem cmp11 (w : World) : Calls Tryd.prog 62 #[.agg #[.bool false, .int .u64 1, .int .u64 0, .int .u64 0, .int .u64 0], .agg #[.bool false, .int .u64 1, .int .u64 0, .int .u64 0, .int .u64 0]] w fun e w' => e = .returned (.int .i64 0) ∧ Below w.heap.size w w' := by
  have h := cmp_any false false 1 1 (by decide) (by decide) w
  rw [w_small (by omega), show cmpZ (val false 1) (val false 1) = 0 by unfold cmpZ; rw [if_neg (by omega), if_neg (by omega)]] at h
  exact h
set_option maxHeartbeats 1000000 in
theorem rvalidS (n d : Nat) (hn : n < 18446744073709551616) (hd : d < 18446744073709551616) (h0 : 0 < d) (hg : Nat.gcd n d = 1) (w : World) (hT : Tab64 w) :
    Calls Tryd.prog 89 #[(.agg #[.bool false, .int .u64 (((n) : Nat) : Int), .int .u64 0, .int .u64 0, .int .u64 0, .bool false, .int .u64 (((d) : Nat) : Int), .int .u64 0, .int .u64 0, .int .u64 0])] w fun e w' => e = .returned (.bool true) ∧ Below w.heap.size w w' := by
  have V1 := Lib.hid (fun w => validS n hn w)
  have V2 := Lib.hid (fun w => validS d hd w)
  have S1 := fun w => signS d hd w
  have G1 := fun w hT => gcdS n d hn hd h0 w hT
  rw [if_neg (by omega)] at S1
  rw [hg] at G1
  have S1' := Lib.hid S1
  have G1' := Lib.hid G1
  have HT := Lib.hid hT
  clear S1 G1 hT hn hd h0 hg
  go_enter Tryd.func89, Tryd.ntmps89
  go_wp2_with fail
  ((with_reducible refine (V1.out _).mono ?_); rintro e w1 ⟨rfl, hb1⟩)
  obtain ⟨hc1, hf1⟩ := bcell hb1
  have hz1_w_0 : w.heap.size < w1.heap.size := by have h := hb1.size; (try simp at h); omega
  go_wp2_with fail
  ((with_reducible refine (V2.out _).mono ?_); rintro e w2 ⟨rfl, hb2⟩)
  obtain ⟨hc2, hf2⟩ := bcell hb2
  have hz2_w_0 : w.heap.size < w2.heap.size := by have h := hb2.size; (try simp at h); omega
  go_wp2_with fail
  ((with_reducible refine (S1'.out _).mono ?_); rintro e w3 ⟨rfl, hb3⟩)
  obtain ⟨hc3, hf3⟩ := bcell hb3
  have hz3_w_0 : w.heap.size < w3.heap.size := by have h := hb3.size; (try simp at h); omega
  go_wp2_with fail
  ((with_reducible refine (G1'.out _ (HT.out.later (by (repeat' (first | (with_reducible exact Below.refl _ _) | (with_reducible assumption) | (with_reducible refine below_alloc ?_ _) | (with_reducible refine Below.drew ?_) | (with_reducible refine Below.setCell ?_ ?_ _) | (with_reducible refine below_after ?_ (by assumption)) | go_size))))).mono ?_); rintro e w4 ⟨rfl, hb4⟩)
  obtain ⟨hc4, hf4⟩ := bcell hb4
  have hz4_w_0 : w.heap.size < w4.heap.size := by have h := hb4.size; (try simp at h); omega
  go_wp2_with fail
  ((with_reducible refine (oneS _).mono ?_); rintro e w5 ⟨rfl, hb5⟩)
  obtain ⟨hc5, hf5⟩ := bcell hb5
  have hz5_w_0 : w.heap.size < w5.heap.size := by have h := hb5.size; (try simp at h); omega
  go_wp2_with fail
  ((with_reducible refine (cmp11 _).mono ?_); rintro e w6 ⟨rfl, hb6⟩)
  obtain ⟨hc6, hf6⟩ := bcell hb6
  have hz6_w_0 : w.heap.size < w6.heap.size := by have h := hb6.size; (try simp at h); omega
  go_wp2_with ((with_reducible show bodyPost _ _ _ _ _ _); refine bodyPost_ret (by simp [results, Tryd.results89, go_sem, ]; try rfl) rfl ?_; exact ⟨rfl, by (repeat' (first | (with_reducible exact Below.refl _ _) | (with_reducible assumption) | (with_reducible refine below_alloc ?_ _) | (with_reducible refine Below.drew ?_) | (with_reducible refine Below.setCell ?_ ?_ _) | (with_reducible refine below_after ?_ (by assumption)) | go_size))⟩)
set_option maxHeartbeats 1000000 in
theorem soundS (n d : Nat) (hn : n < 18446744073709551616) (hd : d < 18446744073709551616) (h0 : 0 < d) (hg : Nat.gcd n d = 1) (w : World) (hT : Tab64 w) :
    Calls Tryd.prog 67 #[(.agg #[.bool false, .int .u64 (((n) : Nat) : Int), .int .u64 0, .int .u64 0, .int .u64 0, .bool false, .int .u64 (((d) : Nat) : Int), .int .u64 0, .int .u64 0, .int .u64 0])] w fun e w' => e = .returned (.agg #[.bool false, .int .u64 (((n) : Nat) : Int), .int .u64 0, .int .u64 0, .int .u64 0, .bool false, .int .u64 (((d) : Nat) : Int), .int .u64 0, .int .u64 0, .int .u64 0]) ∧ Below w.heap.size w w' := by
  have V1 := Lib.hid (fun w hT => rvalidS n d hn hd h0 hg w hT)
  have HT := Lib.hid hT
  clear hT hn hd h0 hg
  go_enter Tryd.func67, Tryd.ntmps67
  go_wp2_with fail
  ((with_reducible refine (V1.out _ (HT.out.later (by (repeat' (first | (with_reducible exact Below.refl _ _) | (with_reducible assumption) | (with_reducible refine below_alloc ?_ _) | (with_reducible refine Below.drew ?_) | (with_reducible refine Below.setCell ?_ ?_ _) | (with_reducible refine below_after ?_ (by assumption)) | go_size))))).mono ?_); rintro e w1 ⟨rfl, hb1⟩)
  obtain ⟨hc1, hf1⟩ := bcell hb1
  have hz1_w_0 : w.heap.size < w1.heap.size := by have h := hb1.size; (try simp at h); omega
  have hz1_w_1 : w.heap.size + 1 < w1.heap.size := by have h := hb1.size; (try simp at h); omega
  go_wp2_with ((with_reducible show bodyPost _ _ _ _ _ _); refine bodyPost_ret (by simp [results, Tryd.results67, go_sem, hc1, hf1, hz1_w_0, hz1_w_1]; try rfl) rfl ?_; exact ⟨rfl, by (repeat' (first | (with_reducible exact Below.refl _ _) | (with_reducible assumption) | (with_reducible refine below_alloc ?_ _) | (with_reducible refine Below.drew ?_) | (with_reducible refine Below.setCell ?_ ?_ _) | (with_reducible refine below_after ?_ (by assumption)) | go_size))⟩)
theorem Kp.same {H : Nat} {L : List Nat} {W x : World} {p : Addr} {v : Value} (hW : W.cell? p = some v) (hp : p.block < H) (hL : p.block ∉ L) (hn : p = ⟨p.block, p.off, none⟩) (h : Kp H L W x) : Kp H L W (x.setCell p v) := by
  obtain ⟨h1, h2, h3, h4⟩ := h
  refine ⟨h1, by simpa using h2, fun b o hb hl => ?_, fun b o hb => ?_⟩
  · by_cases e : p = ⟨b, o, none⟩
    · subst e
      rw [World.cell?_setCell_same _ _ _ (u := v) (by rw [h3 b o hb hl]; exact hW)]
      exact hW.symm
    · rw [World.cell?_setCell_other _ _ _ _ e]; exact h3 b o hb hl
  · rw [World.frozen?_setCell]; exact h4 b o hb
end Go.Proofs.YtfmmnnodihpgmaaDoor
