/-
  What the statements' own helpers return: Same of equal slices, whole, wedge.
-/
import Derived.Test.YtfmmnnodihpgmaaDoorOutA
namespace Go.Proofs.YtfmmnnodihpgmaaDoor
set_option linter.all false
open Go Go.RowKit Wd
set_option maxRecDepth 100000
theorem eq_wide_self (d : Nat) (s : Bool) (a0 a1 a2 a3 : Int) (w : World) : (Op.equalIn (d + 3) 33 (.agg #[.bool s, .int .u64 a0, .int .u64 a1, .int .u64 a2, .int .u64 a3]) (.agg #[.bool s, .int .u64 a0, .int .u64 a1, .int .u64 a2, .int .u64 a3])).run Tryd.prog w = .ok true w := by
  rw [run_equalIn_agg (P := Tryd.prog) w (d + 2) 33 _ _ (by kernel_rfl) (by kernel_rfl)]
  have h := eq_mag_words d a0 a1 a2 a3 a0 a1 a2 a3
  simp only [BEq.rfl, Bool.and_self] at h
  simp [Op.eqFields, go_sem, h]
theorem eq_ratio_self (s t : Bool) (a0 a1 a2 a3 b0 b1 b2 b3 : Int) (w : World) : (Op.equalIn 10000 35 (.agg #[.bool s, .int .u64 a0, .int .u64 a1, .int .u64 a2, .int .u64 a3, .bool t, .int .u64 b0, .int .u64 b1, .int .u64 b2, .int .u64 b3]) (.agg #[.bool s, .int .u64 a0, .int .u64 a1, .int .u64 a2, .int .u64 a3, .bool t, .int .u64 b0, .int .u64 b1, .int .u64 b2, .int .u64 b3])).run Tryd.prog w = .ok true w := by
  rw [run_equalIn_agg (P := Tryd.prog) w 9999 35 _ _ (by kernel_rfl) (by kernel_rfl)]
  have h1 := eq_wide_self 9996 s a0 a1 a2 a3
  have h2 := eq_wide_self 9996 t b0 b1 b2 b3
  simp [Op.eqFields, go_sem, h1, h2]
set_option maxHeartbeats 1000000 in
theorem whole_any (n : Int) (h : -9223372036854775808 ≤ n) (h' : n ≤ 9223372036854775807) (w : World) :
    Calls Tryd.prog 28 #[.int .i64 n] w fun e w' => e = .returned (.agg #[.bool (zs (n)), .int .u64 (wd (Int.natAbs (n)) 0), .int .u64 (wd (Int.natAbs (n)) 1), .int .u64 (wd (Int.natAbs (n)) 2), .int .u64 (wd (Int.natAbs (n)) 3), .bool (zs (1)), .int .u64 (wd (Int.natAbs (1)) 0), .int .u64 (wd (Int.natAbs (1)) 1), .int .u64 (wd (Int.natAbs (1)) 2), .int .u64 (wd (Int.natAbs (1)) 3)]) ∧ Below w.heap.size w w' := by
  have K := Lib.hid (fun w => of_any n h h' w)
  have z1 : zs 1 = false := zs_nat' 1
  have e1 := wd_one
  rw [show Int.natAbs 1 = 1 from rfl, z1, e1.1, e1.2.1, e1.2.2.1, e1.2.2.2]
  clear h h' z1 e1
  go_enter Tryd.func28, Tryd.ntmps28
  go_wp2_with fail
  ((with_reducible refine (K.out _).mono ?_); rintro e w1 ⟨rfl, hb1⟩)
  obtain ⟨hc1, hf1⟩ := bcell hb1
  have hz1_w_0 : w.heap.size < w1.heap.size := by have h := hb1.size; (try simp at h); omega
  go_wp2_with ((with_reducible show bodyPost _ _ _ _ _ _); refine bodyPost_ret (by simp [results, Tryd.results28, go_sem, hc1, hf1, hz1_w_0]; try rfl) rfl ?_; exact ⟨rfl, by (repeat' (first | (with_reducible exact Below.refl _ _) | (with_reducible assumption) | (with_reducible refine below_alloc ?_ _) | (with_reducible refine Below.drew ?_) | (with_reducible refine Below.setCell ?_ ?_ _) | (with_reducible refine below_after ?_ (by assumption)) | go_size))⟩)
/-- Fractions that lie in a row. -/
def RowR (w : World) (b n : Nat) (P Q : Nat → Int) : Prop := ∀ j, j < n → ∀ o, o < 10 → w.cell? ⟨b, j * 10 + o, none⟩ = (#[.bool (zs (P j)), .int .u64 (wd (Int.natAbs (P j)) 0), .int .u64 (wd (Int.natAbs (P j)) 1), .int .u64 (wd (Int.natAbs (P j)) 2), .int .u64 (wd (Int.natAbs (P j)) 3), .bool (zs (Q j)), .int .u64 (wd (Int.natAbs (Q j)) 0), .int .u64 (wd (Int.natAbs (Q j)) 1), .int .u64 (wd (Int.natAbs (Q j)) 2), .int .u64 (wd (Int.natAbs (Q j)) 3)] : Array Value)[o]?
set_option maxHeartbeats 2000000 in
theorem same_true (b1 b2 n c1 c2 : Nat) (P Q : Nat → Int) (hn : n ≤ 1000000) (w : World) (h1 : RowR w b1 n P Q) (h2 : RowR w b2 n P Q) (l1 : b1 < w.heap.size) (l2 : b2 < w.heap.size) :
    Calls Tryd.prog 19 #[.slice (some ⟨b1, 0, none⟩) n c1, .slice (some ⟨b2, 0, none⟩) n c2] w fun e w' => e = .returned (.bool true) ∧ Below w.heap.size w w' := by
  have H1 := Lib.hid h1
  have H2 := Lib.hid h2
  clear h1 h2
  go_enter Tryd.func19, Tryd.ntmps19
  go_wp2
  go_loopw [5] (fun i wr => ∃ k : Nat, k ≤ n ∧ i = .int .i64 (k : Int) ∧ Hid (Below w.heap.size w wr)) (fun i _ => n - (intOf i).toNat)
  case atStart => exact ⟨0, by omega, rfl, Lib.hid (Below.refl _ _)⟩
  case round =>
    obtain ⟨k, hk, rfl, hB⟩ := hrel
    by_cases hlt : k < n
    · have hb := hB.out
      have q1 := fun o ho => (hb.cell (p := ⟨b1, k * 10 + o, none⟩) l1).trans (H1.out k hlt o ho)
      have q2 := fun o ho => (hb.cell (p := ⟨b2, k * 10 + o, none⟩) l2).trans (H2.out k hlt o ho)
      have a0 : wr.cell? ⟨b1, k * 10, none⟩ = some (.bool (zs (P k))) := q1 0 (by omega)
      have a1 : wr.cell? ⟨b1, k * 10 + 1, none⟩ = some (.int .u64 (wd (P k).natAbs 0)) := q1 1 (by omega)
      have a2 : wr.cell? ⟨b1, k * 10 + 2, none⟩ = some (.int .u64 (wd (P k).natAbs 1)) := q1 2 (by omega)
      have a3 : wr.cell? ⟨b1, k * 10 + 3, none⟩ = some (.int .u64 (wd (P k).natAbs 2)) := q1 3 (by omega)
      have a4 : wr.cell? ⟨b1, k * 10 + 4, none⟩ = some (.int .u64 (wd (P k).natAbs 3)) := q1 4 (by omega)
      have a5 : wr.cell? ⟨b1, k * 10 + 5, none⟩ = some (.bool (zs (Q k))) := q1 5 (by omega)
      have a6 : wr.cell? ⟨b1, k * 10 + 6, none⟩ = some (.int .u64 (wd (Q k).natAbs 0)) := q1 6 (by omega)
      have a7 : wr.cell? ⟨b1, k * 10 + 7, none⟩ = some (.int .u64 (wd (Q k).natAbs 1)) := q1 7 (by omega)
      have a8 : wr.cell? ⟨b1, k * 10 + 8, none⟩ = some (.int .u64 (wd (Q k).natAbs 2)) := q1 8 (by omega)
      have a9 : wr.cell? ⟨b1, k * 10 + 9, none⟩ = some (.int .u64 (wd (Q k).natAbs 3)) := q1 9 (by omega)
      have d0 : wr.cell? ⟨b2, k * 10, none⟩ = some (.bool (zs (P k))) := q2 0 (by omega)
      have d1 : wr.cell? ⟨b2, k * 10 + 1, none⟩ = some (.int .u64 (wd (P k).natAbs 0)) := q2 1 (by omega)
      have d2 : wr.cell? ⟨b2, k * 10 + 2, none⟩ = some (.int .u64 (wd (P k).natAbs 1)) := q2 2 (by omega)
      have d3 : wr.cell? ⟨b2, k * 10 + 3, none⟩ = some (.int .u64 (wd (P k).natAbs 2)) := q2 3 (by omega)
      have d4 : wr.cell? ⟨b2, k * 10 + 4, none⟩ = some (.int .u64 (wd (P k).natAbs 3)) := q2 4 (by omega)
      have d5 : wr.cell? ⟨b2, k * 10 + 5, none⟩ = some (.bool (zs (Q k))) := q2 5 (by omega)
      have d6 : wr.cell? ⟨b2, k * 10 + 6, none⟩ = some (.int .u64 (wd (Q k).natAbs 0)) := q2 6 (by omega)
      have d7 : wr.cell? ⟨b2, k * 10 + 7, none⟩ = some (.int .u64 (wd (Q k).natAbs 1)) := q2 7 (by omega)
      have d8 : wr.cell? ⟨b2, k * 10 + 8, none⟩ = some (.int .u64 (wd (Q k).natAbs 2)) := q2 8 (by omega)
      have d9 : wr.cell? ⟨b2, k * 10 + 9, none⟩ = some (.int .u64 (wd (Q k).natAbs 3)) := q2 9 (by omega)
      have heq := eq_ratio_self (zs (P k)) (zs (Q k)) (wd (P k).natAbs 0) (wd (P k).natAbs 1) (wd (P k).natAbs 2) (wd (P k).natAbs 3) (wd (Q k).natAbs 0) (wd (Q k).natAbs 1) (wd (Q k).natAbs 2) (wd (Q k).natAbs 3)
      clear q1 q2 hb
      go_wp2
      go_region
      go_wp2
      go_roundw
      case rel => exact ⟨k + 1, by omega, by go_num, Lib.hid hB.out.drew⟩
      case measure => simp [intOf]; omega
    · obtain rfl : k = n := by omega
      go_wp2
      go_returns
      exact ⟨rfl, hB.out⟩
end Go.Proofs.YtfmmnnodihpgmaaDoor
