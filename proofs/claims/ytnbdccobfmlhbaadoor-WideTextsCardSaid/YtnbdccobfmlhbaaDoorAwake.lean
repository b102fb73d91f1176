/-
  The statements' own look at the chapter's numbers: awake returns true.
-/
import Derived.Test.YtnbdccobfmlhbaaDoorParse
namespace Go.Proofs.YtnbdccobfmlhbaaDoor
set_option linter.all false
open Go Go.RowKit Wd
set_option maxRecDepth 100000
theorem below_later {w W w1 : World} (hb : Below W.heap.size W w1) (h : Below w.heap.size w W) : Below w.heap.size w w1 := below_after h hb
theorem w_lit (s : Bool) (a : Nat) (h : a < 18446744073709551616) : ((.agg #[.bool (s), .int .u64 (wd (a) 0), .int .u64 (wd (a) 1), .int .u64 (wd (a) 2), .int .u64 (wd (a) 3)]) : Value) = .agg #[.bool s, .int .u64 (a : Int), .int .u64 0, .int .u64 0, .int .u64 0] := by
  rw [(wd_small h).1, (wd_small h).2.1, (wd_small h).2.2.1, (wd_small h).2.2.2]
theorem z_lit (n : Int) (h : n.natAbs < 18446744073709551616) : ((.agg #[.bool (zs (n)), .int .u64 (wd (Int.natAbs (n)) 0), .int .u64 (wd (Int.natAbs (n)) 1), .int .u64 (wd (Int.natAbs (n)) 2), .int .u64 (wd (Int.natAbs (n)) 3)]) : Value) = .agg #[.bool (decide (n < 0)), .int .u64 (n.natAbs : Int), .int .u64 0, .int .u64 0, .int .u64 0] := by
  rw [(wd_small h).1, (wd_small h).2.1, (wd_small h).2.2.1, (wd_small h).2.2.2]
  unfold zs; rfl
theorem w_two64 : ((.agg #[.bool (false), .int .u64 (wd (18446744073709551616) 0), .int .u64 (wd (18446744073709551616) 1), .int .u64 (wd (18446744073709551616) 2), .int .u64 (wd (18446744073709551616) 3)]) : Value) = .agg #[.bool false, .int .u64 0, .int .u64 1, .int .u64 0, .int .u64 0] := by
  rw [wd0, wd1, wd2, wd3]; rfl
theorem of_lit (n : Int) (h : -9223372036854775808 ≤ n) (h' : n ≤ 9223372036854775807) (w : World) :
    Calls Tryd.prog 28 #[.int .i64 n] w fun e w' => e = .returned (.agg #[.bool (decide (n < 0)), .int .u64 (n.natAbs : Int), .int .u64 0, .int .u64 0, .int .u64 0]) ∧ Below w.heap.size w w' := by
  have H := of_any n h h' w
  rwa [z_lit n (by omega)] at H
theorem aw_mul (w : World) : Calls Tryd.prog 13 #[.agg #[.bool false, .int .u64 4294967296, .int .u64 0, .int .u64 0, .int .u64 0], .agg #[.bool false, .int .u64 4294967296, .int .u64 0, .int .u64 0, .int .u64 0]] w fun e w' => e = .returned (.tuple #[.agg #[.bool false, .int .u64 0, .int .u64 1, .int .u64 0, .int .u64 0], .int .i64 0]) ∧ Below w.heap.size w w' := by
  obtain ⟨p, e, hpe, H⟩ := mulN_any 4294967296 4294967296 (by decide) (by decide)
  rcases hpe with ⟨h1, rfl, rfl⟩ | ⟨h1, -, -⟩
  · have h := H w
    rw [w_lit false 4294967296 (by omega), show 4294967296 * 4294967296 = 18446744073709551616 from rfl, w_two64] at h
    exact h
  · exact absurd (by decide) h1
theorem aw_div (w : World) : Calls Tryd.prog 16 #[.agg #[.bool true, .int .u64 7, .int .u64 0, .int .u64 0, .int .u64 0], .agg #[.bool false, .int .u64 2, .int .u64 0, .int .u64 0, .int .u64 0]] w fun e w' => e = .returned (.tuple #[.agg #[.bool true, .int .u64 4, .int .u64 0, .int .u64 0, .int .u64 0], .agg #[.bool false, .int .u64 1, .int .u64 0, .int .u64 0, .int .u64 0], .int .i64 0]) ∧ Below w.heap.size w w' := by
  have h := div_any true false 7 2 (by decide) (by decide) w
  have e1 : divQ (val true 7) (val false 2) = -4 := by unfold divQ val; decide
  have e2 : divR (val true 7) (val false 2) = 1 := by unfold divR val; decide
  have e3 : divE (val false 2) = 0 := by unfold divE val; decide
  rw [e1, e2, e3, w_lit true 7 (by omega), w_lit false 2 (by omega), z_lit (-4) (by decide), z_lit 1 (by decide)] at h
  exact h
theorem aw_int (w : World) : Calls Tryd.prog 26 #[.agg #[.bool true, .int .u64 5, .int .u64 0, .int .u64 0, .int .u64 0]] w fun e w' => e = .returned (.tuple #[.int .i64 (-5), .bool true]) ∧ Below w.heap.size w w' := by
  have h := int_any true 5 (by decide) w
  have e1 : intVal (val true 5) = -5 := by unfold intVal val; decide
  have e2 : intOk (val true 5) = true := by unfold intOk val; decide
  rw [e1, e2, w_lit true 5 (by omega)] at h
  exact h
theorem aw_gcd (w : World) (hT : Tab64 w) : Calls Tryd.prog 18 #[.agg #[.bool true, .int .u64 12, .int .u64 0, .int .u64 0, .int .u64 0], .agg #[.bool false, .int .u64 18, .int .u64 0, .int .u64 0, .int .u64 0]] w fun e w' => e = .returned (.agg #[.bool false, .int .u64 6, .int .u64 0, .int .u64 0, .int .u64 0]) ∧ Below w.heap.size w w' := by
  have h := gcd_any true false 12 18 (by decide) (by decide) w hT
  rw [show Nat.gcd 12 18 = 6 from rfl, show val false 6 = 6 from by unfold val; rfl, w_lit true 12 (by omega), w_lit false 18 (by omega), z_lit 6 (by decide)] at h
  exact h
def two64 : List UInt8 := [49, 56, 52, 52, 54, 55, 52, 52, 48, 55, 51, 55, 48, 57, 53, 53, 49, 54, 49, 54]
theorem aw_parse (w : World) : Calls Tryd.prog 20 #[.string ⟨#[49, 56, 52, 52, 54, 55, 52, 52, 48, 55, 51, 55, 48, 57, 53, 53, 49, 54, 49, 54]⟩] w fun e w' => e = .returned (.tuple #[.agg #[.bool false, .int .u64 0, .int .u64 1, .int .u64 0, .int .u64 0], .int .i64 0]) ∧ Below w.heap.size w w' := by
  have h := parse_any two64 (by decide) w
  have e1 : parseZ two64 = ((18446744073709551616 : Nat) : Int) := by unfold parseZ; decide +kernel
  have e2 : parseE two64 = 0 := by unfold parseE; decide +kernel
  rw [e1, e2, zs_nat, Int.natAbs_natCast, w_two64] at h
  exact h
theorem aw_text (w : World) (hT : Tabs w) : Calls Tryd.prog 22 #[.agg #[.bool false, .int .u64 0, .int .u64 1, .int .u64 0, .int .u64 0]] w fun e w' => e = .returned (.string ⟨#[49, 56, 52, 52, 54, 55, 52, 52, 48, 55, 51, 55, 48, 57, 53, 53, 49, 54, 49, 54]⟩) ∧ Below w.heap.size w w' := by
  have h := text_any false 18446744073709551616 (by decide) w hT
  have e1 : textOf false 18446744073709551616 = two64 := by
    unfold textOf
    rw [if_neg (by decide), if_neg (by decide)]
    obtain ⟨j, hj, e⟩ := dec_pad 19 18446744073709551616 (by decide)
    have e2 : pad (19 + 1) 18446744073709551616 = two64 := by decide +kernel
    rw [e2] at e
    have hj0 : j = 0 := by
      cases j with
      | zero => rfl
      | succ j => rw [List.replicate_succ] at e; exact absurd (congrArg List.head? e) (by simp [two64])
    subst hj0
    simpa using e.symm
  rw [e1, w_two64] at h
  exact h
set_option maxHeartbeats 4000000 in
theorem awake_any (w : World) (hT : Tabs w) : Calls Tryd.prog 15 #[] w fun e w' => e = .returned (.bool true) ∧ Below w.heap.size w w' := by
  have Om7 := Lib.hid (show ∀ w : World, Calls Tryd.prog 28 #[.int .i64 (-7)] w fun e w' => e = .returned (.agg #[.bool true, .int .u64 7, .int .u64 0, .int .u64 0, .int .u64 0]) ∧ Below w.heap.size w w' from fun w => of_lit (-7) (by omega) (by omega) w)
  have O2 := Lib.hid (show ∀ w : World, Calls Tryd.prog 28 #[.int .i64 (2)] w fun e w' => e = .returned (.agg #[.bool false, .int .u64 2, .int .u64 0, .int .u64 0, .int .u64 0]) ∧ Below w.heap.size w w' from fun w => of_lit (2) (by omega) (by omega) w)
  have Om5 := Lib.hid (show ∀ w : World, Calls Tryd.prog 28 #[.int .i64 (-5)] w fun e w' => e = .returned (.agg #[.bool true, .int .u64 5, .int .u64 0, .int .u64 0, .int .u64 0]) ∧ Below w.heap.size w w' from fun w => of_lit (-5) (by omega) (by omega) w)
  have Om4 := Lib.hid (show ∀ w : World, Calls Tryd.prog 28 #[.int .i64 (-4)] w fun e w' => e = .returned (.agg #[.bool true, .int .u64 4, .int .u64 0, .int .u64 0, .int .u64 0]) ∧ Below w.heap.size w w' from fun w => of_lit (-4) (by omega) (by omega) w)
  have O1 := Lib.hid (show ∀ w : World, Calls Tryd.prog 28 #[.int .i64 (1)] w fun e w' => e = .returned (.agg #[.bool false, .int .u64 1, .int .u64 0, .int .u64 0, .int .u64 0]) ∧ Below w.heap.size w w' from fun w => of_lit (1) (by omega) (by omega) w)
  have Om12 := Lib.hid (show ∀ w : World, Calls Tryd.prog 28 #[.int .i64 (-12)] w fun e w' => e = .returned (.agg #[.bool true, .int .u64 12, .int .u64 0, .int .u64 0, .int .u64 0]) ∧ Below w.heap.size w w' from fun w => of_lit (-12) (by omega) (by omega) w)
  have O18 := Lib.hid (show ∀ w : World, Calls Tryd.prog 28 #[.int .i64 (18)] w fun e w' => e = .returned (.agg #[.bool false, .int .u64 18, .int .u64 0, .int .u64 0, .int .u64 0]) ∧ Below w.heap.size w w' from fun w => of_lit (18) (by omega) (by omega) w)
  have O6 := Lib.hid (show ∀ w : World, Calls Tryd.prog 28 #[.int .i64 (6)] w fun e w' => e = .returned (.agg #[.bool false, .int .u64 6, .int .u64 0, .int .u64 0, .int .u64 0]) ∧ Below w.heap.size w w' from fun w => of_lit (6) (by omega) (by omega) w)
  have OB := Lib.hid (show ∀ w : World, Calls Tryd.prog 28 #[.int .i64 (4294967296)] w fun e w' => e = .returned (.agg #[.bool false, .int .u64 4294967296, .int .u64 0, .int .u64 0, .int .u64 0]) ∧ Below w.heap.size w w' from fun w => of_lit (4294967296) (by omega) (by omega) w)
  have q0 : ∀ w, (Op.equalIn 10000 25 (.agg #[.bool false, .int .u64 0, .int .u64 1, .int .u64 0, .int .u64 0]) (.agg #[.bool false, .int .u64 0, .int .u64 1, .int .u64 0, .int .u64 0])).run Tryd.prog w = .ok true w := fun w => by kernel_rfl
  have q1 : ∀ w, (Op.equalIn 10000 25 (.agg #[.bool true, .int .u64 4, .int .u64 0, .int .u64 0, .int .u64 0]) (.agg #[.bool true, .int .u64 4, .int .u64 0, .int .u64 0, .int .u64 0])).run Tryd.prog w = .ok true w := fun w => by kernel_rfl
  have q2 : ∀ w, (Op.equalIn 10000 25 (.agg #[.bool false, .int .u64 1, .int .u64 0, .int .u64 0, .int .u64 0]) (.agg #[.bool false, .int .u64 1, .int .u64 0, .int .u64 0, .int .u64 0])).run Tryd.prog w = .ok true w := fun w => by kernel_rfl
  have q3 : ∀ w, (Op.equalIn 10000 25 (.agg #[.bool false, .int .u64 6, .int .u64 0, .int .u64 0, .int .u64 0]) (.agg #[.bool false, .int .u64 6, .int .u64 0, .int .u64 0, .int .u64 0])).run Tryd.prog w = .ok true w := fun w => by kernel_rfl
  have HT := Lib.hid hT
  clear hT
  go_enter Tryd.func15, Tryd.ntmps15
  go_wp2_with fail
  ((with_reducible refine (OB.out _).mono ?_); rintro e w1 ⟨rfl, hb1⟩)
  obtain ⟨hc1, hf1⟩ := bcell hb1
  go_wp2_with fail
  ((with_reducible refine (OB.out _).mono ?_); rintro e w2 ⟨rfl, hb2⟩)
  obtain ⟨hc2, hf2⟩ := bcell hb2
  go_wp2_with fail
  ((with_reducible refine (aw_mul _).mono ?_); rintro e w3 ⟨rfl, hb3⟩)
  obtain ⟨hc3, hf3⟩ := bcell hb3
  go_upto_region 2 with (fail)
  refine wp_world (fun x => (∀ o, x.cell? ⟨w3.heap.size, o, none⟩ = (#[.bool false, .int .u64 0, .int .u64 1, .int .u64 0, .int .u64 0] : Array Value)[o]?) ∧ (∀ o, x.frozen? ⟨w3.heap.size, o, none⟩ = false) ∧ w3.heap.size < x.heap.size ∧ Below w.heap.size w x) ⟨fun o => by simp [go_sem], fun o => by simp [go_sem], by (first | omega | (simp [go_sem]; done) | (simp [go_sem]; omega)), by (repeat' (first | (with_reducible exact Below.refl _ _) | (with_reducible assumption) | (with_reducible refine below_alloc ?_ _) | (with_reducible refine Below.drew ?_) | (with_reducible refine Below.setCell ?_ ?_ _) | (with_reducible refine below_after ?_ (by assumption)) | go_size))⟩ ?_
  rintro A ⟨hAc0, hAf0, hAz0, hAb⟩
  clear hc1 hf1 hc2 hf2 hc3 hf3
  go_wp2_with fail
  ((with_reducible refine (Om7.out _).mono ?_); rintro e w4 ⟨rfl, hb4⟩)
  have hk4 : Kp A.heap.size [] A w4 := (by (repeat (first | (with_reducible assumption) | (with_reducible exact Kp.refl (Nat.le_refl _)) | (with_reducible refine Kp.drew ?_) | (with_reducible refine Kp.alloc ?_ _) | ((with_reducible refine Kp.put ?_ ?_ _); focus (first | (left; go_size; done) | (right; simp; done))) | ((with_reducible apply Kp.later); (with_reducible assumption)))))
  have h4c0 := fun o => (hk4.cell _ o hAz0 (by simp)).trans (hAc0 o)
  have h4f0 := fun o => (hk4.froz _ o hAz0).trans (hAf0 o)
  have h4z0 := Nat.lt_of_lt_of_le hAz0 hk4.size
  go_wp2_with fail
  ((with_reducible refine (O2.out _).mono ?_); rintro e w5 ⟨rfl, hb5⟩)
  have hk5 : Kp A.heap.size [] A w5 := (by (repeat (first | (with_reducible assumption) | (with_reducible exact Kp.refl (Nat.le_refl _)) | (with_reducible refine Kp.drew ?_) | (with_reducible refine Kp.alloc ?_ _) | ((with_reducible refine Kp.put ?_ ?_ _); focus (first | (left; go_size; done) | (right; simp; done))) | ((with_reducible apply Kp.later); (with_reducible assumption)))))
  have h5c0 := fun o => (hk5.cell _ o hAz0 (by simp)).trans (hAc0 o)
  have h5f0 := fun o => (hk5.froz _ o hAz0).trans (hAf0 o)
  have h5z0 := Nat.lt_of_lt_of_le hAz0 hk5.size
  go_wp2_with fail
  ((with_reducible refine (aw_div _).mono ?_); rintro e w6 ⟨rfl, hb6⟩)
  have hk6 : Kp A.heap.size [] A w6 := (by (repeat (first | (with_reducible assumption) | (with_reducible exact Kp.refl (Nat.le_refl _)) | (with_reducible refine Kp.drew ?_) | (with_reducible refine Kp.alloc ?_ _) | ((with_reducible refine Kp.put ?_ ?_ _); focus (first | (left; go_size; done) | (right; simp; done))) | ((with_reducible apply Kp.later); (with_reducible assumption)))))
  have h6c0 := fun o => (hk6.cell _ o hAz0 (by simp)).trans (hAc0 o)
  have h6f0 := fun o => (hk6.froz _ o hAz0).trans (hAf0 o)
  have h6z0 := Nat.lt_of_lt_of_le hAz0 hk6.size
  go_upto_region 3 with (fail)
  refine wp_world (fun x => (∀ o, x.cell? ⟨w3.heap.size, o, none⟩ = (#[.bool false, .int .u64 0, .int .u64 1, .int .u64 0, .int .u64 0] : Array Value)[o]?) ∧ (∀ o, x.cell? ⟨w6.heap.size, o, none⟩ = (#[.bool true, .int .u64 4, .int .u64 0, .int .u64 0, .int .u64 0] : Array Value)[o]?) ∧ (∀ o, x.cell? ⟨w6.heap.size + 1, o, none⟩ = (#[.bool false, .int .u64 1, .int .u64 0, .int .u64 0, .int .u64 0] : Array Value)[o]?) ∧ (∀ o, x.frozen? ⟨w3.heap.size, o, none⟩ = false) ∧ (∀ o, x.frozen? ⟨w6.heap.size, o, none⟩ = false) ∧ (∀ o, x.frozen? ⟨w6.heap.size + 1, o, none⟩ = false) ∧ w3.heap.size < x.heap.size ∧ w6.heap.size < x.heap.size ∧ w6.heap.size + 1 < x.heap.size ∧ Below w.heap.size w x) ⟨fun o => by simp [go_sem, h6c0, h6f0, h6z0], fun o => by simp [go_sem, h6c0, h6f0, h6z0], fun o => by simp [go_sem, h6c0, h6f0, h6z0], fun o => by simp [go_sem, h6c0, h6f0, h6z0], fun o => by simp [go_sem, h6c0, h6f0, h6z0], fun o => by simp [go_sem, h6c0, h6f0, h6z0], by (first | omega | (simp [go_sem, h6c0, h6f0, h6z0]; done) | (simp [go_sem, h6c0, h6f0, h6z0]; omega)), by (first | omega | (simp [go_sem, h6c0, h6f0, h6z0]; done) | (simp [go_sem, h6c0, h6f0, h6z0]; omega)), by (first | omega | (simp [go_sem, h6c0, h6f0, h6z0]; done) | (simp [go_sem, h6c0, h6f0, h6z0]; omega)), by (repeat' (first | (with_reducible exact Below.refl _ _) | (with_reducible assumption) | (with_reducible refine below_alloc ?_ _) | (with_reducible refine Below.drew ?_) | (with_reducible refine Below.setCell ?_ ?_ _) | (with_reducible refine below_after ?_ (by assumption)) | go_size))⟩ ?_
  rintro B ⟨hBc0, hBc1, hBc2, hBf0, hBf1, hBf2, hBz0, hBz1, hBz2, hBb⟩
  go_wp2_with fail
  ((with_reducible refine (aw_parse _).mono ?_); rintro e w7 ⟨rfl, hb7⟩)
  have hk7 : Kp B.heap.size [] B w7 := (by (repeat (first | (with_reducible assumption) | (with_reducible exact Kp.refl (Nat.le_refl _)) | (with_reducible refine Kp.drew ?_) | (with_reducible refine Kp.alloc ?_ _) | ((with_reducible refine Kp.put ?_ ?_ _); focus (first | (left; go_size; done) | (right; simp; done))) | ((with_reducible apply Kp.later); (with_reducible assumption)))))
  have h7c0 := fun o => (hk7.cell _ o hBz0 (by simp)).trans (hBc0 o)
  have h7f0 := fun o => (hk7.froz _ o hBz0).trans (hBf0 o)
  have h7z0 := Nat.lt_of_lt_of_le hBz0 hk7.size
  have h7c1 := fun o => (hk7.cell _ o hBz1 (by simp)).trans (hBc1 o)
  have h7f1 := fun o => (hk7.froz _ o hBz1).trans (hBf1 o)
  have h7z1 := Nat.lt_of_lt_of_le hBz1 hk7.size
  have h7c2 := fun o => (hk7.cell _ o hBz2 (by simp)).trans (hBc2 o)
  have h7f2 := fun o => (hk7.froz _ o hBz2).trans (hBf2 o)
  have h7z2 := Nat.lt_of_lt_of_le hBz2 hk7.size
  go_upto_region 4 with (fail)
  refine wp_world (fun x => (∀ o, x.cell? ⟨w3.heap.size, o, none⟩ = (#[.bool false, .int .u64 0, .int .u64 1, .int .u64 0, .int .u64 0] : Array Value)[o]?) ∧ (∀ o, x.cell? ⟨w6.heap.size, o, none⟩ = (#[.bool true, .int .u64 4, .int .u64 0, .int .u64 0, .int .u64 0] : Array Value)[o]?) ∧ (∀ o, x.cell? ⟨w6.heap.size + 1, o, none⟩ = (#[.bool false, .int .u64 1, .int .u64 0, .int .u64 0, .int .u64 0] : Array Value)[o]?) ∧ (∀ o, x.cell? ⟨w7.heap.size, o, none⟩ = (#[.bool false, .int .u64 0, .int .u64 1, .int .u64 0, .int .u64 0] : Array Value)[o]?) ∧ (∀ o, x.frozen? ⟨w3.heap.size, o, none⟩ = false) ∧ (∀ o, x.frozen? ⟨w6.heap.size, o, none⟩ = false) ∧ (∀ o, x.frozen? ⟨w6.heap.size + 1, o, none⟩ = false) ∧ (∀ o, x.frozen? ⟨w7.heap.size, o, none⟩ = false) ∧ w3.heap.size < x.heap.size ∧ w6.heap.size < x.heap.size ∧ w6.heap.size + 1 < x.heap.size ∧ w7.heap.size < x.heap.size ∧ Below w.heap.size w x) ⟨fun o => by simp [go_sem, h7c0, h7f0, h7z0, h7c1, h7f1, h7z1, h7c2, h7f2, h7z2], fun o => by simp [go_sem, h7c0, h7f0, h7z0, h7c1, h7f1, h7z1, h7c2, h7f2, h7z2], fun o => by simp [go_sem, h7c0, h7f0, h7z0, h7c1, h7f1, h7z1, h7c2, h7f2, h7z2], fun o => by simp [go_sem, h7c0, h7f0, h7z0, h7c1, h7f1, h7z1, h7c2, h7f2, h7z2], fun o => by simp [go_sem, h7c0, h7f0, h7z0, h7c1, h7f1, h7z1, h7c2, h7f2, h7z2], fun o => by simp [go_sem, h7c0, h7f0, h7z0, h7c1, h7f1, h7z1, h7c2, h7f2, h7z2], fun o => by simp [go_sem, h7c0, h7f0, h7z0, h7c1, h7f1, h7z1, h7c2, h7f2, h7z2], fun o => by simp [go_sem, h7c0, h7f0, h7z0, h7c1, h7f1, h7z1, h7c2, h7f2, h7z2], by (first | omega | (simp [go_sem, h7c0, h7f0, h7z0, h7c1, h7f1, h7z1, h7c2, h7f2, h7z2]; done) | (simp [go_sem, h7c0, h7f0, h7z0, h7c1, h7f1, h7z1, h7c2, h7f2, h7z2]; omega)), by (first | omega | (simp [go_sem, h7c0, h7f0, h7z0, h7c1, h7f1, h7z1, h7c2, h7f2, h7z2]; done) | (simp [go_sem, h7c0, h7f0, h7z0, h7c1, h7f1, h7z1, h7c2, h7f2, h7z2]; omega)), by (first | omega | (simp [go_sem, h7c0, h7f0, h7z0, h7c1, h7f1, h7z1, h7c2, h7f2, h7z2]; done) | (simp [go_sem, h7c0, h7f0, h7z0, h7c1, h7f1, h7z1, h7c2, h7f2, h7z2]; omega)), by (first | omega | (simp [go_sem, h7c0, h7f0, h7z0, h7c1, h7f1, h7z1, h7c2, h7f2, h7z2]; done) | (simp [go_sem, h7c0, h7f0, h7z0, h7c1, h7f1, h7z1, h7c2, h7f2, h7z2]; omega)), by (repeat' (first | (with_reducible exact Below.refl _ _) | (with_reducible assumption) | (with_reducible refine below_alloc ?_ _) | (with_reducible refine Below.drew ?_) | (with_reducible refine Below.setCell ?_ ?_ _) | (with_reducible refine below_after ?_ (by assumption)) | go_size))⟩ ?_
  rintro C ⟨hCc0, hCc1, hCc2, hCc3, hCf0, hCf1, hCf2, hCf3, hCz0, hCz1, hCz2, hCz3, hCb⟩
  go_wp2_with fail
  ((with_reducible refine (Om5.out _).mono ?_); rintro e w8 ⟨rfl, hb8⟩)
  have hk8 : Kp C.heap.size [] C w8 := (by (repeat (first | (with_reducible assumption) | (with_reducible exact Kp.refl (Nat.le_refl _)) | (with_reducible refine Kp.drew ?_) | (with_reducible refine Kp.alloc ?_ _) | ((with_reducible refine Kp.put ?_ ?_ _); focus (first | (left; go_size; done) | (right; simp; done))) | ((with_reducible apply Kp.later); (with_reducible assumption)))))
  have h8c0 := fun o => (hk8.cell _ o hCz0 (by simp)).trans (hCc0 o)
  have h8f0 := fun o => (hk8.froz _ o hCz0).trans (hCf0 o)
  have h8z0 := Nat.lt_of_lt_of_le hCz0 hk8.size
  have h8c1 := fun o => (hk8.cell _ o hCz1 (by simp)).trans (hCc1 o)
  have h8f1 := fun o => (hk8.froz _ o hCz1).trans (hCf1 o)
  have h8z1 := Nat.lt_of_lt_of_le hCz1 hk8.size
  have h8c2 := fun o => (hk8.cell _ o hCz2 (by simp)).trans (hCc2 o)
  have h8f2 := fun o => (hk8.froz _ o hCz2).trans (hCf2 o)
  have h8z2 := Nat.lt_of_lt_of_le hCz2 hk8.size
  have h8c3 := fun o => (hk8.cell _ o hCz3 (by simp)).trans (hCc3 o)
  have h8f3 := fun o => (hk8.froz _ o hCz3).trans (hCf3 o)
  have h8z3 := Nat.lt_of_lt_of_le hCz3 hk8.size
  go_wp2_with fail
  ((with_reducible refine (aw_int _).mono ?_); rintro e w9 ⟨rfl, hb9⟩)
  have hk9 : Kp C.heap.size [] C w9 := (by (repeat (first | (with_reducible assumption) | (with_reducible exact Kp.refl (Nat.le_refl _)) | (with_reducible refine Kp.drew ?_) | (with_reducible refine Kp.alloc ?_ _) | ((with_reducible refine Kp.put ?_ ?_ _); focus (first | (left; go_size; done) | (right; simp; done))) | ((with_reducible apply Kp.later); (with_reducible assumption)))))
  have h9c0 := fun o => (hk9.cell _ o hCz0 (by simp)).trans (hCc0 o)
  have h9f0 := fun o => (hk9.froz _ o hCz0).trans (hCf0 o)
  have h9z0 := Nat.lt_of_lt_of_le hCz0 hk9.size
  have h9c1 := fun o => (hk9.cell _ o hCz1 (by simp)).trans (hCc1 o)
  have h9f1 := fun o => (hk9.froz _ o hCz1).trans (hCf1 o)
  have h9z1 := Nat.lt_of_lt_of_le hCz1 hk9.size
  have h9c2 := fun o => (hk9.cell _ o hCz2 (by simp)).trans (hCc2 o)
  have h9f2 := fun o => (hk9.froz _ o hCz2).trans (hCf2 o)
  have h9z2 := Nat.lt_of_lt_of_le hCz2 hk9.size
  have h9c3 := fun o => (hk9.cell _ o hCz3 (by simp)).trans (hCc3 o)
  have h9f3 := fun o => (hk9.froz _ o hCz3).trans (hCf3 o)
  have h9z3 := Nat.lt_of_lt_of_le hCz3 hk9.size
  go_upto_region 5 with (fail)
  refine wp_world (fun x => (∀ o, x.cell? ⟨w3.heap.size, o, none⟩ = (#[.bool false, .int .u64 0, .int .u64 1, .int .u64 0, .int .u64 0] : Array Value)[o]?) ∧ (∀ o, x.cell? ⟨w6.heap.size, o, none⟩ = (#[.bool true, .int .u64 4, .int .u64 0, .int .u64 0, .int .u64 0] : Array Value)[o]?) ∧ (∀ o, x.cell? ⟨w6.heap.size + 1, o, none⟩ = (#[.bool false, .int .u64 1, .int .u64 0, .int .u64 0, .int .u64 0] : Array Value)[o]?) ∧ (∀ o, x.cell? ⟨w7.heap.size, o, none⟩ = (#[.bool false, .int .u64 0, .int .u64 1, .int .u64 0, .int .u64 0] : Array Value)[o]?) ∧ w3.heap.size < x.heap.size ∧ w6.heap.size < x.heap.size ∧ w6.heap.size + 1 < x.heap.size ∧ w7.heap.size < x.heap.size ∧ Below w.heap.size w x) ⟨fun o => by first | (simp [go_sem, h9c0, h9f0, h9z0, h9c1, h9f1, h9z1, h9c2, h9f2, h9z2, h9c3, h9f3, h9z3]; done) | (rcases o with _ | _ | _ | _ | _ | o <;> simp [go_sem, h9c0, h9f0, h9z0, h9c1, h9f1, h9z1, h9c2, h9f2, h9z2, h9c3, h9f3, h9z3]), fun o => by first | (simp [go_sem, h9c0, h9f0, h9z0, h9c1, h9f1, h9z1, h9c2, h9f2, h9z2, h9c3, h9f3, h9z3]; done) | (rcases o with _ | _ | _ | _ | _ | o <;> simp [go_sem, h9c0, h9f0, h9z0, h9c1, h9f1, h9z1, h9c2, h9f2, h9z2, h9c3, h9f3, h9z3]), fun o => by first | (simp [go_sem, h9c0, h9f0, h9z0, h9c1, h9f1, h9z1, h9c2, h9f2, h9z2, h9c3, h9f3, h9z3]; done) | (rcases o with _ | _ | _ | _ | _ | o <;> simp [go_sem, h9c0, h9f0, h9z0, h9c1, h9f1, h9z1, h9c2, h9f2, h9z2, h9c3, h9f3, h9z3]), fun o => by first | (simp [go_sem, h9c0, h9f0, h9z0, h9c1, h9f1, h9z1, h9c2, h9f2, h9z2, h9c3, h9f3, h9z3]; done) | (rcases o with _ | _ | _ | _ | _ | o <;> simp [go_sem, h9c0, h9f0, h9z0, h9c1, h9f1, h9z1, h9c2, h9f2, h9z2, h9c3, h9f3, h9z3]), by (first | omega | (simp [go_sem, h9c0, h9f0, h9z0, h9c1, h9f1, h9z1, h9c2, h9f2, h9z2, h9c3, h9f3, h9z3]; done) | (simp [go_sem, h9c0, h9f0, h9z0, h9c1, h9f1, h9z1, h9c2, h9f2, h9z2, h9c3, h9f3, h9z3]; omega)), by (first | omega | (simp [go_sem, h9c0, h9f0, h9z0, h9c1, h9f1, h9z1, h9c2, h9f2, h9z2, h9c3, h9f3, h9z3]; done) | (simp [go_sem, h9c0, h9f0, h9z0, h9c1, h9f1, h9z1, h9c2, h9f2, h9z2, h9c3, h9f3, h9z3]; omega)), by (first | omega | (simp [go_sem, h9c0, h9f0, h9z0, h9c1, h9f1, h9z1, h9c2, h9f2, h9z2, h9c3, h9f3, h9z3]; done) | (simp [go_sem, h9c0, h9f0, h9z0, h9c1, h9f1, h9z1, h9c2, h9f2, h9z2, h9c3, h9f3, h9z3]; omega)), by (first | omega | (simp [go_sem, h9c0, h9f0, h9z0, h9c1, h9f1, h9z1, h9c2, h9f2, h9z2, h9c3, h9f3, h9z3]; done) | (simp [go_sem, h9c0, h9f0, h9z0, h9c1, h9f1, h9z1, h9c2, h9f2, h9z2, h9c3, h9f3, h9z3]; omega)), by (repeat' (first | (with_reducible exact Below.refl _ _) | (with_reducible assumption) | (with_reducible refine below_alloc ?_ _) | (with_reducible refine Below.drew ?_) | (with_reducible refine Below.setCell ?_ ?_ _) | (with_reducible refine below_after ?_ (by assumption)) | go_size))⟩ ?_
  rintro W ⟨hWc0, hWc1, hWc2, hWc3, hWz0, hWz1, hWz2, hWz3, hWb⟩
  have hWK := Lib.hid (show ∀ x : World, Kp W.heap.size [] W x → ((∀ o, x.cell? ⟨w3.heap.size, o, none⟩ = (#[.bool false, .int .u64 0, .int .u64 1, .int .u64 0, .int .u64 0] : Array Value)[o]?) ∧ (∀ o, x.cell? ⟨w6.heap.size, o, none⟩ = (#[.bool true, .int .u64 4, .int .u64 0, .int .u64 0, .int .u64 0] : Array Value)[o]?) ∧ (∀ o, x.cell? ⟨w6.heap.size + 1, o, none⟩ = (#[.bool false, .int .u64 1, .int .u64 0, .int .u64 0, .int .u64 0] : Array Value)[o]?) ∧ (∀ o, x.cell? ⟨w7.heap.size, o, none⟩ = (#[.bool false, .int .u64 0, .int .u64 1, .int .u64 0, .int .u64 0] : Array Value)[o]?) ∧ w3.heap.size < x.heap.size ∧ w6.heap.size < x.heap.size ∧ w6.heap.size + 1 < x.heap.size ∧ w7.heap.size < x.heap.size ∧ W.heap.size ≤ x.heap.size) from fun x k => ⟨fun o => (k.cell _ o hWz0 (by first | (simp; done) | (simp; omega))).trans (hWc0 o), fun o => (k.cell _ o hWz1 (by first | (simp; done) | (simp; omega))).trans (hWc1 o), fun o => (k.cell _ o hWz2 (by first | (simp; done) | (simp; omega))).trans (hWc2 o), fun o => (k.cell _ o hWz3 (by first | (simp; done) | (simp; omega))).trans (hWc3 o), Nat.lt_of_lt_of_le hWz0 k.size, Nat.lt_of_lt_of_le hWz1 k.size, Nat.lt_of_lt_of_le hWz2 k.size, Nat.lt_of_lt_of_le hWz3 k.size, k.size⟩)
  go_region_held3 (fun x => (∀ o, x.cell? ⟨w3.heap.size, o, none⟩ = (#[.bool false, .int .u64 0, .int .u64 1, .int .u64 0, .int .u64 0] : Array Value)[o]?) ∧ (∀ o, x.cell? ⟨w6.heap.size, o, none⟩ = (#[.bool true, .int .u64 4, .int .u64 0, .int .u64 0, .int .u64 0] : Array Value)[o]?) ∧ (∀ o, x.cell? ⟨w6.heap.size + 1, o, none⟩ = (#[.bool false, .int .u64 1, .int .u64 0, .int .u64 0, .int .u64 0] : Array Value)[o]?) ∧ (∀ o, x.cell? ⟨w7.heap.size, o, none⟩ = (#[.bool false, .int .u64 0, .int .u64 1, .int .u64 0, .int .u64 0] : Array Value)[o]?) ∧ w3.heap.size < x.heap.size ∧ w6.heap.size < x.heap.size ∧ w6.heap.size + 1 < x.heap.size ∧ w7.heap.size < x.heap.size ∧ W.heap.size ≤ x.heap.size) ((refine hWK.out _ ?_; (repeat (first | (with_reducible assumption) | (with_reducible exact Kp.refl (Nat.le_refl _)) | (with_reducible refine Kp.drew ?_) | (with_reducible refine Kp.alloc ?_ _) | ((with_reducible refine Kp.put ?_ ?_ _); focus (first | (left; go_size; done) | (right; simp; done))) | ((with_reducible apply Kp.later); (with_reducible assumption)))))) ((first | (go_at_call 28; (with_reducible refine (Om4.out _).mono ?_); rintro e W_1 ⟨rfl, hbW_1⟩; have hkW_1 : Kp W.heap.size [] W W_1 := (by (repeat (first | (with_reducible assumption) | (with_reducible exact Kp.refl (Nat.le_refl _)) | (with_reducible refine Kp.drew ?_) | (with_reducible refine Kp.alloc ?_ _) | ((with_reducible refine Kp.put ?_ ?_ _); focus (first | (left; go_size; done) | (right; simp; done))) | ((with_reducible apply Kp.later); (with_reducible assumption)))))) | (go_at_call 28; (with_reducible refine (O1.out _).mono ?_); rintro e W_2 ⟨rfl, hbW_2⟩; have hkW_2 : Kp W.heap.size [] W W_2 := (by (repeat (first | (with_reducible assumption) | (with_reducible exact Kp.refl (Nat.le_refl _)) | (with_reducible refine Kp.drew ?_) | (with_reducible refine Kp.alloc ?_ _) | ((with_reducible refine Kp.put ?_ ?_ _); focus (first | (left; go_size; done) | (right; simp; done))) | ((with_reducible apply Kp.later); (with_reducible assumption)))))) | (go_at_call 28; (with_reducible refine (Om12.out _).mono ?_); rintro e W_3 ⟨rfl, hbW_3⟩; have hkW_3 : Kp W.heap.size [] W W_3 := (by (repeat (first | (with_reducible assumption) | (with_reducible exact Kp.refl (Nat.le_refl _)) | (with_reducible refine Kp.drew ?_) | (with_reducible refine Kp.alloc ?_ _) | ((with_reducible refine Kp.put ?_ ?_ _); focus (first | (left; go_size; done) | (right; simp; done))) | ((with_reducible apply Kp.later); (with_reducible assumption)))))) | (go_at_call 28; (with_reducible refine (O18.out _).mono ?_); rintro e W_4 ⟨rfl, hbW_4⟩; have hkW_4 : Kp W.heap.size [] W W_4 := (by (repeat (first | (with_reducible assumption) | (with_reducible exact Kp.refl (Nat.le_refl _)) | (with_reducible refine Kp.drew ?_) | (with_reducible refine Kp.alloc ?_ _) | ((with_reducible refine Kp.put ?_ ?_ _); focus (first | (left; go_size; done) | (right; simp; done))) | ((with_reducible apply Kp.later); (with_reducible assumption)))))) | (go_at_call 28; (with_reducible refine (O6.out _).mono ?_); rintro e W_5 ⟨rfl, hbW_5⟩; have hkW_5 : Kp W.heap.size [] W W_5 := (by (repeat (first | (with_reducible assumption) | (with_reducible exact Kp.refl (Nat.le_refl _)) | (with_reducible refine Kp.drew ?_) | (with_reducible refine Kp.alloc ?_ _) | ((with_reducible refine Kp.put ?_ ?_ _); focus (first | (left; go_size; done) | (right; simp; done))) | ((with_reducible apply Kp.later); (with_reducible assumption)))))) | (go_at_call 22; (with_reducible refine (aw_text _ ?_).mono ?_); (focus (refine HT.out.later ?_; (repeat (first | (with_reducible exact Below.refl _ _) | (with_reducible assumption) | (with_reducible refine below_alloc ?_ _) | (with_reducible refine Below.drew ?_) | ((with_reducible apply below_later); (with_reducible assumption)))))); rintro e W_6 ⟨rfl, hbW_6⟩; have hkW_6 : Kp W.heap.size [] W W_6 := (by (repeat (first | (with_reducible assumption) | (with_reducible exact Kp.refl (Nat.le_refl _)) | (with_reducible refine Kp.drew ?_) | (with_reducible refine Kp.alloc ?_ _) | ((with_reducible refine Kp.put ?_ ?_ _); focus (first | (left; go_size; done) | (right; simp; done))) | ((with_reducible apply Kp.later); (with_reducible assumption)))))) | (go_at_call 18; (with_reducible refine (aw_gcd _ ?_).mono ?_); (focus (refine HT.out.1.later ?_; (repeat (first | (with_reducible exact Below.refl _ _) | (with_reducible assumption) | (with_reducible refine below_alloc ?_ _) | (with_reducible refine Below.drew ?_) | ((with_reducible apply below_later); (with_reducible assumption)))))); rintro e W_7 ⟨rfl, hbW_7⟩; have hkW_7 : Kp W.heap.size [] W W_7 := (by (repeat (first | (with_reducible assumption) | (with_reducible exact Kp.refl (Nat.le_refl _)) | (with_reducible refine Kp.drew ?_) | (with_reducible refine Kp.alloc ?_ _) | ((with_reducible refine Kp.put ?_ ?_ _); focus (first | (left; go_size; done) | (right; simp; done))) | ((with_reducible apply Kp.later); (with_reducible assumption))))))))
  go_wp2
  go_ret
  exact ⟨rfl, by (repeat' (first | (with_reducible exact Below.refl _ _) | (with_reducible assumption) | (with_reducible refine below_alloc ?_ _) | (with_reducible refine Below.drew ?_) | (with_reducible refine Below.setCell ?_ ?_ _) | (with_reducible refine below_after ?_ (by assumption)) | go_size))⟩
end Go.Proofs.YtnbdccobfmlhbaaDoor
