/-
  What the reference's Of, Int, Valid, Neg and even return, for all inputs.
-/
import Derived.Test.YtnbdccobfmlhbaaDoorRefE
import Derived.Test.YtnbdccobfmlhbaaDoorWideD
namespace Go.Proofs.YtnbdccobfmlhbaaDoor
set_option linter.all false
open Go Go.RowKit Wd
set_option maxRecDepth 100000
theorem rof_neg (n : Int) (h : n < 0) (h' : -9223372036854775808 ≤ n) (w : World) :
    Calls Tryd.prog 29 #[.int .i64 n] w fun e w' => e = .returned (.agg #[.bool (zs (n)), .int .u64 (wd (Int.natAbs (n)) 0), .int .u64 (wd (Int.natAbs (n)) 1), .int .u64 (wd (Int.natAbs (n)) 2), .int .u64 (wd (Int.natAbs (n)) 3)]) ∧ Below w.heap.size w w' := by
  have hn : n.natAbs < 18446744073709551616 := by omega
  have e0 : wd n.natAbs 0 = -n := by rw [(wd_small hn).1]; omega
  have hz : zs n = true := by unfold zs; simpa using h
  rw [e0, (wd_small hn).2.1, (wd_small hn).2.2.1, (wd_small hn).2.2.2, hz]
  have hd : decide (n < 0) = true := by simpa using h
  have e1 : -(n + 1) + 1 = -n := by omega
  have e2 : IntKind.u64.wrap (IntKind.u64.wrap (-(n + 1)) + 1) = -n := by rw [IntKind.wrap_u64, IntKind.wrap_u64]; omega
  have g1 : 0 ≤ -(n + 1) := by omega
  have g2 : -(n + 1) ≤ 9223372036854775807 := by omega
  clear hn e0 hz
  go_enter Tryd.func29, Tryd.ntmps29
  go_wp2_with ((with_reducible show bodyPost _ _ _ _ _ _); refine bodyPost_ret (by simp [results, Tryd.results29, go_sem, ]; try rfl) rfl ?_; exact ⟨rfl, by (repeat' (first | (with_reducible exact Below.refl _ _) | (with_reducible assumption) | (with_reducible refine below_alloc ?_ _) | (with_reducible refine Below.drew ?_) | (with_reducible refine Below.setCell ?_ ?_ _) | (with_reducible refine below_after ?_ (by assumption)) | go_size))⟩)
theorem rof_pos (n : Int) (h : 0 ≤ n) (h' : n ≤ 9223372036854775807) (w : World) :
    Calls Tryd.prog 29 #[.int .i64 n] w fun e w' => e = .returned (.agg #[.bool (zs (n)), .int .u64 (wd (Int.natAbs (n)) 0), .int .u64 (wd (Int.natAbs (n)) 1), .int .u64 (wd (Int.natAbs (n)) 2), .int .u64 (wd (Int.natAbs (n)) 3)]) ∧ Below w.heap.size w w' := by
  have hn : n.natAbs < 18446744073709551616 := by omega
  have e0 : wd n.natAbs 0 = n := by rw [(wd_small hn).1]; omega
  have hz : zs n = false := by unfold zs; simpa using h
  rw [e0, (wd_small hn).2.1, (wd_small hn).2.2.1, (wd_small hn).2.2.2, hz]
  have hd : decide (n < 0) = false := by simpa using h
  clear hn e0 hz
  go_enter Tryd.func29, Tryd.ntmps29
  go_wp2_with ((with_reducible show bodyPost _ _ _ _ _ _); refine bodyPost_ret (by simp [results, Tryd.results29, go_sem, ]; try rfl) rfl ?_; exact ⟨rfl, by (repeat' (first | (with_reducible exact Below.refl _ _) | (with_reducible assumption) | (with_reducible refine below_alloc ?_ _) | (with_reducible refine Below.drew ?_) | (with_reducible refine Below.setCell ?_ ?_ _) | (with_reducible refine below_after ?_ (by assumption)) | go_size))⟩)
/-- Of: the integer. -/
theorem rof_any (n : Int) (h : -9223372036854775808 ≤ n) (h' : n ≤ 9223372036854775807) (w : World) :
    Calls Tryd.prog 29 #[.int .i64 n] w fun e w' => e = .returned (.agg #[.bool (zs (n)), .int .u64 (wd (Int.natAbs (n)) 0), .int .u64 (wd (Int.natAbs (n)) 1), .int .u64 (wd (Int.natAbs (n)) 2), .int .u64 (wd (Int.natAbs (n)) 3)]) ∧ Below w.heap.size w w' := by
  by_cases h0 : n < 0
  · exact rof_neg n h0 h w
  · exact rof_pos n (by omega) h' w
theorem rint_far1 (s : Bool) (x0 x1 x2 x3 : Int) (h : (x1 != 0) = true) (w : World) :
    Calls Tryd.prog 27 #[.agg #[.bool s, .int .u64 x0, .int .u64 x1, .int .u64 x2, .int .u64 x3]] w fun e w' => e = .returned (.tuple #[.int .i64 0, .bool false]) ∧ Below w.heap.size w w' := by
  go_enter Tryd.func27, Tryd.ntmps27
  go_wp2
  go_returns
  exact ⟨rfl, by go_grown⟩
theorem rint_far2 (s : Bool) (x0 x2 x3 : Int) (h : (x2 != 0) = true) (w : World) :
    Calls Tryd.prog 27 #[.agg #[.bool s, .int .u64 x0, .int .u64 0, .int .u64 x2, .int .u64 x3]] w fun e w' => e = .returned (.tuple #[.int .i64 0, .bool false]) ∧ Below w.heap.size w w' := by
  go_enter Tryd.func27, Tryd.ntmps27
  go_wp2
  go_returns
  exact ⟨rfl, by go_grown⟩
theorem rint_far3 (s : Bool) (x0 x3 : Int) (h : (x3 != 0) = true) (w : World) :
    Calls Tryd.prog 27 #[.agg #[.bool s, .int .u64 x0, .int .u64 0, .int .u64 0, .int .u64 x3]] w fun e w' => e = .returned (.tuple #[.int .i64 0, .bool false]) ∧ Below w.heap.size w w' := by
  go_enter Tryd.func27, Tryd.ntmps27
  go_wp2
  go_returns
  exact ⟨rfl, by go_grown⟩
theorem rint_pos (n : Int) (h0 : 0 ≤ n) (h1 : n < 9223372036854775808) (w : World) :
    Calls Tryd.prog 27 #[.agg #[.bool false, .int .u64 n, .int .u64 0, .int .u64 0, .int .u64 0]] w fun e w' => e = .returned (.tuple #[.int .i64 n, .bool true]) ∧ Below w.heap.size w w' := by
  have hd : decide (n < 9223372036854775808) = true := by simpa using h1
  go_enter Tryd.func27, Tryd.ntmps27
  go_wp2
  go_returns
  exact ⟨rfl, by go_grown⟩
theorem rint_neg (n : Int) (h0 : 0 ≤ n) (h1 : n < 9223372036854775808) (w : World) :
    Calls Tryd.prog 27 #[.agg #[.bool true, .int .u64 n, .int .u64 0, .int .u64 0, .int .u64 0]] w fun e w' => e = .returned (.tuple #[.int .i64 (-n), .bool true]) ∧ Below w.heap.size w w' := by
  have hd : decide (n < 9223372036854775808) = true := by simpa using h1
  go_enter Tryd.func27, Tryd.ntmps27
  go_wp2
  go_returns
  exact ⟨rfl, by go_grown⟩
theorem rint_edge (w : World) :
    Calls Tryd.prog 27 #[.agg #[.bool true, .int .u64 9223372036854775808, .int .u64 0, .int .u64 0, .int .u64 0]] w fun e w' => e = .returned (.tuple #[.int .i64 (-9223372036854775808), .bool true]) ∧ Below w.heap.size w w' := by
  go_enter Tryd.func27, Tryd.ntmps27
  go_wp2
  go_returns
  exact ⟨rfl, by go_grown⟩
theorem rint_over (s : Bool) (n : Int) (h1 : 9223372036854775808 ≤ n) (h2 : s = false ∨ (n == 9223372036854775808) = false) (w : World) :
    Calls Tryd.prog 27 #[.agg #[.bool s, .int .u64 n, .int .u64 0, .int .u64 0, .int .u64 0]] w fun e w' => e = .returned (.tuple #[.int .i64 0, .bool false]) ∧ Below w.heap.size w w' := by
  have hd : decide (n < 9223372036854775808) = false := by simpa using h1
  rcases h2 with rfl | h2
  · go_enter Tryd.func27, Tryd.ntmps27
    go_wp2
    go_returns
    exact ⟨rfl, by go_grown⟩
  · cases s
    all_goals
      go_enter Tryd.func27, Tryd.ntmps27
      go_wp2
      go_returns
      exact ⟨rfl, by go_grown⟩
/-- Int: the int with this value, if there is one. -/
theorem rint_any (s : Bool) (a : Nat) (ha : a < 2 ^ 256) (w : World) :
    Calls Tryd.prog 27 #[(.agg #[.bool (s), .int .u64 (wd (a) 0), .int .u64 (wd (a) 1), .int .u64 (wd (a) 2), .int .u64 (wd (a) 3)])] w fun e w' => e = .returned (.tuple #[.int .i64 (intVal (val s a)), .bool (intOk (val s a))]) ∧ Below w.heap.size w w' := by
  by_cases h : a < 18446744073709551616
  · have e := wd_small h
    rw [e.1, e.2.1, e.2.2.1, e.2.2.2]
    clear e
    cases s
    · by_cases h1 : a < 9223372036854775808
      · have r1 : intVal (val false a) = a := by unfold intVal val; rw [if_pos (by simp; omega)]; rfl
        have r2 : intOk (val false a) = true := by unfold intOk val; simp; omega
        rw [r1, r2]; exact rint_pos _ (by omega) (by omega) w
      · have r1 : intVal (val false a) = 0 := by unfold intVal val; rw [if_neg (by simp; omega)]
        have r2 : intOk (val false a) = false := by unfold intOk val; simp; omega
        rw [r1, r2]; exact rint_over _ _ (by omega) (Or.inl rfl) w
    · by_cases h1 : a < 9223372036854775808
      · have r1 : intVal (val true a) = -(a : Int) := by unfold intVal val; rw [if_pos (by simp; omega)]; simp
        have r2 : intOk (val true a) = true := by unfold intOk val; simp; omega
        rw [r1, r2]; exact rint_neg _ (by omega) (by omega) w
      · by_cases h2 : a = 9223372036854775808
        · subst h2
          have r1 : intVal (val true 9223372036854775808) = -9223372036854775808 := by unfold intVal val; simp
          have r2 : intOk (val true 9223372036854775808) = true := by unfold intOk val; simp
          rw [r1, r2]; exact rint_edge w
        · have r1 : intVal (val true a) = 0 := by unfold intVal val; rw [if_neg (by simp; omega)]
          have r2 : intOk (val true a) = false := by unfold intOk val; simp; omega
          rw [r1, r2]; exact rint_over _ _ (by omega) (Or.inr (by simp; omega)) w
  · have r1 : intVal (val s a) = 0 := by unfold intVal val; rw [if_neg (by cases s <;> simp <;> omega)]
    have r2 : intOk (val s a) = false := by unfold intOk val; cases s <;> simp <;> omega
    rw [r1, r2]
    have h1 : wd a 1 ≠ 0 ∨ wd a 2 ≠ 0 ∨ wd a 3 ≠ 0 := by
      have ha := lt256 a ha
      rw [wd1, wd2, wd3]; omega
    by_cases h2 : wd a 1 = 0
    · by_cases h3 : wd a 2 = 0
      · rw [h2, h3]; exact rint_far3 s _ _ (by simp; omega) w
      · rw [h2]; exact rint_far2 s _ _ _ (by simpa using h3) w
    · exact rint_far1 s _ _ _ _ (by simpa using h2) w
/-- Valid: whether the number is no negative zero. -/
theorem rvalid_any (s : Bool) (a : Nat) (ha : a < 2 ^ 256) (w : World) :
    Calls Tryd.prog 30 #[(.agg #[.bool (s), .int .u64 (wd (a) 0), .int .u64 (wd (a) 1), .int .u64 (wd (a) 2), .int .u64 (wd (a) 3)])] w fun e w' => e = .returned (.bool (!(s && eqN a 0))) ∧ Below w.heap.size w w' := by
  have K1 := Lib.hid (split_any true a)
  have K2 := Lib.hid (zero_any a ha)
  clear ha
  cases s
  · go_enter Tryd.func30, Tryd.ntmps30
    go_wp2
    go_returns
    exact ⟨rfl, by go_grown⟩
  · go_enter Tryd.func30, Tryd.ntmps30
    go_wp2_with fail
    ((with_reducible refine (K1.out _).mono ?_); rintro e w1 ⟨rfl, hb1⟩)
    obtain ⟨hc1, hf1⟩ := bcell hb1
    have hz1_w_0 : w.heap.size < w1.heap.size := by have h := hb1.size; (try simp at h); omega
    go_wp2_with fail
    ((with_reducible refine (K2.out _).mono ?_); rintro e w2 ⟨rfl, hb2⟩)
    obtain ⟨hc2, hf2⟩ := bcell hb2
    have hz2_w_0 : w.heap.size < w2.heap.size := by have h := hb2.size; (try simp at h); omega
    go_wp2
    go_returns
    exact ⟨by simp, by (repeat' (first | (with_reducible exact Below.refl _ _) | (with_reducible assumption) | (with_reducible refine below_alloc ?_ _) | (with_reducible refine Below.drew ?_) | (with_reducible refine Below.setCell ?_ ?_ _) | (with_reducible refine below_after ?_ (by assumption)) | go_size))⟩
/-- Neg: the opposite number. -/
theorem rneg_any (s : Bool) (a : Nat) (ha : a < 2 ^ 256) (w : World) :
    Calls Tryd.prog 32 #[(.agg #[.bool (s), .int .u64 (wd (a) 0), .int .u64 (wd (a) 1), .int .u64 (wd (a) 2), .int .u64 (wd (a) 3)])] w fun e w' => e = .returned (.agg #[.bool (zs (val (!s) a)), .int .u64 (wd (Int.natAbs (val (!s) a)) 0), .int .u64 (wd (Int.natAbs (val (!s) a)) 1), .int .u64 (wd (Int.natAbs (val (!s) a)) 2), .int .u64 (wd (Int.natAbs (val (!s) a)) 3)]) ∧ Below w.heap.size w w' := by
  have K1 := Lib.hid (split_any s a)
  have K2 := Lib.hid (join_any (!s) a ha)
  clear ha
  go_enter Tryd.func32, Tryd.ntmps32
  go_wp2_with fail
  refine wp_world (fun x => (∀ o, x.cell? ⟨w.heap.size, o, none⟩ = (#[.bool (s), .int .u64 (wd (a) 0), .int .u64 (wd (a) 1), .int .u64 (wd (a) 2), .int .u64 (wd (a) 3)] : Array Value)[o]?) ∧ (∀ o, x.cell? ⟨w.heap.size + 1, o, none⟩ = (#[.bool false, .int .u64 0, .int .u64 0, .int .u64 0, .int .u64 0] : Array Value)[o]?) ∧ (∀ o, x.frozen? ⟨w.heap.size + 1, o, none⟩ = false) ∧ w.heap.size < x.heap.size ∧ w.heap.size + 1 < x.heap.size ∧ Below w.heap.size w x) ⟨fun o => by first | (simp [go_sem]; done) | (rcases o with _ | _ | _ | _ | _ | o <;> simp [go_sem]), fun o => by first | (simp [go_sem]; done) | (rcases o with _ | _ | _ | _ | _ | o <;> simp [go_sem]), fun o => by simp [go_sem], by (first | omega | (simp [go_sem]; done) | (simp [go_sem]; omega)), by (first | omega | (simp [go_sem]; done) | (simp [go_sem]; omega)), by (repeat' (first | (with_reducible exact Below.refl _ _) | (with_reducible assumption) | (with_reducible refine below_alloc ?_ _) | (with_reducible refine Below.drew ?_) | (with_reducible refine Below.setCell ?_ ?_ _) | (with_reducible refine below_after ?_ (by assumption)) | go_size))⟩ ?_
  rintro W ⟨hWc0, hWc1, hWf0, hWz0, hWz1, hWb⟩
  have hWK := Lib.hid (show ∀ x : World, Kp W.heap.size [w.heap.size + 1] W x → ((∀ o, x.cell? ⟨w.heap.size, o, none⟩ = (#[.bool (s), .int .u64 (wd (a) 0), .int .u64 (wd (a) 1), .int .u64 (wd (a) 2), .int .u64 (wd (a) 3)] : Array Value)[o]?) ∧ (∀ o, x.frozen? ⟨w.heap.size + 1, o, none⟩ = false) ∧ w.heap.size < x.heap.size ∧ w.heap.size + 1 < x.heap.size ∧ W.heap.size ≤ x.heap.size) from fun x k => ⟨fun o => (k.cell _ o hWz0 (by first | (simp; done) | (simp; omega))).trans (hWc0 o), fun o => (k.froz _ o hWz1).trans (hWf0 o), Nat.lt_of_lt_of_le hWz0 k.size, Nat.lt_of_lt_of_le hWz1 k.size, k.size⟩)
  go_region_held3 (fun x => (∀ o, x.cell? ⟨w.heap.size, o, none⟩ = (#[.bool (s), .int .u64 (wd (a) 0), .int .u64 (wd (a) 1), .int .u64 (wd (a) 2), .int .u64 (wd (a) 3)] : Array Value)[o]?) ∧ (∀ o, x.frozen? ⟨w.heap.size + 1, o, none⟩ = false) ∧ w.heap.size < x.heap.size ∧ w.heap.size + 1 < x.heap.size ∧ W.heap.size ≤ x.heap.size) ((refine hWK.out _ ?_; (repeat (first | (with_reducible assumption) | (with_reducible exact Kp.refl (Nat.le_refl _)) | (with_reducible refine Kp.drew ?_) | (with_reducible refine Kp.alloc ?_ _) | ((with_reducible refine Kp.put ?_ ?_ _); focus (first | (left; go_size; done) | (right; simp; done))) | ((with_reducible apply Kp.later); (with_reducible assumption)))))) ((first | (go_at_call 43; (with_reducible refine (K1.out _).mono ?_); rintro e W_1 ⟨rfl, hbW_1⟩; have hkW_1 : Kp W.heap.size [] W W_1 := (by (repeat (first | (with_reducible assumption) | (with_reducible exact Kp.refl (Nat.le_refl _)) | (with_reducible refine Kp.drew ?_) | (with_reducible refine Kp.alloc ?_ _) | ((with_reducible refine Kp.put ?_ ?_ _); focus (first | (left; go_size; done) | (right; simp; done))) | ((with_reducible apply Kp.later); (with_reducible assumption))))); have hW_1c1 := fun o => (hkW_1.cell _ o hWz1 (by simp)).trans (hWc1 o); have hW_1f0 := fun o => (hkW_1.froz _ o hWz1).trans (hWf0 o); have hW_1z1 := Nat.lt_of_lt_of_le hWz1 hkW_1.size) | (go_at_call 44; (with_reducible refine (K2.out _).mono ?_); rintro e W_2 ⟨rfl, hbW_2⟩; have hkW_2 : Kp W.heap.size [] W W_2 := (by (repeat (first | (with_reducible assumption) | (with_reducible exact Kp.refl (Nat.le_refl _)) | (with_reducible refine Kp.drew ?_) | (with_reducible refine Kp.alloc ?_ _) | ((with_reducible refine Kp.put ?_ ?_ _); focus (first | (left; go_size; done) | (right; simp; done))) | ((with_reducible apply Kp.later); (with_reducible assumption))))); have hW_2c1 := fun o => (hkW_2.cell _ o hWz1 (by simp)).trans (hWc1 o); have hW_2f0 := fun o => (hkW_2.froz _ o hWz1).trans (hWf0 o); have hW_2z1 := Nat.lt_of_lt_of_le hWz1 hkW_2.size)))
  go_wp2_with ((with_reducible show bodyPost _ _ _ _ _ _); refine bodyPost_ret (by simp [results, Tryd.results32, go_sem, hW_2c1, hW_2z1]; try rfl) rfl ?_; exact ⟨rfl, by (repeat' (first | (with_reducible exact Below.refl _ _) | (with_reducible assumption) | (with_reducible refine below_alloc ?_ _) | (with_reducible refine Below.drew ?_) | (with_reducible refine Below.setCell ?_ ?_ _) | (with_reducible refine below_after ?_ (by assumption)) | go_size))⟩)
/-- even: whether a magnitude is even. -/
theorem even_any (a : Nat) (w : World) :
    Calls Tryd.prog 55 #[(.agg #[.int .u64 (hw (a) 0), .int .u64 (hw (a) 1), .int .u64 (hw (a) 2), .int .u64 (hw (a) 3), .int .u64 (hw (a) 4), .int .u64 (hw (a) 5), .int .u64 (hw (a) 6), .int .u64 (hw (a) 7)])] w fun e w' => e = .returned (.bool (eqN (a % 2) 0)) ∧ Below w.heap.size w w' := by
  have h : ((hw a 0).tmod 2 == 0) = eqN (a % 2) 0 := by
    rw [Int.tmod_eq_emod_of_nonneg (hw_lo a 0), hw0]
    unfold eqN
    rw [Bool.eq_iff_iff]
    simp only [beq_iff_eq, decide_eq_true_eq]
    omega
  have h' : (hw a 0 % 2 == 0) = eqN (a % 2) 0 := by rw [← h, Int.tmod_eq_emod_of_nonneg (hw_lo a 0)]
  go_enter Tryd.func55, Tryd.ntmps55
  go_wp2
  go_returns
  exact ⟨by simp [h], by go_grown⟩
end Go.Proofs.YtnbdccobfmlhbaaDoor
