/-
  The reference's natural numbers: gcd.
  Plain arithmetic of a division bit by bit over half-words; no program in sight.
  The reference's natural numbers: divide.
  The reference's fractions: wideOf, of a small number without a sign.
  (Written by wip/pack.py out of XFNatG, XFHDivM, XFNatV, XFNatW.)
-/
import Derived.Test.YthikaimhmpenhaaDoorK41
import Derived.Test.YthikaimhmpenhaaDoorK02
import Derived.Test.YthikaimhmpenhaaDoorK12

namespace Go.Proofs.YthikaimhmpenhaaDoor
set_option linter.all false
open Go Go.RowKit Wd
set_option maxRecDepth 100000
@[irreducible] def G1 (m n t a b : Nat) : Prop := t * a = m ∧ t * b = n ∧ 0 < t ∧ 0 < a ∧ 0 < b
theorem G1.start {m n : Nat} (hm : 0 < m) (hn : 0 < n) : G1 m n 1 m n := by unfold G1; simp [hm, hn]
theorem G1.next {m n t a b : Nat} (h : G1 m n t a b) (ha : a % 2 = 0) (hb : b % 2 = 0) : G1 m n (t + t) (a / 2) (b / 2) := by
  unfold G1 at *
  obtain ⟨h1, h2, h3, h4, h5⟩ := h
  refine ⟨?_, ?_, by omega, by omega, by omega⟩
  · have e : a = 2 * (a / 2) := by omega
    rw [← h1]; conv => rhs; rw [e]
    rw [← Nat.mul_assoc]; congr 1; omega
  · have e : b = 2 * (b / 2) := by omega
    rw [← h2]; conv => rhs; rw [e]
    rw [← Nat.mul_assoc]; congr 1; omega
theorem G1.lt {m n t a b : Nat} (h : G1 m n t a b) : t ≤ m ∧ a ≤ m ∧ b ≤ n ∧ 0 < a ∧ 0 < b := by
  unfold G1 at h
  obtain ⟨h1, h2, h3, h4, h5⟩ := h
  exact ⟨by rw [← h1]; exact Nat.le_mul_of_pos_right _ h4, by rw [← h1]; exact Nat.le_mul_of_pos_left _ h3, by rw [← h2]; exact Nat.le_mul_of_pos_left _ h3, h4, h5⟩
theorem G1.gcd {m n t a b : Nat} (h : G1 m n t a b) : t * Nat.gcd a b = Nat.gcd m n := by
  unfold G1 at h
  rw [← h.1, ← h.2.1, Nat.gcd_mul_left]
@[irreducible] def G2 (g M N a b : Nat) : Prop := Nat.gcd a b = g ∧ a ≤ M ∧ b ≤ N ∧ (a % 2 = 1 ∨ b % 2 = 1)
theorem G2.lt {g M N a b : Nat} (h : G2 g M N a b) : a ≤ M ∧ b ≤ N := by unfold G2 at h; exact ⟨h.2.1, h.2.2.1⟩
theorem ngcd_half {a b : Nat} (ha : a % 2 = 0) (hb : b % 2 = 1) : Nat.gcd (a / 2) b = Nat.gcd a b := by
  have e : a = 2 * (a / 2) := by omega
  have hc : Nat.Coprime 2 b := by
    unfold Nat.Coprime
    rw [Nat.gcd_rec, hb]; rfl
  conv => rhs; rw [e]
  exact (Nat.Coprime.gcd_mul_left_cancel (a / 2) hc).symm
theorem G2.halfA {g M N a b : Nat} (h : G2 g M N a b) (ha : a % 2 = 0) : G2 g M N (a / 2) b := by
  unfold G2 at *
  obtain ⟨h1, h2, h3, h4⟩ := h
  have hb : b % 2 = 1 := by omega
  exact ⟨by rw [ngcd_half ha hb]; exact h1, by omega, h3, Or.inr hb⟩
theorem G2.halfB {g M N a b : Nat} (h : G2 g M N a b) (ha : ¬ a % 2 = 0) (hb : b % 2 = 0) : G2 g M N a (b / 2) := by
  unfold G2 at *
  obtain ⟨h1, h2, h3, h4⟩ := h
  exact ⟨by rw [Nat.gcd_comm, ngcd_half hb (by omega), Nat.gcd_comm]; exact h1, h2, by omega, Or.inl (by omega)⟩
theorem G2.subA {g M N a b : Nat} (h : G2 g M N a b) (hb : ¬ b % 2 = 0) (hl : b ≤ a) : G2 g M N (a - b) b := by
  unfold G2 at *
  obtain ⟨h1, h2, h3, h4⟩ := h
  refine ⟨?_, by omega, h3, Or.inr (by omega)⟩
  rw [← h1]
  conv => rhs; rw [show a = (a - b) + b by omega]
  rw [Nat.gcd_add_self_left]
theorem G2.subB {g M N a b : Nat} (h : G2 g M N a b) (ha : ¬ a % 2 = 0) (hl : a ≤ b) : G2 g M N a (b - a) := by
  unfold G2 at *
  obtain ⟨h1, h2, h3, h4⟩ := h
  refine ⟨?_, h2, by omega, Or.inl (by omega)⟩
  rw [← h1]
  conv => rhs; rw [show b = (b - a) + a by omega]
  rw [Nat.gcd_add_self_right]
theorem G2.done {g M N a b : Nat} (h : G2 g M N a b) (h0 : a = 0 ∨ b = 0) : a + b = g := by
  unfold G2 at h
  rcases h0 with rfl | rfl <;> simpa using h.1
theorem G2.start {g a b : Nat} (hg : Nat.gcd a b = g) (h : ¬ (a % 2 = 0 ∧ b % 2 = 0)) : G2 g a b a b := by
  unfold G2
  exact ⟨hg, Nat.le_refl _, Nat.le_refl _, by omega⟩
theorem nl8 {n : Nat} (h : n < 2 ^ 200) : nl n ≤ 8 := nl_le.2 (Nat.lt_of_lt_of_le h (Nat.pow_le_pow_right (by omega) (show 200 ≤ 32 * 8 by omega)))
set_option maxHeartbeats 4000000 in
theorem ngcd_pos (m n c d : Nat) (a b : Option Addr) (hm0 : 0 < m) (hn0 : 0 < n) (hm : m < 2 ^ 90) (hn : n < 2 ^ 90) (w : World) (h : NatAt w a m (nl m)) (h' : NatAt w b n (nl n)) :
    Calls Tryd.prog 45 #[.slice a (nl m) c, .slice b (nl n) d] w fun e w' => ∃ a' c', e = .returned (.slice a' (nl (Nat.gcd m n)) c') ∧ NatAt w' a' (Nat.gcd m n) (nl (Nat.gcd m n)) ∧ Below w.heap.size w w' := by
  have P1 := Lib.hid (show ∀ v, Calls Tryd.prog 48 #[.int .u64 1] v fun e w' => ∃ a c, e = .returned (.slice a (nl 1) c) ∧ NatAt w' a 1 (nl 1) ∧ Below v.heap.size v w' ∧ (∀ p, a = some p → v.heap.size ≤ p.block) from fun v => nsmall_any 1 (by omega) v)
  have S1 := Lib.hid (G1.start hm0 hn0)
  have p0 := nl_pos hm0
  have q0 := nl_pos hn0
  have HA := Lib.hid h
  have HB := Lib.hid h'
  clear h h'
  have hx0 : ¬ (nl m : Int) = 0 := by omega
  have hy0 : ¬ (nl n : Int) = 0 := by omega
  have hx0' : ((nl m : Int) == 0) = false := by simp only [beq_eq_false_iff_ne]; omega
  have hy0' : ((nl n : Int) == 0) = false := by simp only [beq_eq_false_iff_ne]; omega
  go_enter Tryd.func45, Tryd.ntmps45
  go_wp2_with fail
  ((with_reducible refine (P1.out _).mono ?_); rintro e w2 ⟨a8, c8, rfl, hN8, hb8, -⟩)
  have A0 := Lib.hid (HA.out.later hb8)
  have B0 := Lib.hid (HB.out.later hb8)
  have T0 := Lib.hid hN8
  have HB0 := Lib.hid hb8
  clear hN8 hb8 P1 hx0 hy0 hx0' hy0' p0 q0
  go_wp2
  go_loopg [0, 1, 5] m (fun gg v0 v1 v5 wr => ∃ x y t a0 c0 a1 c1 a5 c5, x ≤ gg ∧ v0 = .slice a0 (nl x) c0 ∧ v1 = .slice a1 (nl y) c1 ∧ v5 = .slice a5 (nl t) c5 ∧ Hid (G1 m n t x y) ∧ Hid (NatAt wr a0 x (nl x)) ∧ Hid (NatAt wr a1 y (nl y)) ∧ Hid (NatAt wr a5 t (nl t)) ∧ Hid (Below w.heap.size w wr))
  case atStart => exact ⟨m, n, 1, a, c, b, d, a8, c8, Nat.le_refl _, rfl, rfl, rfl, S1, A0, B0, T0, HB0⟩
  case round =>
    obtain ⟨x, y, t, a0, c0, a1, c1, a5, c5, hgx, rfl, rfl, rfl, HG, H0, H1, H5, HW⟩ := hrel
    clear A0 B0 T0 HB0 S1 HA HB
    have hlt := HG.out.lt
    have hb0 := HW.out
    have E0 := Lib.hid (neven_any x c0 a0 (Nat.le_trans (nl8 (by omega)) (by omega)) wr H0.out)
    have E1 := Lib.hid (neven_any y c1 a1 (Nat.le_trans (nl8 (by omega)) (by omega)) wr H1.out)
    by_cases hev : x % 2 = 0 ∧ y % 2 = 0
    · rw [decide_eq_true hev.1] at E0
      rw [decide_eq_true hev.2] at E1
      have N1 := Lib.hid (HG.out.next hev.1 hev.2)
      have K0 := Lib.hid (nhalf_any x c0 a0 (by omega) wr H0.out)
      have K1 := Lib.hid (fun v h => nhalf_any y c1 a1 (by omega) v h)
      have K2 := Lib.hid (fun v h h2 => nplus_any t t c5 c5 a5 a5 (by omega) v h h2)
      clear HG
      go_wp2_with (first
        | (go_at_call 59; first
            | ((with_reducible refine E0.out.mono ?_); rintro e v1 ⟨rfl, rfl⟩)
            | ((with_reducible refine E1.out.mono ?_); rintro e v1 ⟨rfl, rfl⟩))
        | (go_at_call 60; first
            | ((with_reducible refine K0.out.mono ?_); rintro e w3 ⟨a3, c3, rfl, hN3, hb3⟩)
            | ((with_reducible refine (K1.out _ (H1.out.later hb3)).mono ?_); rintro e w4 ⟨a4, c4, rfl, hN4, hb4⟩))
        | (go_at_call 61; (with_reducible refine (K2.out _ ((H5.out.later hb3).later hb4) ((H5.out.later hb3).later hb4)).mono ?_); rintro e w6 ⟨a6, c6, rfl, hN6, hb6, -⟩))
      go_roundg (x / 2)
      case rel => exact ⟨x / 2, y / 2, t + t, a3, c3, a4, c4, a6, c6, Nat.le_refl _, rfl, rfl, rfl, N1, Lib.hid ((hN3.later hb4).later hb6), Lib.hid (hN4.later hb6), Lib.hid hN6, Lib.hid (by (repeat' first | (with_reducible first | exact Bq0 | assumption | refine Bq1 ?_ | refine Bq2 ?_ | refine Bq3 ?_ ?_ | refine Bq4 ?_ (by assumption)) | go_size))⟩
      case measure => omega
    · obtain ⟨W2, rfl⟩ : ∃ v, v = wr := ⟨_, rfl⟩
      obtain ⟨g, hg⟩ : ∃ g, g = Nat.gcd x y := ⟨_, rfl⟩
      have S2 := Lib.hid (G2.start hg.symm hev)
      have HEQ := Lib.hid (show t * g = Nat.gcd m n from by rw [hg]; exact HG.out.gcd)
      have hws := hb0.size
      have hgl : g ≤ x := by rw [hg]; exact Nat.le_of_dvd hlt.2.2.2.1 (Nat.gcd_dvd_left x y)
      have hx1 : (decide (x % 2 = 0) = false) ∨ (decide (x % 2 = 0) = true ∧ decide (y % 2 = 0) = false) := by
        by_cases h1 : x % 2 = 0
        · exact Or.inr ⟨decide_eq_true h1, decide_eq_false (fun h2 => hev ⟨h1, h2⟩)⟩
        · exact Or.inl (decide_eq_false h1)
      clear hg HG
      rcases hx1 with hx1 | ⟨hx1, hx2⟩
      · rw [hx1] at E0
        go_wp2_with (first
          | (go_at_call 59; (with_reducible refine E0.out.mono ?_); rintro e v1 ⟨rfl, he⟩; rw [he]; clear he v1))
        go_loopg [0, 1] (x + y) (fun gg v0 v1 wr => ∃ p q a0 c0 a1 c1, p + q ≤ gg ∧ v0 = .slice a0 (nl p) c0 ∧ v1 = .slice a1 (nl q) c1 ∧ Hid (G2 g x y p q) ∧ Hid (NatAt wr a0 p (nl p)) ∧ Hid (NatAt wr a1 q (nl q)) ∧ Hid (Below W2.heap.size W2 wr))
        case atStart => exact ⟨x, y, a0, c0, a1, c1, Nat.le_refl _, rfl, rfl, S2, H0, H1, Lib.hid (Below.refl _ _)⟩
        case round =>
          obtain ⟨p, q, a0, c0, a1, c1, hpq, rfl, rfl, HG2, H0, H1, HW2⟩ := hrel
          have hl2 := HG2.out.lt
          by_cases hp0 : p = 0
          · have HZ : p = 0 ∨ q = 0 := Or.inl hp0
            have t1 : ¬ (nl p : Int) > 0 := by rw [hp0, nl_zero]; omega
            clear S2 E0 E1 hx1 hev hp0
            have hsum := HG2.out.done HZ
            clear HZ
            have PP := Lib.hid (nplus_any p q c0 c1 a0 a1 (by omega) wr H0.out H1.out)
            have TM := Lib.hid (fun cA aA v h1 h2 => ntimes_any t (p + q) c5 cA a5 aA (nl8 (by omega)) (nl8 (by omega)) v h1 h2)
            rw [hsum, HEQ.out] at TM
            rw [hsum] at PP
            clear HG2
            go_wp2_with (first
              | (go_at_call 61; (with_reducible refine PP.out.mono ?_); rintro e w6 ⟨a6, c6, rfl, hN6, hb6, -⟩)
              | (go_at_call 64; (with_reducible refine (TM.out _ _ _ (H5.out.later (below_after HW2.out hb6)) hN6).mono ?_); rintro e w7 ⟨a7, c7, rfl, hN7, hb7⟩))
            have hfin := below_after (below_after (HW.out.trans (HW2.out.mono hws)) hb6) hb7
            go_returns
            exact ⟨_, _, rfl, hN7, by (repeat' first | (with_reducible first | exact Bq0 | assumption | refine Bq1 ?_ | refine Bq2 ?_ | refine Bq3 ?_ ?_ | refine Bq4 ?_ (by assumption)) | go_size)⟩
          · by_cases hq0 : q = 0
            · have HZ : p = 0 ∨ q = 0 := Or.inr hq0
              have t1 : (nl p : Int) > 0 := by have := nl_pos (Nat.pos_of_ne_zero hp0); omega
              have t2 : ¬ (nl q : Int) > 0 := by rw [hq0, nl_zero]; omega
              clear S2 E0 E1 hx1 hev hq0 hp0
              have hsum := HG2.out.done HZ
              clear HZ
              have PP := Lib.hid (nplus_any p q c0 c1 a0 a1 (by omega) wr H0.out H1.out)
              have TM := Lib.hid (fun cA aA v h1 h2 => ntimes_any t (p + q) c5 cA a5 aA (nl8 (by omega)) (nl8 (by omega)) v h1 h2)
              rw [hsum, HEQ.out] at TM
              rw [hsum] at PP
              clear HG2
              go_wp2_with (first
                | (go_at_call 61; (with_reducible refine PP.out.mono ?_); rintro e w6 ⟨a6, c6, rfl, hN6, hb6, -⟩)
                | (go_at_call 64; (with_reducible refine (TM.out _ _ _ (H5.out.later (below_after HW2.out hb6)) hN6).mono ?_); rintro e w7 ⟨a7, c7, rfl, hN7, hb7⟩))
              have hfin := below_after (below_after (HW.out.trans (HW2.out.mono hws)) hb6) hb7
              go_returns
              exact ⟨_, _, rfl, hN7, by (repeat' first | (with_reducible first | exact Bq0 | assumption | refine Bq1 ?_ | refine Bq2 ?_ | refine Bq3 ?_ ?_ | refine Bq4 ?_ (by assumption)) | go_size)⟩
            · have t1 : (nl p : Int) > 0 := by have := nl_pos (Nat.pos_of_ne_zero hp0); omega
              have t2 : (nl q : Int) > 0 := by have := nl_pos (Nat.pos_of_ne_zero hq0); omega
              have F0 := Lib.hid (neven_any p c0 a0 (Nat.le_trans (nl8 (by omega)) (by omega)) wr H0.out)
              have F1 := Lib.hid (neven_any q c1 a1 (Nat.le_trans (nl8 (by omega)) (by omega)) wr H1.out)
              have hbw := HW2.out
              clear S2 E0 E1 hx1 hev
              by_cases hpe : p % 2 = 0
              · rw [decide_eq_true hpe] at F0
                have N2 := Lib.hid (HG2.out.halfA hpe)
                have ZZ := Lib.hid (nhalf_any p c0 a0 (by omega) wr H0.out)
                go_wp2_with (first
                  | (go_at_call 59; first
                      | ((with_reducible refine F0.out.mono ?_); rintro e v1 ⟨rfl, rfl⟩)
                      | ((with_reducible refine F1.out.mono ?_); rintro e v1 ⟨rfl, rfl⟩))
                  | (go_at_call 62; (with_reducible refine CC.out.mono ?_); rintro e v2 ⟨rfl, hbc⟩)
                  | (go_at_call 60; (with_reducible refine ZZ.out.mono ?_); rintro e w6 ⟨a6, c6, rfl, hN6, hb6⟩)
                  | (go_at_call 63; (with_reducible refine (ZZ.out _ hbc).mono ?_); rintro e w6 ⟨a6, c6, rfl, hN6, hb6, -⟩))
                go_roundg (p / 2 + q)
                case rel => exact ⟨p / 2, q, a6, c6, a1, c1, Nat.le_refl _, rfl, rfl, N2, Lib.hid hN6, Lib.hid (H1.out.later hb6), Lib.hid (by (repeat' first | (with_reducible first | exact Bq0 | assumption | refine Bq1 ?_ | refine Bq2 ?_ | refine Bq3 ?_ ?_ | refine Bq4 ?_ (by assumption)) | go_size))⟩
                case measure => omega
              · rw [decide_eq_false hpe] at F0
                by_cases hqe : q % 2 = 0
                · rw [decide_eq_true hqe] at F1
                  have N2 := Lib.hid (HG2.out.halfB hpe hqe)
                  have ZZ := Lib.hid (nhalf_any q c1 a1 (by omega) wr H1.out)
                  go_wp2_with (first
                    | (go_at_call 59; first
                        | ((with_reducible refine F0.out.mono ?_); rintro e v1 ⟨rfl, rfl⟩)
                        | ((with_reducible refine F1.out.mono ?_); rintro e v1 ⟨rfl, rfl⟩))
                    | (go_at_call 62; (with_reducible refine CC.out.mono ?_); rintro e v2 ⟨rfl, hbc⟩)
                    | (go_at_call 60; (with_reducible refine ZZ.out.mono ?_); rintro e w6 ⟨a6, c6, rfl, hN6, hb6⟩)
                    | (go_at_call 63; (with_reducible refine (ZZ.out _ hbc).mono ?_); rintro e w6 ⟨a6, c6, rfl, hN6, hb6, -⟩))
                  go_roundg (p + q / 2)
                  case rel => exact ⟨p, q / 2, a0, c0, a6, c6, Nat.le_refl _, rfl, rfl, N2, Lib.hid (H0.out.later hb6), Lib.hid hN6, Lib.hid (by (repeat' first | (with_reducible first | exact Bq0 | assumption | refine Bq1 ?_ | refine Bq2 ?_ | refine Bq3 ?_ ?_ | refine Bq4 ?_ (by assumption)) | go_size))⟩
                  case measure => omega
                · rw [decide_eq_false hqe] at F1
                  have CC := Lib.hid (ncompare_any p q c0 c1 a0 a1 (Nat.le_trans (nl8 (by omega)) (by omega)) (Nat.le_trans (nl8 (by omega)) (by omega)) wr H0.out H1.out)
                  rcases Nat.lt_or_ge p q with hcmp | hcmp
                  · have hcv : cmpN p q < 0 := by unfold cmpN; rw [if_pos hcmp]; omega
                    have N2 := Lib.hid (HG2.out.subB hpe (Nat.le_of_lt hcmp))
                    have ZZ := Lib.hid (fun v (h : Below wr.heap.size wr v) => nminus_any q p c1 c0 a1 a0 (Nat.le_of_lt hcmp) (by omega) v (H1.out.later h) (H0.out.later h))
                    generalize cmpN p q = cc at *
                    go_wp2_with (first
                      | (go_at_call 59; first
                          | ((with_reducible refine F0.out.mono ?_); rintro e v1 ⟨rfl, rfl⟩)
                          | ((with_reducible refine F1.out.mono ?_); rintro e v1 ⟨rfl, rfl⟩))
                      | (go_at_call 62; (with_reducible refine CC.out.mono ?_); rintro e v2 ⟨rfl, hbc⟩)
                      | (go_at_call 60; (with_reducible refine ZZ.out.mono ?_); rintro e w6 ⟨a6, c6, rfl, hN6, hb6⟩)
                      | (go_at_call 63; (with_reducible refine (ZZ.out _ hbc).mono ?_); rintro e w6 ⟨a6, c6, rfl, hN6, hb6, -⟩))
                    go_roundg (p + (q - p))
                    case rel => exact ⟨p, q - p, a0, c0, a6, c6, Nat.le_refl _, rfl, rfl, N2, Lib.hid ((H0.out.later hbc).later hb6), Lib.hid hN6, Lib.hid (by (repeat' first | (with_reducible first | exact Bq0 | assumption | refine Bq1 ?_ | refine Bq2 ?_ | refine Bq3 ?_ ?_ | refine Bq4 ?_ (by assumption)) | go_size))⟩
                    case measure => omega
                  · have hcv : 0 ≤ cmpN p q := by unfold cmpN; rw [if_neg (by omega)]; split <;> omega
                    have N2 := Lib.hid (HG2.out.subA hqe hcmp)
                    have ZZ := Lib.hid (fun v (h : Below wr.heap.size wr v) => nminus_any p q c0 c1 a0 a1 hcmp (by omega) v (H0.out.later h) (H1.out.later h))
                    generalize cmpN p q = cc at *
                    go_wp2_with (first
                      | (go_at_call 59; first
                          | ((with_reducible refine F0.out.mono ?_); rintro e v1 ⟨rfl, rfl⟩)
                          | ((with_reducible refine F1.out.mono ?_); rintro e v1 ⟨rfl, rfl⟩))
                      | (go_at_call 62; (with_reducible refine CC.out.mono ?_); rintro e v2 ⟨rfl, hbc⟩)
                      | (go_at_call 60; (with_reducible refine ZZ.out.mono ?_); rintro e w6 ⟨a6, c6, rfl, hN6, hb6⟩)
                      | (go_at_call 63; (with_reducible refine (ZZ.out _ hbc).mono ?_); rintro e w6 ⟨a6, c6, rfl, hN6, hb6, -⟩))
                    go_roundg (p - q + q)
                    case rel => exact ⟨p - q, q, a6, c6, a1, c1, Nat.le_refl _, rfl, rfl, N2, Lib.hid hN6, Lib.hid ((H1.out.later hbc).later hb6), Lib.hid (by (repeat' first | (with_reducible first | exact Bq0 | assumption | refine Bq1 ?_ | refine Bq2 ?_ | refine Bq3 ?_ ?_ | refine Bq4 ?_ (by assumption)) | go_size))⟩
                    case measure => omega
      · rw [hx1] at E0
        rw [hx2] at E1
        go_wp2_with (first
          | (go_at_call 59; first
              | ((with_reducible refine E0.out.mono ?_); rintro e v1 ⟨rfl, he⟩; rw [he]; clear he v1)
              | ((with_reducible refine E1.out.mono ?_); rintro e v1 ⟨rfl, he⟩; rw [he]; clear he v1)))
        go_loopg [0, 1] (x + y) (fun gg v0 v1 wr => ∃ p q a0 c0 a1 c1, p + q ≤ gg ∧ v0 = .slice a0 (nl p) c0 ∧ v1 = .slice a1 (nl q) c1 ∧ Hid (G2 g x y p q) ∧ Hid (NatAt wr a0 p (nl p)) ∧ Hid (NatAt wr a1 q (nl q)) ∧ Hid (Below W2.heap.size W2 wr))
        case atStart => exact ⟨x, y, a0, c0, a1, c1, Nat.le_refl _, rfl, rfl, S2, H0, H1, Lib.hid (Below.refl _ _)⟩
        case round =>
          obtain ⟨p, q, a0, c0, a1, c1, hpq, rfl, rfl, HG2, H0, H1, HW2⟩ := hrel
          have hl2 := HG2.out.lt
          by_cases hp0 : p = 0
          · have HZ : p = 0 ∨ q = 0 := Or.inl hp0
            have t1 : ¬ (nl p : Int) > 0 := by rw [hp0, nl_zero]; omega
            clear S2 E0 E1 hx1 hev hp0
            have hsum := HG2.out.done HZ
            clear HZ
            have PP := Lib.hid (nplus_any p q c0 c1 a0 a1 (by omega) wr H0.out H1.out)
            have TM := Lib.hid (fun cA aA v h1 h2 => ntimes_any t (p + q) c5 cA a5 aA (nl8 (by omega)) (nl8 (by omega)) v h1 h2)
            rw [hsum, HEQ.out] at TM
            rw [hsum] at PP
            clear HG2
            go_wp2_with (first
              | (go_at_call 61; (with_reducible refine PP.out.mono ?_); rintro e w6 ⟨a6, c6, rfl, hN6, hb6, -⟩)
              | (go_at_call 64; (with_reducible refine (TM.out _ _ _ (H5.out.later (below_after HW2.out hb6)) hN6).mono ?_); rintro e w7 ⟨a7, c7, rfl, hN7, hb7⟩))
            have hfin := below_after (below_after (HW.out.trans (HW2.out.mono hws)) hb6) hb7
            go_returns
            exact ⟨_, _, rfl, hN7, by (repeat' first | (with_reducible first | exact Bq0 | assumption | refine Bq1 ?_ | refine Bq2 ?_ | refine Bq3 ?_ ?_ | refine Bq4 ?_ (by assumption)) | go_size)⟩
          · by_cases hq0 : q = 0
            · have HZ : p = 0 ∨ q = 0 := Or.inr hq0
              have t1 : (nl p : Int) > 0 := by have := nl_pos (Nat.pos_of_ne_zero hp0); omega
              have t2 : ¬ (nl q : Int) > 0 := by rw [hq0, nl_zero]; omega
              clear S2 E0 E1 hx1 hev hq0 hp0
              have hsum := HG2.out.done HZ
              clear HZ
              have PP := Lib.hid (nplus_any p q c0 c1 a0 a1 (by omega) wr H0.out H1.out)
              have TM := Lib.hid (fun cA aA v h1 h2 => ntimes_any t (p + q) c5 cA a5 aA (nl8 (by omega)) (nl8 (by omega)) v h1 h2)
              rw [hsum, HEQ.out] at TM
              rw [hsum] at PP
              clear HG2
              go_wp2_with (first
                | (go_at_call 61; (with_reducible refine PP.out.mono ?_); rintro e w6 ⟨a6, c6, rfl, hN6, hb6, -⟩)
                | (go_at_call 64; (with_reducible refine (TM.out _ _ _ (H5.out.later (below_after HW2.out hb6)) hN6).mono ?_); rintro e w7 ⟨a7, c7, rfl, hN7, hb7⟩))
              have hfin := below_after (below_after (HW.out.trans (HW2.out.mono hws)) hb6) hb7
              go_returns
              exact ⟨_, _, rfl, hN7, by (repeat' first | (with_reducible first | exact Bq0 | assumption | refine Bq1 ?_ | refine Bq2 ?_ | refine Bq3 ?_ ?_ | refine Bq4 ?_ (by assumption)) | go_size)⟩
            · have t1 : (nl p : Int) > 0 := by have := nl_pos (Nat.pos_of_ne_zero hp0); omega
              have t2 : (nl q : Int) > 0 := by have := nl_pos (Nat.pos_of_ne_zero hq0); omega
              have F0 := Lib.hid (neven_any p c0 a0 (Nat.le_trans (nl8 (by omega)) (by omega)) wr H0.out)
              have F1 := Lib.hid (neven_any q c1 a1 (Nat.le_trans (nl8 (by omega)) (by omega)) wr H1.out)
              have hbw := HW2.out
              clear S2 E0 E1 hx1 hev
              by_cases hpe : p % 2 = 0
              · rw [decide_eq_true hpe] at F0
                have N2 := Lib.hid (HG2.out.halfA hpe)
                have ZZ := Lib.hid (nhalf_any p c0 a0 (by omega) wr H0.out)
                go_wp2_with (first
                  | (go_at_call 59; first
                      | ((with_reducible refine F0.out.mono ?_); rintro e v1 ⟨rfl, rfl⟩)
                      | ((with_reducible refine F1.out.mono ?_); rintro e v1 ⟨rfl, rfl⟩))
                  | (go_at_call 62; (with_reducible refine CC.out.mono ?_); rintro e v2 ⟨rfl, hbc⟩)
                  | (go_at_call 60; (with_reducible refine ZZ.out.mono ?_); rintro e w6 ⟨a6, c6, rfl, hN6, hb6⟩)
                  | (go_at_call 63; (with_reducible refine (ZZ.out _ hbc).mono ?_); rintro e w6 ⟨a6, c6, rfl, hN6, hb6, -⟩))
                go_roundg (p / 2 + q)
                case rel => exact ⟨p / 2, q, a6, c6, a1, c1, Nat.le_refl _, rfl, rfl, N2, Lib.hid hN6, Lib.hid (H1.out.later hb6), Lib.hid (by (repeat' first | (with_reducible first | exact Bq0 | assumption | refine Bq1 ?_ | refine Bq2 ?_ | refine Bq3 ?_ ?_ | refine Bq4 ?_ (by assumption)) | go_size))⟩
                case measure => omega
              · rw [decide_eq_false hpe] at F0
                by_cases hqe : q % 2 = 0
                · rw [decide_eq_true hqe] at F1
                  have N2 := Lib.hid (HG2.out.halfB hpe hqe)
                  have ZZ := Lib.hid (nhalf_any q c1 a1 (by omega) wr H1.out)
                  go_wp2_with (first
                    | (go_at_call 59; first
                        | ((with_reducible refine F0.out.mono ?_); rintro e v1 ⟨rfl, rfl⟩)
                        | ((with_reducible refine F1.out.mono ?_); rintro e v1 ⟨rfl, rfl⟩))
                    | (go_at_call 62; (with_reducible refine CC.out.mono ?_); rintro e v2 ⟨rfl, hbc⟩)
                    | (go_at_call 60; (with_reducible refine ZZ.out.mono ?_); rintro e w6 ⟨a6, c6, rfl, hN6, hb6⟩)
                    | (go_at_call 63; (with_reducible refine (ZZ.out _ hbc).mono ?_); rintro e w6 ⟨a6, c6, rfl, hN6, hb6, -⟩))
                  go_roundg (p + q / 2)
                  case rel => exact ⟨p, q / 2, a0, c0, a6, c6, Nat.le_refl _, rfl, rfl, N2, Lib.hid (H0.out.later hb6), Lib.hid hN6, Lib.hid (by (repeat' first | (with_reducible first | exact Bq0 | assumption | refine Bq1 ?_ | refine Bq2 ?_ | refine Bq3 ?_ ?_ | refine Bq4 ?_ (by assumption)) | go_size))⟩
                  case measure => omega
                · rw [decide_eq_false hqe] at F1
                  have CC := Lib.hid (ncompare_any p q c0 c1 a0 a1 (Nat.le_trans (nl8 (by omega)) (by omega)) (Nat.le_trans (nl8 (by omega)) (by omega)) wr H0.out H1.out)
                  rcases Nat.lt_or_ge p q with hcmp | hcmp
                  · have hcv : cmpN p q < 0 := by unfold cmpN; rw [if_pos hcmp]; omega
                    have N2 := Lib.hid (HG2.out.subB hpe (Nat.le_of_lt hcmp))
                    have ZZ := Lib.hid (fun v (h : Below wr.heap.size wr v) => nminus_any q p c1 c0 a1 a0 (Nat.le_of_lt hcmp) (by omega) v (H1.out.later h) (H0.out.later h))
                    generalize cmpN p q = cc at *
                    go_wp2_with (first
                      | (go_at_call 59; first
                          | ((with_reducible refine F0.out.mono ?_); rintro e v1 ⟨rfl, rfl⟩)
                          | ((with_reducible refine F1.out.mono ?_); rintro e v1 ⟨rfl, rfl⟩))
                      | (go_at_call 62; (with_reducible refine CC.out.mono ?_); rintro e v2 ⟨rfl, hbc⟩)
                      | (go_at_call 60; (with_reducible refine ZZ.out.mono ?_); rintro e w6 ⟨a6, c6, rfl, hN6, hb6⟩)
                      | (go_at_call 63; (with_reducible refine (ZZ.out _ hbc).mono ?_); rintro e w6 ⟨a6, c6, rfl, hN6, hb6, -⟩))
                    go_roundg (p + (q - p))
                    case rel => exact ⟨p, q - p, a0, c0, a6, c6, Nat.le_refl _, rfl, rfl, N2, Lib.hid ((H0.out.later hbc).later hb6), Lib.hid hN6, Lib.hid (by (repeat' first | (with_reducible first | exact Bq0 | assumption | refine Bq1 ?_ | refine Bq2 ?_ | refine Bq3 ?_ ?_ | refine Bq4 ?_ (by assumption)) | go_size))⟩
                    case measure => omega
                  · have hcv : 0 ≤ cmpN p q := by unfold cmpN; rw [if_neg (by omega)]; split <;> omega
                    have N2 := Lib.hid (HG2.out.subA hqe hcmp)
                    have ZZ := Lib.hid (fun v (h : Below wr.heap.size wr v) => nminus_any p q c0 c1 a0 a1 hcmp (by omega) v (H0.out.later h) (H1.out.later h))
                    generalize cmpN p q = cc at *
                    go_wp2_with (first
                      | (go_at_call 59; first
                          | ((with_reducible refine F0.out.mono ?_); rintro e v1 ⟨rfl, rfl⟩)
                          | ((with_reducible refine F1.out.mono ?_); rintro e v1 ⟨rfl, rfl⟩))
                      | (go_at_call 62; (with_reducible refine CC.out.mono ?_); rintro e v2 ⟨rfl, hbc⟩)
                      | (go_at_call 60; (with_reducible refine ZZ.out.mono ?_); rintro e w6 ⟨a6, c6, rfl, hN6, hb6⟩)
                      | (go_at_call 63; (with_reducible refine (ZZ.out _ hbc).mono ?_); rintro e w6 ⟨a6, c6, rfl, hN6, hb6, -⟩))
                    go_roundg (p - q + q)
                    case rel => exact ⟨p - q, q, a6, c6, a1, c1, Nat.le_refl _, rfl, rfl, N2, Lib.hid hN6, Lib.hid ((H1.out.later hbc).later hb6), Lib.hid (by (repeat' first | (with_reducible first | exact Bq0 | assumption | refine Bq1 ?_ | refine Bq2 ?_ | refine Bq3 ?_ ?_ | refine Bq4 ?_ (by assumption)) | go_size))⟩
                    case measure => omega
end Go.Proofs.YthikaimhmpenhaaDoor

namespace Go.Proofs.YthikaimhmpenhaaDoor.Wd
set_option linter.all false
theorem hset_bit {Q n h : Nat} (hQ : Q = h * 2 ^ (n + 1)) : seth Q (n / 32) (hn Q (n / 32) + 2 ^ (n % 32)) = Q + 2 ^ n ∧ hn Q (n / 32) + 2 ^ (n % 32) < 4294967296 := by
  have hm : n % 32 < 32 := Nat.mod_lt _ (by omega)
  have hn : n = 32 * (n / 32) + n % 32 := (Nat.div_add_mod n 32).symm
  generalize n % 32 = m at *
  generalize n / 32 = q at *
  subst hn
  have hw : hn Q q = 2 ^ (m + 1) * (h % 2 ^ (31 - m)) := by
    unfold hn
    rw [hQ, show 32 * q + m + 1 = (m + 1) + 32 * q by omega, Nat.pow_add, ← Nat.mul_assoc, Nat.mul_div_cancel _ (Nat.pow_pos (by omega))]
    have e : 4294967296 = 2 ^ (m + 1) * 2 ^ (31 - m) := by rw [← Nat.pow_add, show m + 1 + (31 - m) = 32 by omega]
    rw [e, Nat.mul_comm h, Nat.mul_mod_mul_left]
  have hp := Nat.pow_pos (n := m) (by omega : 0 < 2)
  have hl : hn Q q + 2 ^ m < 4294967296 := by
    have h1 : h % 2 ^ (31 - m) + 1 ≤ 2 ^ (31 - m) := Nat.mod_lt _ (Nat.pow_pos (by omega))
    have h2 := Nat.mul_le_mul_left (2 ^ (m + 1)) h1
    rw [Nat.mul_add, Nat.mul_one, ← Nat.pow_add, show m + 1 + (31 - m) = 32 by omega] at h2
    rw [hw]
    have h3 : 2 ^ (m + 1) = 2 * 2 ^ m := by rw [Nat.pow_succ]; omega
    have h4 : (2 : Nat) ^ 32 = 4294967296 := rfl
    omega
  refine ⟨?_, hl⟩
  · have hs := hsplit_at Q q
    conv => rhs; rw [hs]
    unfold seth
    rw [Nat.pow_add]
    generalize Q / 2 ^ (32 * q) / 4294967296 = H
    generalize Q % 2 ^ (32 * q) = L
    generalize 2 ^ (32 * q) = p
    generalize 2 ^ m = y
    generalize hn Q q = x
    have e : p * (x + y + 4294967296 * H) = p * (x + 4294967296 * H) + p * y := by
      rw [← Nat.mul_add]; exact congrArg (p * ·) (by omega)
    rw [e]; omega
theorem DivInv.hbit {a b n Q R : Nat} (h : DivInv a b (n + 1) Q R) : seth Q (n / 32) (hn Q (n / 32) + 2 ^ (n % 32)) = Q + 2 ^ n ∧ hn Q (n / 32) + 2 ^ (n % 32) < 4294967296 := by
  unfold DivInv at h
  exact hset_bit h.1
theorem hbit_at (a n : Nat) : hn a (n / 32) / 2 ^ (n % 32) % 2 = bitN a n := by
  unfold bitN hn
  have hm : n % 32 < 32 := Nat.mod_lt _ (by omega)
  have hn : n = 32 * (n / 32) + n % 32 := (Nat.div_add_mod n 32).symm
  generalize n % 32 = m at *
  generalize n / 32 = q at *
  subst hn
  rw [Nat.pow_add, ← Nat.div_div_eq_div_mul]
  generalize a / 2 ^ (32 * q) = x
  have e2 : 4294967296 = 2 ^ m * (2 * 2 ^ (31 - m)) := by
    rw [← Nat.mul_assoc, Nat.mul_comm (2 ^ m) 2, Nat.mul_assoc, ← Nat.pow_add, show m + (31 - m) = 31 by omega]
  rw [e2, Nat.mod_mul_right_div_self, Nat.mod_mul_right_mod]
end Go.Proofs.YthikaimhmpenhaaDoor.Wd

namespace Go.Proofs.YthikaimhmpenhaaDoor
set_option linter.all false
open Go Go.RowKit Wd
set_option maxRecDepth 100000
theorem ndiv_start {a b x : Nat} (ha : a < 2 ^ (32 * x)) : DivInv a b (32 * x) 0 0 := by
  unfold DivInv
  rw [Nat.div_eq_of_lt ha]; simp
theorem Outd.later {w x : World} {B T K : Nat} (h : Outd w B T K) (hb : Below w.heap.size w x) : Outd x B T K :=
  ⟨fun j hj => (hb.cell (p := ⟨B, j, none⟩) h.lt).trans (h.cell j hj), fun o => (hb.frozen (p := ⟨B, o, none⟩) h.lt).trans (h.froz o), keep_lt hb h.lt⟩
theorem nbit_and (m t : Nat) : bits .and .u32 ((hn m (t / 32) : Int) / 2 ^ (t % 32)) 1 = (bitN m t : Int) := by
  have hl := hn_lt m (t / 32)
  have e : ((hn m (t / 32) : Int) / 2 ^ (t % 32)) = ((hn m (t / 32) / 2 ^ (t % 32) : Nat) : Int) := by rw [Int.natCast_ediv]; simp
  have hd : hn m (t / 32) / 2 ^ (t % 32) < 4294967296 := Nat.lt_of_le_of_lt (Nat.div_le_self _ _) hl
  rw [e, show (1 : Int) = ((1 : Nat) : Int) from rfl, u32_and_nat _ _ hd (by omega), ← hbit_at m t, nat_mask1]
theorem nbit_or {a b n Q R : Nat} (h : DivInv a b (n + 1) Q R) : bits .or .u32 (hn Q (n / 32) : Int) ((2 : Int) ^ (n % 32) % 4294967296) = ((hn Q (n / 32) + 2 ^ (n % 32) : Nat) : Int) := by
  have hs := h.hbit.2
  unfold DivInv at h
  have h1 := h.1
  generalize a / 2 ^ (n + 1) / b = g at h1
  have hj : n % 32 < 32 := Nat.mod_lt _ (by omega)
  have e : hn Q (n / 32) % 2 ^ (n % 32 + 1) = 0 := by
    unfold hn
    have e3 : Q / 2 ^ (32 * (n / 32)) = g * 2 ^ (n % 32 + 1) := by
      rw [h1]
      conv => lhs; lhs; rw [show n + 1 = 32 * (n / 32) + (n % 32 + 1) by omega]
      rw [Nat.pow_add, ← Nat.mul_assoc, Nat.mul_right_comm, Nat.mul_div_cancel _ (Nat.pow_pos (by omega))]
    rw [e3]
    have e4 : 4294967296 = 2 ^ (n % 32 + 1) * 2 ^ (31 - n % 32) := by rw [← Nat.pow_add, show n % 32 + 1 + (31 - n % 32) = 32 by omega]
    rw [e4, Nat.mod_mul_right_mod, Nat.mul_mod_left]
  have hlt : 2 ^ (n % 32) < 2 ^ (n % 32 + 1) := Nat.pow_lt_pow_right (by omega) (by omega)
  have ec : (2 : Int) ^ (n % 32) % 4294967296 = ((2 ^ (n % 32) : Nat) : Int) := by
    have e5 : (2 : Int) ^ (n % 32) = ((2 ^ (n % 32) : Nat) : Int) := by simp
    rw [e5]
    omega
  rw [ec, u32_or_nat _ _ (hn_lt _ _) (by omega), nat_join (n % 32 + 1) _ _ e hlt]
set_option maxHeartbeats 4000000 in
theorem ndivide_any (m n c d : Nat) (a b : Option Addr) (hm : nl m ≤ 8) (hn0 : 0 < n) (hn8 : n < 2 ^ 200) (w : World) (h : NatAt w a m (nl m)) (h' : NatAt w b n (nl n)) :
    Calls Tryd.prog 46 #[.slice a (nl m) c, .slice b (nl n) d] w fun e w' => ∃ a' c' b' d', e = .returned (.tuple #[.slice a' (nl (m / n)) c', .slice b' (nl (m % n)) d']) ∧ NatAt w' a' (m / n) (nl (m / n)) ∧ Below w.heap.size w w' := by
  have hml := nl_le.1 (Nat.le_refl (nl m))
  have hq : nl (m / n) ≤ nl m := nl_mono (Nat.div_le_self _ _)
  have D0 := Lib.hid (ndiv_start (b := n) hml)
  have TR := Lib.hid (fun k c a (hk : k ≤ 64) (hkc : k ≤ c) (hcm : c ≤ maxLen) hl w h => ntrim_any (m / n) k c a hk hkc hcm hl w h)
  have HA := Lib.hid h
  have HB := Lib.hid h'
  have HQ := Lib.hid hq
  clear hml hq h h'
  generalize nl m = x at *
  have hmk := run_make_row' (P := Tryd.prog) 71 106 (.int .u32 0) 4 Tryd.underlying71 info_u rfl .i64 .i64 x (by omega) (by omega)
  go_enter Tryd.func46, Tryd.ntmps46
  go_upto_region 2 with (fail)
  refine wp_world (fun v => Hid (Outd v w.heap.size 0 x ∧ Below w.heap.size w v)) (Lib.hid ⟨Outd.made _ _ _, by (repeat' first | (with_reducible first | exact Bq0 | assumption | refine Bq1 ?_ | refine Bq2 ?_ | refine Bq3 ?_ ?_ | refine Bq4 ?_ (by assumption)) | go_size)⟩) ?_
  intro G HG
  go_wp2
  go_loopg [7, 8] (32 * x) (fun gg rv iv wr => ∃ k : Nat, k ≤ 32 * x ∧ k ≤ gg ∧ iv = .int .i64 ((k : Int) - 1) ∧ ∃ Q R a' c', rv = .slice a' (nl R) c' ∧ Hid (DivInv m n k Q R) ∧ Hid (NatAt wr a' R (nl R)) ∧ Hid (Outd wr w.heap.size Q x ∧ Below w.heap.size w wr))
  case atStart => exact ⟨32 * x, by omega, by omega, by congr 1, 0, 0, none, 0, by rw [nl_zero], D0, Lib.hid (by rw [nl_zero]; exact NatAt.none _ _), HG⟩
  case round =>
    obtain ⟨k, hk, hgk, rfl, Q, R, a1, c1, rfl, HD, HR, HO⟩ := hrel
    clear HG D0
    rcases k with _ | t
    · have hge : ¬ (((0 : Nat) : Int) - 1) ≥ 0 := by omega
      obtain ⟨rfl, rfl⟩ := HD.out.done
      have HN := Lib.hid HO.out.1.nat
      have hb0 := HO.out.2
      clear HD HO
      go_wp2_with fail
      ((with_reducible refine (TR.out x x _ (by omega) (Nat.le_refl _) (by unfold maxLen; omega) HQ.out _ HN.out).mono ?_); rintro e w2 ⟨rfl, hb2⟩)
      have HS := Lib.hid ((HN.out.less HQ.out).later hb2)
      have hbw := below_after hb0 hb2
      go_wp2
      go_returns
      exact ⟨_, _, _, _, rfl, HS.out, by (repeat' first | (with_reducible first | exact Bq0 | assumption | refine Bq1 ?_ | refine Bq2 ?_ | refine Bq3 ?_ ?_ | refine Bq4 ?_ (by assumption)) | go_size)⟩
    · have ht : ((t + 1 : Nat) : Int) - 1 = (t : Int) := by omega
      rw [ht]
      have hge : (t : Int) ≥ 0 := by omega
      have hrl := HD.out.rest_lt hn0
      have PP := Lib.hid (nplus_any R R c1 c1 a1 a1 (by omega))
      obtain ⟨ba, oa, ea, la, ca⟩ := HA.out (by omega)
      have cai := ca (t / 32) (by omega)
      rw [hw_hn] at cai
      have hb0 := HO.out.2
      go_wp2_with fail
      ((with_reducible refine (PP.out _ HR.out HR.out).mono ?_); rintro e w1 ⟨a2, c2, rfl, hN1, hb1, hf1⟩)
      have hbw := below_after hb0 hb1
      have c3 := (hbw.cell (p := ⟨ba, oa + t / 32, none⟩) la).trans cai
      have l3 := keep_lt hbw la
      subst ea
      have hx : (t : Int) / 32 < (x : Int) := by omega
      have htm : (t : Int) % 32 < 32 := by omega
      have pl := hn_lt m (t / 32)
      have hdiv : t / 32 < x := by omega
      have r1 := nbit_and m t
      have hnl : nl n ≤ 64 := Nat.le_trans (nl_le.2 (Nat.lt_of_lt_of_le hn8 (Nat.pow_le_pow_right (by omega) (show 200 ≤ 32 * 8 by omega)))) (show 8 ≤ 64 by omega)
      have HOT := Lib.hid (HO.out.1.later hb1)
      have HD0 := HD
      have hbl := bitN_le m t
      generalize hn m (t / 32) = p at *
      obtain ⟨bt, hbt⟩ : ∃ z, z = bitN m t := ⟨_, rfl⟩
      rw [← hbt] at r1 hbl
      have HBT := Lib.hid hbt
      clear hbt HO hb0 ca cai
      rcases (by omega : bt = 0 ∨ bt = 1) with rfl | rfl
      · have HE := Lib.hid (show 2 * R + bitN m t = R + R from by have := HBT.out; omega)
        have HT := Lib.hid hN1
        have hTl : nl (R + R) ≤ 64 := Nat.le_trans (nl_le.2 (Nat.lt_of_lt_of_le (show R + R < 2 ^ 201 by omega) (Nat.pow_le_pow_right (by omega) (show 201 ≤ 32 * 8 by omega)))) (show 8 ≤ 64 by omega)
        have hbT := hbw
        clear HR hN1 hb1 PP hbw
        rcases Nat.lt_or_ge ((R+R)) n with hcmp | hcmp
        · have hcv : cmpN ((R+R)) n < 0 := by unfold cmpN; rw [if_pos hcmp]; omega
          have CC := Lib.hid (ncompare_any ((R+R)) n c2 d a2 b hTl hnl w1 HT.out (HB.out.later hbT))
          have ND := Lib.hid (HD.out.next_no hn0 (by rw [HE.out]; exact hcmp))
          rw [HE.out] at ND
          generalize cmpN ((R+R)) n = cc at *
          have hO2 := hbT
          clear HD
          go_wp2_with (first | (go_at_call 62; (with_reducible refine CC.out.mono ?_); rintro e w5 ⟨rfl, hb5⟩))
          have hN5 := Lib.hid (HT.out.later hb5)
          have hO5 := Lib.hid (show Outd w5 w.heap.size Q x ∧ Below w.heap.size w w5 from ⟨(HOT.out).later hb5, below_after hbT hb5⟩)
          clear HT HOT hb5 hbT CC
          go_roundg t
          case rel => exact ⟨t, by omega, by omega, rfl, Q, (R+R), a2, c2, rfl, ND, hN5, hO5⟩
          case measure => omega
        · have hcv : 0 ≤ cmpN ((R+R)) n := by unfold cmpN; rw [if_neg (by omega)]; split <;> omega
          have CC := Lib.hid (ncompare_any ((R+R)) n c2 d a2 b hTl hnl w1 HT.out (HB.out.later hbT))
          have MM := Lib.hid (fun v h1 h2 => nminus_any ((R+R)) n c2 d a2 b hcmp (by omega) v h1 h2)
          have ND := Lib.hid (HD.out.next_yes hn0 (by rw [HE.out]; exact hcmp))
          rw [HE.out] at ND
          generalize cmpN ((R+R)) n = cc at *
          clear HD
          go_wp2_with (first
            | (go_at_call 62; (with_reducible refine CC.out.mono ?_); rintro e w5 ⟨rfl, hb5⟩)
            | (go_at_call 63; (with_reducible refine (MM.out _ (HT.out.later hb5) (HB.out.later (below_after hbT hb5))).mono ?_); rintro e w6 ⟨a6, c6, rfl, hN6, hb6, hf6⟩; have hb56 := below_after (below_after hbT hb5) hb6; have hO6 := (HOT.out.later hb5).later hb6; have ct := hO6.cell (t / 32) hdiv; have fz := hO6.froz; have lz := hO6.lt; rw [hw_hn] at ct; have ol := hn_lt Q (t / 32); have hor := nbit_or HD0.out; have SB := HD0.out.hbit; obtain ⟨ov, hov⟩ : ∃ z, z = hn Q (t / 32) + 2 ^ (t % 32) := ⟨_, rfl⟩; rw [← hov] at hor SB; clear hov)
            | fail)
          have hsz := hO6.lt
          have hN7 := Lib.hid (show NatAt (w6.setCell ⟨w.heap.size, t / 32, none⟩ (.int .u32 (ov : Int))) a6 ((R+R) - n) (nl ((R+R) - n)) from fun h0 => by
            obtain ⟨b6, o6, e6, l6, q6⟩ := hN6 h0
            have hne := hf6 _ e6
            have hgt := (below_after hbT hb5).size
            have hOl := HOT.out.lt
            have hbs := hbT.size
            have hb5s := hb5.size
            refine ⟨b6, o6, e6, by simpa using l6, fun j hj => ?_⟩
            rw [World.cell?_setCell_other _ _ _ _ (fun e => by have := congrArg Addr.block e; simp only [] at this hne; omega)]
            exact q6 j hj)
          have hO7 := Lib.hid (show Outd (w6.setCell ⟨w.heap.size, t / 32, none⟩ (.int .u32 (ov : Int))) w.heap.size (Q + 2 ^ t) x from by
            rw [← SB.1]
            exact hO6.set hdiv SB.2)
          clear hO6 ct fz lz hor HT HOT
          go_roundg t
          case rel => exact ⟨t, by omega, by omega, rfl, Q + 2 ^ t, (R+R) - n, a6, c6, rfl, ND, hN7, Lib.hid ⟨hO7.out, by (repeat' first | (with_reducible first | exact Bq0 | assumption | refine Bq1 ?_ | refine Bq2 ?_ | refine Bq3 ?_ ?_ | refine Bq4 ?_ (by assumption)) | go_size)⟩⟩
          case measure => omega
      · have HE := Lib.hid (show 2 * R + bitN m t = R + R + 1 from by have := HBT.out; omega)
        have P1 := Lib.hid (show ∀ v, Calls Tryd.prog 48 #[.int .u64 1] v fun e w' => ∃ a c, e = .returned (.slice a (nl 1) c) ∧ NatAt w' a 1 (nl 1) ∧ Below v.heap.size v w' ∧ (∀ p, a = some p → v.heap.size ≤ p.block) from fun v => nsmall_any 1 (by omega) v)
        have P2 := Lib.hid (fun cA cB aA aB => nplus_any (R + R) 1 cA cB aA aB (by omega))
        have hTl : nl (R + R + 1) ≤ 64 := Nat.le_trans (nl_le.2 (Nat.lt_of_lt_of_le (show R + R + 1 < 2 ^ 201 by omega) (Nat.pow_le_pow_right (by omega) (show 201 ≤ 32 * 8 by omega)))) (show 8 ≤ 64 by omega)
        clear HR hb1 PP
        go_wp2_with fail
        ((with_reducible refine (P1.out _).mono ?_); rintro e w2 ⟨a8, c8, rfl, hN8, hb8, -⟩)
        go_wp2_with fail
        ((with_reducible refine (P2.out _ _ _ _ _ (hN1.later hb8) hN8).mono ?_); rintro e w3 ⟨a9, c9, rfl, hN9, hb9, -⟩)
        have HT := Lib.hid hN9
        have hbT := below_after (below_after hbw hb8) hb9
        have HOT' := HOT
        have HOT := Lib.hid ((HOT'.out.later hb8).later hb9)
        clear HOT' hN1 hN8 hN9 hb8 hb9 hbw P1 P2 c3 l3
        rcases Nat.lt_or_ge ((R+R+1)) n with hcmp | hcmp
        · have hcv : cmpN ((R+R+1)) n < 0 := by unfold cmpN; rw [if_pos hcmp]; omega
          have CC := Lib.hid (ncompare_any ((R+R+1)) n c9 d a9 b hTl hnl w3 HT.out (HB.out.later hbT))
          have ND := Lib.hid (HD.out.next_no hn0 (by rw [HE.out]; exact hcmp))
          rw [HE.out] at ND
          generalize cmpN ((R+R+1)) n = cc at *
          have hO2 := hbT
          clear HD
          go_wp2_with (first | (go_at_call 62; (with_reducible refine CC.out.mono ?_); rintro e w5 ⟨rfl, hb5⟩))
          have hN5 := Lib.hid (HT.out.later hb5)
          have hO5 := Lib.hid (show Outd w5 w.heap.size Q x ∧ Below w.heap.size w w5 from ⟨(HOT.out).later hb5, below_after hbT hb5⟩)
          clear HT HOT hb5 hbT CC
          go_roundg t
          case rel => exact ⟨t, by omega, by omega, rfl, Q, (R+R+1), a9, c9, rfl, ND, hN5, hO5⟩
          case measure => omega
        · have hcv : 0 ≤ cmpN ((R+R+1)) n := by unfold cmpN; rw [if_neg (by omega)]; split <;> omega
          have CC := Lib.hid (ncompare_any ((R+R+1)) n c9 d a9 b hTl hnl w3 HT.out (HB.out.later hbT))
          have MM := Lib.hid (fun v h1 h2 => nminus_any ((R+R+1)) n c9 d a9 b hcmp (by omega) v h1 h2)
          have ND := Lib.hid (HD.out.next_yes hn0 (by rw [HE.out]; exact hcmp))
          rw [HE.out] at ND
          generalize cmpN ((R+R+1)) n = cc at *
          clear HD
          go_wp2_with (first
            | (go_at_call 62; (with_reducible refine CC.out.mono ?_); rintro e w5 ⟨rfl, hb5⟩)
            | (go_at_call 63; (with_reducible refine (MM.out _ (HT.out.later hb5) (HB.out.later (below_after hbT hb5))).mono ?_); rintro e w6 ⟨a6, c6, rfl, hN6, hb6, hf6⟩; have hb56 := below_after (below_after hbT hb5) hb6; have hO6 := (HOT.out.later hb5).later hb6; have ct := hO6.cell (t / 32) hdiv; have fz := hO6.froz; have lz := hO6.lt; rw [hw_hn] at ct; have ol := hn_lt Q (t / 32); have hor := nbit_or HD0.out; have SB := HD0.out.hbit; obtain ⟨ov, hov⟩ : ∃ z, z = hn Q (t / 32) + 2 ^ (t % 32) := ⟨_, rfl⟩; rw [← hov] at hor SB; clear hov)
            | fail)
          have hsz := hO6.lt
          have hN7 := Lib.hid (show NatAt (w6.setCell ⟨w.heap.size, t / 32, none⟩ (.int .u32 (ov : Int))) a6 ((R+R+1) - n) (nl ((R+R+1) - n)) from fun h0 => by
            obtain ⟨b6, o6, e6, l6, q6⟩ := hN6 h0
            have hne := hf6 _ e6
            have hgt := (below_after hbT hb5).size
            have hOl := HOT.out.lt
            have hbs := hbT.size
            have hb5s := hb5.size
            refine ⟨b6, o6, e6, by simpa using l6, fun j hj => ?_⟩
            rw [World.cell?_setCell_other _ _ _ _ (fun e => by have := congrArg Addr.block e; simp only [] at this hne; omega)]
            exact q6 j hj)
          have hO7 := Lib.hid (show Outd (w6.setCell ⟨w.heap.size, t / 32, none⟩ (.int .u32 (ov : Int))) w.heap.size (Q + 2 ^ t) x from by
            rw [← SB.1]
            exact hO6.set hdiv SB.2)
          clear hO6 ct fz lz hor HT HOT
          go_roundg t
          case rel => exact ⟨t, by omega, by omega, rfl, Q + 2 ^ t, (R+R+1) - n, a6, c6, rfl, ND, hN7, Lib.hid ⟨hO7.out, by (repeat' first | (with_reducible first | exact Bq0 | assumption | refine Bq1 ?_ | refine Bq2 ?_ | refine Bq3 ?_ ?_ | refine Bq4 ?_ (by assumption)) | go_size)⟩⟩
          case measure => omega
end Go.Proofs.YthikaimhmpenhaaDoor

namespace Go.Proofs.YthikaimhmpenhaaDoor
set_option linter.all false
open Go Go.RowKit Wd
set_option maxRecDepth 100000
theorem or_low (x : Int) (h0 : 0 ≤ x) (h1 : x ≤ 4294967295) : bits .or .u64 0 x = x := by
  rw [u64_or _ _ (by omega) (by omega) (by omega) (by omega)]
  simp; omega
theorem or_high (x y : Int) (h0 : 0 ≤ x) (h1 : x ≤ 4294967295) (h2 : 0 ≤ y) (h3 : y ≤ 4294967295) : bits .or .u64 x (y * 4294967296) = x + y * 4294967296 := by
  rw [u64_or _ _ (by omega) (by omega) (by omega) (by omega), Nat.or_comm, nat_join 32 _ _ (by omega) (by omega)]
  omega
theorem two_words {n : Nat} (h : n < 18446744073709551616) : hw n 0 + hw n 1 * 4294967296 = (n : Int) := by
  obtain ⟨e0, e1⟩ := hw_word h
  rw [e0, e1]
  omega
set_option maxHeartbeats 4000000 in
theorem wideOf_any (n c : Nat) (a : Option Addr) (hn : n < 18446744073709551616) (w : World) (h : NatAt w a n (nl n)) :
    Calls Tryd.prog 47 #[.bool false, .slice a (nl n) c] w fun e w' => e = .returned (.tuple #[(.agg #[.bool false, .int .u64 ↑n, .int .u64 0, .int .u64 0, .int .u64 0]), .bool true]) ∧ Below w.heap.size w w' := by
  have hl := nl_small hn
  have W0 := Lib.hid (show ∀ i, 0 ≤ hw n i ∧ hw n i ≤ 4294967295 from fun i => ⟨hw_lo n i, hw_hi n i⟩)
  obtain ⟨N, hN⟩ : ∃ N : Int, N = (n : Int) := ⟨_, rfl⟩
  have V0 : nl n = 0 → N = 0 := fun h => by rw [hN, nl_none h]; rfl
  have V1 : nl n = 1 → N = hw n 0 := fun h => by
    rw [hN]
    have e := two_words hn
    rw [hw_past (n := n) (j := 1) (by omega)] at e
    omega
  have V2 : N = hw n 0 + hw n 1 * 4294967296 := by rw [hN]; exact (two_words hn).symm
  have HV := Lib.hid (And.intro V0 (And.intro V1 V2))
  have HA := Lib.hid h
  rw [← hN]
  clear V0 V1 V2 h hn hN
  generalize nl n = x at *
  go_enter Tryd.func47, Tryd.ntmps47
  go_upto_region 4 with (fail)
  refine wp_world (fun x => (∀ o, x.cell? ⟨w.heap.size, o, none⟩ = (#[.bool false, .int .u64 0, .int .u64 0, .int .u64 0, .int .u64 0] : Array Value)[o]?) ∧ (∀ o, x.cell? ⟨w.heap.size + 1, o, none⟩ = (#[.bool false, .int .u64 0, .int .u64 0, .int .u64 0, .int .u64 0] : Array Value)[o]?) ∧ (∀ o, x.frozen? ⟨w.heap.size, o, none⟩ = false) ∧ (∀ o, x.frozen? ⟨w.heap.size + 1, o, none⟩ = false) ∧ w.heap.size < x.heap.size ∧ w.heap.size + 1 < x.heap.size ∧ Below w.heap.size w x) (by (repeat' apply And.intro) <;> first | (intro o; simp [go_sem]; done) | ((repeat' first | (with_reducible first | exact Bq0 | assumption | refine Bq1 ?_ | refine Bq2 ?_ | refine Bq3 ?_ ?_ | refine Bq4 ?_ (by assumption)) | go_size); done) | omega | (simp [go_sem]; done) | (simp [go_sem]; omega)) ?_
  rintro G ⟨hGc0, hGc1, hGf0, hGf1, hGz0, hGz1, hGb⟩
  generalize hR : w.heap.size + 1 = B at *
  have hwB : w.heap.size ≤ B := by omega
  have hneB : w.heap.size ≠ B := by omega
  clear hR
  go_wp2
  go_loopg [7] x (fun gg iv wr => ∃ i : Nat, i ≤ x ∧ x - i ≤ gg ∧ iv = .int .i64 (i : Int) ∧ Hid (Below w.heap.size w wr ∧ (∀ o, wr.cell? ⟨w.heap.size, o, none⟩ = (#[.bool false, .int .u64 0, .int .u64 0, .int .u64 0, .int .u64 0] : Array Value)[o]?) ∧ (∀ o, wr.frozen? ⟨w.heap.size, o, none⟩ = false) ∧ w.heap.size < wr.heap.size ∧ (∀ o, wr.frozen? ⟨B, o, none⟩ = false) ∧ B < wr.heap.size) ∧
    Hid ((i = 0 → ∀ o, wr.cell? ⟨B, o, none⟩ = (#[.bool false, .int .u64 0, .int .u64 0, .int .u64 0, .int .u64 0] : Array Value)[o]?) ∧ (i = 1 → ∀ o, wr.cell? ⟨B, o, none⟩ = (#[.bool false, .int .u64 (hw n 0), .int .u64 0, .int .u64 0, .int .u64 0] : Array Value)[o]?) ∧ (i = 2 → ∀ o, wr.cell? ⟨B, o, none⟩ = (#[.bool false, .int .u64 (hw n 0 + hw n 1 * 4294967296), .int .u64 0, .int .u64 0, .int .u64 0] : Array Value)[o]?)))
  case atStart => exact ⟨0, by omega, by omega, rfl, Lib.hid ⟨hGb, hGc0, hGf0, hGz0, hGf1, hGz1⟩, Lib.hid ⟨fun _ => hGc1, fun h => by omega, fun h => by omega⟩⟩
  case round =>
    obtain ⟨i, hi, hgi, rfl, HI, HC⟩ := hrel
    obtain ⟨hb, rc, rf, rz, bf, bz⟩ := HI.out
    clear hGb hGc0 hGc1 hGf0 hGf1 hGz0 hGz1
    by_cases hlt : i < x
    · obtain ⟨ba, oa, ea, la, ca⟩ := HA.out (by omega)
      have c1 := (hb.cell (p := ⟨ba, oa + i, none⟩) la).trans (ca i hlt)
      have l1 := keep_lt hb la
      have b0 := W0.out 0
      have b1 := W0.out 1
      subst ea
      rcases (by omega : i = 0 ∨ i = 1) with rfl | rfl
      · have bc := HC.out.1 rfl
        have c0 : wr.cell? ⟨ba, oa, none⟩ = some (.int .u32 (hw n 0)) := c1
        have hlt' : ((0 : Nat) : Int) < (x : Int) := by omega
        have hlt2 : (0 : Int) < (x : Int) := by omega
        have r1 := or_low (hw n 0) b0.1 b0.2
        clear HI HC ca la HV
        generalize hw n 0 = p at *
        go_upto_region 7 with (fail)
        go_region
        have far : ∀ o, ((wr.setCell ⟨B, 1, none⟩ (.int .u64 p)).drew).cell? ⟨w.heap.size, o, none⟩ = (#[.bool false, .int .u64 0, .int .u64 0, .int .u64 0, .int .u64 0] : Array Value)[o]? := fun o => (World.cell?_setCell_other _ _ _ _ (by intro e; have := congrArg Addr.block e; simp at this; omega)).trans (rc o)
        have put := set_at (i := 1) (v := .int .u64 p) bc
        rw [show (#[.bool false, .int .u64 0, .int .u64 0, .int .u64 0, .int .u64 0] : Array Value).setIfInBounds 1 (.int .u64 p) = #[.bool false, .int .u64 p, .int .u64 0, .int .u64 0, .int .u64 0] from rfl] at put
        have NO := Lib.hid (show Below w.heap.size w (wr.setCell ⟨B, 1, none⟩ (.int .u64 p)).drew from by (repeat' first | (with_reducible first | exact Bq0 | assumption | refine Bq1 ?_ | refine Bq2 ?_ | refine Bq3 ?_ ?_ | refine Bq4 ?_ (by assumption)) | go_size))
        go_wp2
        go_roundg (x - (0 + 1))
        case rel => exact ⟨0 + 1, by omega, by omega, rfl, Lib.hid ⟨NO.out, far, fun o => by simp only [World.frozen?_drew, World.frozen?_setCell]; exact rf o, by simpa using rz, fun o => by simp only [World.frozen?_drew, World.frozen?_setCell]; exact bf o, by simpa using bz⟩, Lib.hid ⟨fun h => by omega, fun _ => put, fun h => by omega⟩⟩
        case measure => omega
      · have bc := HC.out.2.1 rfl
        have hlt' : ((1 : Nat) : Int) < (x : Int) := by omega
        have hlt2 : (1 : Int) < (x : Int) := by omega
        have r1 := or_high (hw n 0) (hw n 1) b0.1 b0.2 b1.1 b1.2
        clear HI HC ca la HV
        generalize hw n 0 = p at *
        generalize hw n 1 = q at *
        have r2 : IntKind.u64.wrap (q * 4294967296) = q * 4294967296 := by rw [IntKind.wrap_u64]; omega
        go_upto_region 7 with (fail)
        go_region
        have far : ∀ o, ((wr.setCell ⟨B, 1, none⟩ (.int .u64 (p + q * 4294967296))).drew).cell? ⟨w.heap.size, o, none⟩ = (#[.bool false, .int .u64 0, .int .u64 0, .int .u64 0, .int .u64 0] : Array Value)[o]? := fun o => (World.cell?_setCell_other _ _ _ _ (by intro e; have := congrArg Addr.block e; simp at this; omega)).trans (rc o)
        have put := set_at (i := 1) (v := .int .u64 (p + q * 4294967296)) bc
        rw [show (#[.bool false, .int .u64 p, .int .u64 0, .int .u64 0, .int .u64 0] : Array Value).setIfInBounds 1 (.int .u64 (p + q * 4294967296)) = #[.bool false, .int .u64 (p + q * 4294967296), .int .u64 0, .int .u64 0, .int .u64 0] from rfl] at put
        have NO := Lib.hid (show Below w.heap.size w (wr.setCell ⟨B, 1, none⟩ (.int .u64 (p + q * 4294967296))).drew from by (repeat' first | (with_reducible first | exact Bq0 | assumption | refine Bq1 ?_ | refine Bq2 ?_ | refine Bq3 ?_ ?_ | refine Bq4 ?_ (by assumption)) | go_size))
        go_wp2
        go_roundg (x - (1 + 1))
        case rel => exact ⟨1 + 1, by omega, by omega, rfl, Lib.hid ⟨NO.out, far, fun o => by simp only [World.frozen?_drew, World.frozen?_setCell]; exact rf o, by simpa using rz, fun o => by simp only [World.frozen?_drew, World.frozen?_setCell]; exact bf o, by simpa using bz⟩, Lib.hid ⟨fun h => by omega, fun h => by omega, fun _ => put⟩⟩
        case measure => omega
    · obtain rfl : i = x := by omega
      have hlt' : ¬ (i : Int) < (i : Int) := by omega
      have hv := HV.out
      clear HI HV HA W0
      rcases (by omega : i = 0 ∨ i = 1 ∨ i = 2) with rfl | rfl | rfl
      · have bc := HC.out.1 rfl
        obtain rfl := hv.1 rfl
        clear HC hv
        go_wp2_with ((with_reducible show bodyPost _ _ _ _ _ _); refine bodyPost_ret (by simp [results, Tryd.results47, go_sem, rc, bc, rf, rz, bz]; try rfl) rfl ?_; exact ⟨rfl, by (repeat' first | (with_reducible first | exact Bq0 | assumption | refine Bq1 ?_ | refine Bq2 ?_ | refine Bq3 ?_ ?_ | refine Bq4 ?_ (by assumption)) | go_size)⟩)
      · have bc := HC.out.2.1 rfl
        obtain rfl := hv.2.1 rfl
        clear HC hv
        go_wp2_with ((with_reducible show bodyPost _ _ _ _ _ _); refine bodyPost_ret (by simp [results, Tryd.results47, go_sem, rc, bc, rf, rz, bz]; try rfl) rfl ?_; exact ⟨rfl, by (repeat' first | (with_reducible first | exact Bq0 | assumption | refine Bq1 ?_ | refine Bq2 ?_ | refine Bq3 ?_ ?_ | refine Bq4 ?_ (by assumption)) | go_size)⟩)
      · have bc := HC.out.2.2 rfl
        obtain rfl := hv.2.2
        clear HC hv
        go_wp2_with ((with_reducible show bodyPost _ _ _ _ _ _); refine bodyPost_ret (by simp [results, Tryd.results47, go_sem, rc, bc, rf, rz, bz]; try rfl) rfl ?_; exact ⟨rfl, by (repeat' first | (with_reducible first | exact Bq0 | assumption | refine Bq1 ?_ | refine Bq2 ?_ | refine Bq3 ?_ ?_ | refine Bq4 ?_ (by assumption)) | go_size)⟩)
end Go.Proofs.YthikaimhmpenhaaDoor
