/-
  The reference's fractions: Of, of two small numbers, the first not below 0, the second above.
  The reference's Of; the greatest waterline of a height, and the number between two.
  The closed surface's sums, cut, are hydro's; R03.Of of numbers below 2^63; bounds.
  (Written by wip/pack.py out of XFNatO, XFNatP, XFTopF.)
-/
import Derived.Test.YthikaimhmpenhaaDoorK42
import Derived.Test.YthikaimhmpenhaaDoorK19
import Derived.Test.YthikaimhmpenhaaDoorK29
import Derived.Test.YthikaimhmpenhaaDoorK36
import Derived.Test.YthikaimhmpenhaaDoorK39

namespace Go.Proofs.YthikaimhmpenhaaDoor
set_option linter.all false
open Go Go.RowKit Wd
set_option maxRecDepth 100000
set_option maxHeartbeats 1000000 in
theorem ngcd_any (m n c d : Nat) (a b : Option Addr) (hn0 : 0 < n) (hm : m < 2 ^ 90) (hn : n < 2 ^ 90) (w : World) (h : NatAt w a m (nl m)) (h' : NatAt w b n (nl n)) :
    Calls Tryd.prog 45 #[.slice a (nl m) c, .slice b (nl n) d] w fun e w' => ∃ a' c', e = .returned (.slice a' (nl (Nat.gcd m n)) c') ∧ NatAt w' a' (Nat.gcd m n) (nl (Nat.gcd m n)) ∧ Below w.heap.size w w' := by
  by_cases hm0 : m = 0
  · subst hm0
    rw [Nat.gcd_zero_left, nl_zero]
    have HB := Lib.hid h'
    clear h h'
    generalize nl n = y at *
    go_enter Tryd.func45, Tryd.ntmps45
    go_wp2
    go_returns
    exact ⟨_, _, rfl, HB.out, Below.refl _ _⟩
  · exact ngcd_pos m n c d a b (Nat.pos_of_ne_zero hm0) hn0 hm hn w h h'
set_option maxHeartbeats 2000000 in
theorem ofInt_any (n : Nat) (hn : n < 9223372036854775808) (w : World) :
    Calls Tryd.prog 23 #[.int .i64 (n : Int)] w fun e w' => ∃ a c, e = .returned (.agg #[.bool false, .slice a (nl n) c]) ∧ NatAt w' a n (nl n) ∧ Below w.heap.size w w' := by
  have K := Lib.hid (fun v => nsmall_any n (by omega) v)
  have hge : ¬ (n : Int) < 0 := by omega
  have hw64 : IntKind.u64.wrap (n : Int) = (n : Int) := by rw [IntKind.wrap_u64]; omega
  generalize nl n = x at *
  go_enter Tryd.func23, Tryd.ntmps23
  go_wp2_with fail
  ((with_reducible refine (K.out _).mono ?_); rintro e w1 ⟨a1, c1, rfl, hN, hb1, hf1⟩)
  obtain ⟨hc1, hf1'⟩ := bcell hb1
  have hz : w.heap.size < w1.heap.size := by have := hb1.size; simp at this; omega
  have HN := Lib.hid (show ∀ u v, NatAt ((w1.setCell ⟨w.heap.size, 0, none⟩ u).setCell ⟨w.heap.size, 1, none⟩ v) a1 n x from fun u v h0 => by
    obtain ⟨b, o, e, hl, hc⟩ := hN h0
    have hne := hf1 _ e
    simp only [World.size_alloc] at hne
    refine ⟨b, o, e, by simpa using hl, fun j hj => ?_⟩
    rw [World.cell?_setCell_other _ _ _ _ (by intro e; have := congrArg Addr.block e; simp only [] at this; omega), World.cell?_setCell_other _ _ _ _ (by intro e; have := congrArg Addr.block e; simp only [] at this; omega)]
    exact hc j hj)
  clear hN hf1
  go_wp2
  refine bodyPost_ret (by simp [results, Tryd.results23, go_sem, hc1, hf1', hz]; try rfl) rfl ?_
  exact ⟨_, _, rfl, HN.out _ _, by (repeat' first | (with_reducible first | exact Bq0 | assumption | refine Bq1 ?_ | refine Bq2 ?_ | refine Bq3 ?_ ?_ | refine Bq4 ?_ (by assumption)) | go_size)⟩
set_option maxHeartbeats 4000000 in
theorem lowest_any (N D c d : Nat) (a b : Option Addr) (hN : N < 9223372036854775808) (hD0 : 0 < D) (hD : D < 9223372036854775808) (w : World) (h : NatAt w a N (nl N)) (h' : NatAt w b D (nl D)) :
    Calls Tryd.prog 22 #[.agg #[.bool false, .slice a (nl N) c], .agg #[.bool false, .slice b (nl D) d]] w fun e w' => e = .returned (.tuple #[(.agg #[.bool false, .int .u64 (((N / Nat.gcd N D) : Nat) : Int), .int .u64 0, .int .u64 0, .int .u64 0, .bool false, .int .u64 (((D / Nat.gcd N D) : Nat) : Int), .int .u64 0, .int .u64 0, .int .u64 0]), .int .i64 0]) ∧ Below w.heap.size w w' := by
  have hg0 : 0 < Nat.gcd N D := Nat.gcd_pos_of_pos_right _ hD0
  have hgl : Nat.gcd N D ≤ D := Nat.le_of_dvd hD0 (Nat.gcd_dvd_right N D)
  have hq1 : N / Nat.gcd N D ≤ N := Nat.div_le_self _ _
  have hq2 : D / Nat.gcd N D ≤ D := Nat.div_le_self _ _
  have K1 := Lib.hid (fun v h1 h2 => ngcd_any N D c d a b hD0 (by omega) (by omega) v h1 h2)
  generalize Nat.gcd N D = g at *
  have K2 := Lib.hid (fun a' c' v h1 h2 => ndivide_any N g c c' a a' (nl8 (by omega)) hg0 (by omega) v h1 h2)
  have K3 := Lib.hid (fun a' c' v h1 h2 => ndivide_any D g d c' b a' (nl8 (by omega)) hg0 (by omega) v h1 h2)
  have K4 := Lib.hid (fun a' c' v h1 => wideOf_any (N / g) c' a' (by omega) v h1)
  have K5 := Lib.hid (fun a' c' v h1 => wideOf_any (D / g) c' a' (by omega) v h1)
  have p0 := nl_pos hD0
  have HA := Lib.hid h
  have HB := Lib.hid h'
  clear h h' hN hD0 hD hg0 hgl hq1 hq2
  generalize N / g = qn at *
  generalize D / g = qd at *
  have hne : ¬ (nl D : Int) = 0 := by omega
  have hne' : ((nl D : Int) == 0) = false := by simp only [beq_eq_false_iff_ne]; omega
  generalize nl N = nx at *
  generalize nl D = ny at *
  go_enter Tryd.func22, Tryd.ntmps22
  go_upto_region 3 with (fail)
  refine wp_world (fun x => (∀ o, x.cell? ⟨w.heap.size, o, none⟩ = (#[.bool false, .slice a nx c] : Array Value)[o]?) ∧ (∀ o, x.cell? ⟨w.heap.size + 1, o, none⟩ = (#[.bool false, .slice b ny d] : Array Value)[o]?) ∧ (∀ o, x.cell? ⟨w.heap.size + 1 + 1, o, none⟩ = (#[.bool false, .int .u64 0, .int .u64 0, .int .u64 0, .int .u64 0, .bool false, .int .u64 0, .int .u64 0, .int .u64 0, .int .u64 0] : Array Value)[o]?) ∧ (∀ o, x.frozen? ⟨w.heap.size, o, none⟩ = false) ∧ (∀ o, x.frozen? ⟨w.heap.size + 1, o, none⟩ = false) ∧ (∀ o, x.frozen? ⟨w.heap.size + 1 + 1, o, none⟩ = false) ∧ w.heap.size < x.heap.size ∧ w.heap.size + 1 < x.heap.size ∧ w.heap.size + 1 + 1 < x.heap.size ∧ Below w.heap.size w x) (by (repeat' apply And.intro) <;> first | (intro o; simp [go_sem]; done) | ((repeat' first | (with_reducible first | exact Bq0 | assumption | refine Bq1 ?_ | refine Bq2 ?_ | refine Bq3 ?_ ?_ | refine Bq4 ?_ (by assumption)) | go_size); done) | omega | (simp [go_sem]; done) | (simp [go_sem]; omega)) ?_
  rintro G ⟨hGc0, hGc1, hGc2, hGf0, hGf1, hGf2, hGz0, hGz1, hGz2, hGb⟩
  have HA1 := Lib.hid (HA.out.later hGb)
  have HB1 := Lib.hid (HB.out.later hGb)
  clear HA HB hne hne' p0
  go_wp2_with fail
  ((with_reducible refine (K1.out _ HA1.out HB1.out).mono ?_); rintro e w1 ⟨a1, c1, rfl, hN1, hb1⟩)
  have x0 := keep_cell hb1 hGz0 hGc0
  have x1 := keep_cell hb1 hGz1 hGc1
  have x2 := keep_cell hb1 hGz2 hGc2
  have y0 := keep_lt hb1 hGz0
  have y1 := keep_lt hb1 hGz1
  have y2 := keep_lt hb1 hGz2
  have f2 := keep_frozen hb1 hGz2 hGf2
  have hb01 := below_after hGb hb1
  have HA2 := Lib.hid (HA1.out.later hb1)
  have HB2 := Lib.hid (HB1.out.later hb1)
  clear hGc0 hGc1 hGc2 hGf0 hGf1 hGf2 hGz0 hGz1 hGz2 hGb hb1 HA1 HB1
  go_wp2_with fail
  ((with_reducible refine (K2.out _ _ _ HA2.out hN1).mono ?_); rintro e w2 ⟨a2, c2, b2, d2, rfl, hN2, hb2⟩)
  have X0 := keep_cell hb2 y0 x0
  have X1 := keep_cell hb2 y1 x1
  have X2 := keep_cell hb2 y2 x2
  have Y0 := keep_lt hb2 y0
  have Y1 := keep_lt hb2 y1
  have Y2 := keep_lt hb2 y2
  have F2 := keep_frozen hb2 y2 f2
  have hb02 := below_after hb01 hb2
  have HB3 := Lib.hid (HB2.out.later hb2)
  have HN1 := Lib.hid (hN1.later hb2)
  clear x0 x1 x2 y0 y1 y2 f2 hb01 hb2 HA2 HB2 hN1
  go_wp2_with fail
  ((with_reducible refine (K3.out _ _ _ HB3.out HN1.out).mono ?_); rintro e w3 ⟨a3, c3, b3, d3, rfl, hN3, hb3⟩)
  have x0 := keep_cell hb3 Y0 X0
  have x1 := keep_cell hb3 Y1 X1
  have x2 := keep_cell hb3 Y2 X2
  have y0 := keep_lt hb3 Y0
  have y1 := keep_lt hb3 Y1
  have y2 := keep_lt hb3 Y2
  have f2 := keep_frozen hb3 Y2 F2
  have hb03 := below_after hb02 hb3
  have HN2 := Lib.hid (hN2.later hb3)
  clear X0 X1 X2 Y0 Y1 Y2 F2 hb02 hb3 HB3 HN1 hN2
  go_wp2_with fail
  ((with_reducible refine (K4.out _ _ _ HN2.out).mono ?_); rintro e w4 ⟨rfl, hb4⟩)
  have X2 := keep_cell hb4 y2 x2
  have Y2 := keep_lt hb4 y2
  have F2 := keep_frozen hb4 y2 f2
  have hb04 := below_after hb03 hb4
  have HN3 := Lib.hid (hN3.later hb4)
  clear x0 x1 x2 y0 y1 y2 f2 hb03 hb4 HN2 hN3
  go_upto_region 7 with (fail)
  refine wp_world (fun x => (∀ o, x.cell? ⟨w.heap.size + 1 + 1, o, none⟩ = (#[.bool false, .int .u64 0, .int .u64 0, .int .u64 0, .int .u64 0, .bool false, .int .u64 0, .int .u64 0, .int .u64 0, .int .u64 0] : Array Value)[o]?) ∧ (∀ o, x.cell? ⟨w4.heap.size, o, none⟩ = (#[.bool false, .int .u64 ↑qn, .int .u64 0, .int .u64 0, .int .u64 0] : Array Value)[o]?) ∧ (∀ o, x.frozen? ⟨w.heap.size + 1 + 1, o, none⟩ = false) ∧ (∀ o, x.frozen? ⟨w4.heap.size, o, none⟩ = false) ∧ w.heap.size + 1 + 1 < x.heap.size ∧ w4.heap.size < x.heap.size ∧ Below w4.heap.size w4 x) (by (repeat' apply And.intro) <;> first | (intro o; simp [go_sem, X2, Y2, F2]; done) | ((repeat' first | (with_reducible first | exact Bq0 | assumption | refine Bq1 ?_ | refine Bq2 ?_ | refine Bq3 ?_ ?_ | refine Bq4 ?_ (by assumption)) | go_size); done) | omega | (simp [go_sem, X2, Y2, F2]; done) | (simp [go_sem, X2, Y2, F2]; omega)) ?_
  rintro E ⟨hEc0, hEc1, hEf0, hEf1, hEz0, hEz1, hEb⟩
  have HN4 := Lib.hid (HN3.out.later hEb)
  have hb05 := below_after hb04 hEb
  go_wp2_with fail
  ((with_reducible refine (K5.out _ _ _ HN4.out).mono ?_); rintro e w5 ⟨rfl, hb5⟩)
  have hk5 : Kp E.heap.size [] E w5 := (by (repeat first | (with_reducible first | assumption | exact Kq0 | refine Kq1 ?_ | refine Kq2 ?_) | ((with_reducible refine Kq3 ?_ ?_); focus first | (left; go_size; done) | (right; simp; done)) | (with_reducible apply Kp.later; assumption)))
  have h5c0 := fun o => (hk5.cell _ o hEz0 (by simp)).trans (hEc0 o)
  have h5f0 := fun o => (hk5.froz _ o hEz0).trans (hEf0 o)
  have h5z0 := Nat.lt_of_lt_of_le hEz0 hk5.size
  have h5c1 := fun o => (hk5.cell _ o hEz1 (by simp)).trans (hEc1 o)
  have h5f1 := fun o => (hk5.froz _ o hEz1).trans (hEf1 o)
  have h5z1 := Nat.lt_of_lt_of_le hEz1 hk5.size
  go_upto_region 10 with (fail)
  refine wp_world (fun x => (∀ o, x.cell? ⟨w.heap.size + 1 + 1, o, none⟩ = (#[.bool false, .int .u64 0, .int .u64 0, .int .u64 0, .int .u64 0, .bool false, .int .u64 0, .int .u64 0, .int .u64 0, .int .u64 0] : Array Value)[o]?) ∧ (∀ o, x.cell? ⟨w4.heap.size, o, none⟩ = (#[.bool false, .int .u64 ↑qn, .int .u64 0, .int .u64 0, .int .u64 0] : Array Value)[o]?) ∧ (∀ o, x.cell? ⟨w5.heap.size, o, none⟩ = (#[.bool false, .int .u64 ↑qd, .int .u64 0, .int .u64 0, .int .u64 0] : Array Value)[o]?) ∧ (∀ o, x.frozen? ⟨w.heap.size + 1 + 1, o, none⟩ = false) ∧ (∀ o, x.frozen? ⟨w4.heap.size, o, none⟩ = false) ∧ (∀ o, x.frozen? ⟨w5.heap.size, o, none⟩ = false) ∧ w.heap.size + 1 + 1 < x.heap.size ∧ w4.heap.size < x.heap.size ∧ w5.heap.size < x.heap.size ∧ Below w5.heap.size w5 x) (by (repeat' apply And.intro) <;> first | (intro o; simp [go_sem, h5c0, h5f0, h5z0, h5c1, h5f1, h5z1]; done) | ((repeat' first | (with_reducible first | exact Bq0 | assumption | refine Bq1 ?_ | refine Bq2 ?_ | refine Bq3 ?_ ?_ | refine Bq4 ?_ (by assumption)) | go_size); done) | omega | (simp [go_sem, h5c0, h5f0, h5z0, h5c1, h5f1, h5z1]; done) | (simp [go_sem, h5c0, h5f0, h5z0, h5c1, h5f1, h5z1]; omega)) ?_
  rintro F ⟨hFc0, hFc1, hFc2, hFf0, hFf1, hFf2, hFz0, hFz1, hFz2, hFb⟩
  have hb06 := below_after (below_after hb05 hb5) hFb
  have hBw : w.heap.size ≤ w.heap.size + 1 + 1 := by omega
  clear hEb hFb hb5 hb04 hb05 hk5 h5c0 h5c1 h5f0 h5f1 h5z0 h5z1 hEc0 hEc1 hEf0 hEf1 hEz0 hEz1 HN3 HN4 X2 Y2 F2
  generalize w.heap.size + 1 + 1 = B at *
  generalize w4.heap.size = C at *
  generalize w5.heap.size = D' at *
  go_wp2_with ((with_reducible show bodyPost _ _ _ _ _ _); refine bodyPost_ret (by simp [results, Tryd.results22, go_sem, hFc0, hFc1, hFc2, hFf0, hFz0, hFz1, hFz2]; try rfl) rfl ?_; exact ⟨rfl, by (repeat' first | (with_reducible first | exact Bq0 | assumption | refine Bq1 ?_ | refine Bq2 ?_ | refine Bq3 ?_ ?_ | refine Bq4 ?_ (by assumption)) | go_size)⟩)
end Go.Proofs.YthikaimhmpenhaaDoor

namespace Go.Proofs.YthikaimhmpenhaaDoor
set_option linter.all false
open Go Go.RowKit Wd
set_option maxRecDepth 100000
set_option maxHeartbeats 2000000 in
theorem refOf_any (N D : Nat) (hN : N < 9223372036854775808) (hD0 : 0 < D) (hD : D < 9223372036854775808) (w : World) :
    Calls Tryd.prog 10 #[.int .i64 (N : Int), .int .i64 (D : Int)] w fun e w' => e = .returned (.tuple #[(.agg #[.bool false, .int .u64 (((N / Nat.gcd N D) : Nat) : Int), .int .u64 0, .int .u64 0, .int .u64 0, .bool false, .int .u64 (((D / Nat.gcd N D) : Nat) : Int), .int .u64 0, .int .u64 0, .int .u64 0]), .int .i64 0]) ∧ Below w.heap.size w w' := by
  have K1 := Lib.hid (fun v => ofInt_any N hN v)
  have K2 := Lib.hid (fun v => ofInt_any D hD v)
  have K3 := Lib.hid (fun cA cB aA aB v h1 h2 => lowest_any N D cA cB aA aB hN hD0 hD v h1 h2)
  clear hN hD0 hD
  generalize N / Nat.gcd N D = qn at *
  generalize D / Nat.gcd N D = qd at *
  go_enter Tryd.func10, Tryd.ntmps10
  go_upto_region 1 with (fail)
  refine wp_world (fun x => (∀ o, x.cell? ⟨w.heap.size, o, none⟩ = (#[.bool false, .int .u64 0, .int .u64 0, .int .u64 0, .int .u64 0, .bool false, .int .u64 0, .int .u64 0, .int .u64 0, .int .u64 0] : Array Value)[o]?) ∧ (∀ o, x.frozen? ⟨w.heap.size, o, none⟩ = false) ∧ w.heap.size < x.heap.size ∧ Below w.heap.size w x) (by (repeat' apply And.intro) <;> first | (intro o; simp [go_sem]; done) | ((repeat' first | (with_reducible first | exact Bq0 | assumption | refine Bq1 ?_ | refine Bq2 ?_ | refine Bq3 ?_ ?_ | refine Bq4 ?_ (by assumption)) | go_size); done) | omega | (simp [go_sem]; done) | (simp [go_sem]; omega)) ?_
  rintro G ⟨hGc0, hGf0, hGz0, hGb⟩
  go_wp2_with fail
  ((with_reducible refine (K1.out _).mono ?_); rintro e w1 ⟨a1, c1, rfl, hN1, hb1⟩)
  go_wp2_with fail
  ((with_reducible refine (K2.out _).mono ?_); rintro e w2 ⟨a2, c2, rfl, hN2, hb2⟩)
  go_wp2_with fail
  ((with_reducible refine (K3.out _ _ _ _ _ (hN1.later hb2) hN2).mono ?_); rintro e w3 ⟨rfl, hb3⟩)
  have hb := below_after (below_after hb1 hb2) hb3
  have hbw := below_after hGb hb
  have x0 := keep_cell hb hGz0 hGc0
  have f0 := keep_frozen hb hGz0 hGf0
  have z0 := keep_lt hb hGz0
  clear hN1 hN2 hb1 hb2 hb3 hb hGb hGc0 hGf0 hGz0 K1 K2 K3
  go_wp2_with ((with_reducible show bodyPost _ _ _ _ _ _); refine bodyPost_ret (by simp [results, Tryd.results10, go_sem, x0, f0, z0]; try rfl) rfl ?_; exact ⟨rfl, by (repeat' first | (with_reducible first | exact Bq0 | assumption | refine Bq1 ?_ | refine Bq2 ?_ | refine Bq3 ?_ ?_ | refine Bq4 ?_ (by assumption)) | go_size)⟩)
end Go.Proofs.YthikaimhmpenhaaDoor
namespace Go.Proofs.YthikaimhmpenhaaDoor
set_option linter.all false
open Go Go.RowKit Wd
open Fa (P3 W10 dt dl dh nwI ncI nwLI ncLI nwHI ncHI)
open Sf (sr su sr_congr sr_add sr_mul sr_nonneg)
set_option maxRecDepth 100000
variable {X Z : List Int} {H : List (List Int)} {C b z : Int} {K d : Nat}
theorem At.high (g : Gd X Z H C b) (hA : At Z z K d) : ∀ k, K < k → k ≤ Z.length - 1 → z < ix Z k := fun k hk hk2 => by
  have z2 := g.z2
  have h1 := g.mono k (by omega) (K + 1) (by omega)
  by_cases e : ix Z K < z
  · have := (hA.lt e).2.1; omega
  · have h2 := hA.le
    have h3 := (g.zu K (by omega)).1
    omega
theorem At.low (g : Gd X Z H C b) (hA : At Z z K d) : ∀ k, k ≤ K → ix Z k ≤ z := fun k hk => by
  have := g.mono K hA.k k hk
  have := hA.le
  omega
theorem At.top (hA : At Z z K d) (h : ix Z K < z) : ix Z (K + 1) = ix Z K + (d : Int) := by
  have := (hA.lt h).2.2
  omega
theorem vol_su (g : Gd X Z H C b) (hA : At Z z K d) (hz : z ≤ ix Z (Z.length - 1)) : su (Fa.ftri dt (ix X) (ix Z) (hf H) z d) (Sf.faces (X.length - 1) (Z.length - 1)) = volR X Z H z K d :=
  Fa.vol_is (ix X) (ix Z) (hf H) (X.length - 1) (Z.length - 1) K (by have := hA.k; omega) (hA.low g) (hA.high g) hz hA.top
theorem lon_su (g : Gd X Z H C b) (hA : At Z z K d) (hz : z ≤ ix Z (Z.length - 1)) : 3 * su (Fa.ftri dl (ix X) (ix Z) (hf H) z d) (Sf.faces (X.length - 1) (Z.length - 1)) = lonR X Z H z K d :=
  Fa.long_is (ix X) (ix Z) (hf H) (X.length - 1) (Z.length - 1) K (by have := hA.k; omega) (hA.low g) (hA.high g) hz hA.top
theorem hig_su (g : Gd X Z H C b) (hA : At Z z K d) (hz : z ≤ ix Z (Z.length - 1)) : su (Fa.ftri dh (ix X) (ix Z) (hf H) z d) (Sf.faces (X.length - 1) (Z.length - 1)) = higR X Z H z K d :=
  Fa.high_is (ix X) (ix Z) (hf H) (X.length - 1) (Z.length - 1) K (by have := hA.k; omega) (hA.low g) (hA.high g) hz hA.top
theorem cube_bd {e B : Int} (h0 : 0 ≤ e) (h1 : e ≤ B) : 0 ≤ e * e * e ∧ e * e * e ≤ B * B * B := by
  have h2 := mul_bd h0 h0 h1 h1
  exact mul_bd h2.1 h0 h2.2 h1
theorem vol_bd (g : Gd X Z H C b) (hC : C ≤ 2000) (hb : b ≤ 60) (hA : At Z z K d) : 0 ≤ volR X Z H z K d ∧ volR X Z H z K d ≤ 1000000000000000000 := by
  have hW : Whole 43 X Z H false 6 (fun k => sr (fun i => nwI (ix X) (ix Z) (hf H) i k) (X.length - 1)) := fun k hk' => full_a g hC hb hk'
  have hS := whole_S g hW hA.k
  have hS' : 0 ≤ volS X Z H K ∧ volS X Z H K ≤ 2000000000000 := hS
  have hd0 := hA.d0
  have hd : (d : Int) ≤ 60 := by
    by_cases e : ix Z K = z
    · rw [hA.one e]; omega
    · obtain ⟨hK, -, h2⟩ := hA.lt (by have := hA.le; omega)
      have := (g.zu K hK).2
      omega
  have c3 := cube_bd (show (0 : Int) ≤ (d : Int) by omega) hd
  have m1 := mul_bd c3.1 hS'.1 c3.2 hS'.2
  unfold volR
  split
  · rename_i e
    obtain ⟨hK, hz, h2⟩ := hA.lt e
    obtain ⟨s, hs⟩ : ∃ s : Nat, z - ix Z K = s := ⟨(z - ix Z K).toNat, by omega⟩
    rw [hs]
    have hc := (cut_a (d := d) (s := s) g hC hb hK h2 (by omega) (by omega)).2
    have m2 := mul_bd (show (0 : Int) ≤ (d : Int) by omega) hc.1 hd hc.2
    omega
  · omega
theorem lon_bd (g : Gd X Z H C b) (hC : C ≤ 200) (hb : b ≤ 20) (hA : At Z z K d) : 0 ≤ lonR X Z H z K d ∧ lonR X Z H z K d ≤ 2000000000000000000 := by
  have hW : Whole 49 X Z H false 72 (fun k => sr (fun i => nwLI (ix X) (ix Z) (hf H) i k) (X.length - 1)) := fun k hk' => full_l g hC hb hk'
  have hS' : 0 ≤ lonS X Z H K ∧ lonS X Z H K ≤ 2000000000000 := whole_S g hW hA.k
  have hd0 := hA.d0
  have hd : (d : Int) ≤ 20 := by
    by_cases e : ix Z K = z
    · rw [hA.one e]; omega
    · obtain ⟨hK, -, h2⟩ := hA.lt (by have := hA.le; omega)
      have := (g.zu K hK).2
      omega
  have c3 := cube_bd (show (0 : Int) ≤ (d : Int) by omega) hd
  have c4 := mul_bd c3.1 (show (0 : Int) ≤ (d : Int) by omega) c3.2 hd
  have m1 := mul_bd c4.1 hS'.1 c4.2 hS'.2
  unfold lonR
  split
  · rename_i e
    obtain ⟨hK, hz, h2⟩ := hA.lt e
    obtain ⟨s, hs⟩ : ∃ s : Nat, z - ix Z K = s := ⟨(z - ix Z K).toNat, by omega⟩
    rw [hs]
    have hc := (cut_l (d := d) (s := s) g hC hb hK h2 (by omega) (by omega)).2
    have m2 := mul_bd (show (0 : Int) ≤ (d : Int) by omega) hc.1 hd hc.2
    omega
  · omega
theorem hig_bd (g : Gd X Z H C b) (hC : C ≤ 200) (hb : b ≤ 20) (hA : At Z z K d) : 0 ≤ higR X Z H z K d ∧ higR X Z H z K d ≤ 3000000000000000000 := by
  have hW : Whole 43 X Z H true 24 (fun k => sr (fun i => nwHI (ix X) (ix Z) (hf H) i k) (X.length - 1)) := fun k hk' => full_h g hC hb hk'
  have hS' : 0 ≤ higS X Z H K ∧ higS X Z H K ≤ 2000000000000 := whole_S g hW hA.k
  have hd0 := hA.d0
  have hd : (d : Int) ≤ 20 := by
    by_cases e : ix Z K = z
    · rw [hA.one e]; omega
    · obtain ⟨hK, -, h2⟩ := hA.lt (by have := hA.le; omega)
      have := (g.zu K hK).2
      omega
  have c2 := mul_bd (show (0 : Int) ≤ (d : Int) by omega) (show (0 : Int) ≤ (d : Int) by omega) hd hd
  have c3 := cube_bd (show (0 : Int) ≤ (d : Int) by omega) hd
  have c4 := mul_bd c3.1 (show (0 : Int) ≤ (d : Int) by omega) c3.2 hd
  have m1 := mul_bd c4.1 hS'.1 c4.2 hS'.2
  unfold higR
  split
  · rename_i e
    obtain ⟨hK, hz, h2⟩ := hA.lt e
    obtain ⟨s, hs⟩ : ∃ s : Nat, z - ix Z K = s := ⟨(z - ix Z K).toNat, by omega⟩
    rw [hs]
    have hc := (cut_h (d := d) (s := s) g hC hb hK h2 (by omega) (by omega)).2
    have m2 := mul_bd c2.1 hc.1 c2.2 hc.2
    omega
  · omega
theorem refQ {V : Int} {D : Nat} (h0 : 0 ≤ V) (h1 : V < 9223372036854775808) (hD : 0 < D) (hD' : D < 9223372036854775808) (w : World) :
    Calls Tryd.prog 10 #[.int .i64 V, .int .i64 (D : Int)] w fun e w' => e = .returned (.tuple #[(.agg #[.bool ((q V D).s), .int .u64 ((((q V D).a) : Nat) : Int), .int .u64 0, .int .u64 0, .int .u64 0, .bool false, .int .u64 ((((q V D).d) : Nat) : Int), .int .u64 0, .int .u64 0, .int .u64 0]), .int .i64 0]) ∧ Below w.heap.size w w' := by
  obtain ⟨N, rfl⟩ : ∃ N : Nat, V = (N : Int) := ⟨V.toNat, by omega⟩
  have h := refOf_any N D (by omega) hD hD' w
  have e : zs (N : Int) = false := zs_nn (by omega)
  rw [q_s, q_a, q_d, e, Int.natAbs_natCast]
  unfold qn qd
  exact h
theorem At.dle (g : Gd X Z H C b) (hA : At Z z K d) (hb : 1 ≤ b) : 1 ≤ d ∧ (d : Int) ≤ b := by
  have hd0 := hA.d0
  refine ⟨hd0, ?_⟩
  by_cases e : ix Z K = z
  · rw [hA.one e]; omega
  · obtain ⟨hK, -, h2⟩ := hA.lt (by have := hA.le; omega)
    have := (g.zu K hK).2
    omega
theorem eq_mag_self (a0 a1 a2 a3 : Int) (w : World) : (Op.equalIn 9998 35 (.agg #[.int .u64 a0, .int .u64 a1, .int .u64 a2, .int .u64 a3]) (.agg #[.int .u64 a0, .int .u64 a1, .int .u64 a2, .int .u64 a3])).run Tryd.prog w = .ok true w := by
  have h := eq_mag_words 9996 a0 a1 a2 a3 a0 a1 a2 a3 w
  simpa using h
end Go.Proofs.YthikaimhmpenhaaDoor
