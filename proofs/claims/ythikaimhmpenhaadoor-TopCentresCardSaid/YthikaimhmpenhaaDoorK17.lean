/-
  What package ratio's Add returns, of two fractions whose numerators are integers of one word. Written by gen_fadd.py.
  (Written by wip/pack.py out of XFAdd.)
-/
import Derived.Test.YthikaimhmpenhaaDoorK16

namespace Go.Proofs.YthikaimhmpenhaaDoor
set_option linter.all false
open Go Go.RowKit Wd
set_option maxRecDepth 100000
theorem lin_belowT {f : FuncId} {args : Array Value} {v : Value} {W : World} (hT : Tab64 W) (hc : ∀ w, Tab64 w → Calls Tryd.prog f args w fun e w' => e = .returned v ∧ Below w.heap.size w w') :
    ∀ w, Below W.heap.size W w → Calls Tryd.prog f args w fun e w' => e = .returned v ∧ Below W.heap.size W w' :=
  fun w hk => (hc w (hT.later hk)).mono fun _ _ ⟨he, hb⟩ => ⟨he, below_after hk hb⟩
theorem zs_pos_mul {g : Nat} {T : Int} (hg : 0 < g) : zs ((g : Int) * T) = zs T := by
  unfold zs
  have hg' : (0 : Int) < (g : Int) := by omega
  by_cases h : T < 0
  · rw [decide_eq_true h, decide_eq_true (Int.mul_neg_of_pos_of_neg hg' h)]
  · rw [decide_eq_false h, decide_eq_false (by have := Int.mul_nonneg (Int.le_of_lt hg') (Int.not_lt.1 h); omega)]
set_option maxHeartbeats 4000000 in
theorem addI (s0 : Bool) (a0 p0 : Nat) (sa sb : Bool) (a p b q : Nat) (hs0 : ∀ w, Tab64 w → Calls Tryd.prog 69 #[(.agg #[.bool (s0), .int .u64 ↑a0, .int .u64 0, .int .u64 0, .int .u64 0, .bool false, .int .u64 ↑p0, .int .u64 0, .int .u64 0, .int .u64 0])] w fun e w' => e = .returned (.agg #[.bool (sa), .int .u64 ↑a, .int .u64 0, .int .u64 0, .int .u64 0, .bool false, .int .u64 ↑p, .int .u64 0, .int .u64 0, .int .u64 0]) ∧ Below w.heap.size w w')
    (ha : a < 18446744073709551616) (hb : b < 18446744073709551616) (hp : p < 4611686018427387904) (hq : q < 18446744073709551616) (hp0 : 0 < p) (hq0 : 0 < q) (hsa : sa = true → a ≠ 0) (hsb : sb = true → b ≠ 0) (ga : Nat.gcd a p = 1) (gb : Nat.gcd b q = 1)
    (ht : a * (q / Nat.gcd p q) + b * (p / Nat.gcd p q) < 18446744073709551616) (hx : (p / Nat.gcd p q) * q < 18446744073709551616) (z : Int) (hz : z = val sa a * (q : Int) + val sb b * (p : Int)) (w : World) (hT : Tab64 w) :
    Calls Tryd.prog 57 #[(.agg #[.bool (s0), .int .u64 ↑a0, .int .u64 0, .int .u64 0, .int .u64 0, .bool false, .int .u64 ↑p0, .int .u64 0, .int .u64 0, .int .u64 0]), (.agg #[.bool (sb), .int .u64 ↑b, .int .u64 0, .int .u64 0, .int .u64 0, .bool false, .int .u64 ↑q, .int .u64 0, .int .u64 0, .int .u64 0])] w fun e w' => e = .returned (.tuple #[(.agg #[.bool (zs z), .int .u64 (((qn z.natAbs (p * q)) : Nat) : Int), .int .u64 0, .int .u64 0, .int .u64 0, .bool false, .int .u64 (((qd z.natAbs (p * q)) : Nat) : Int), .int .u64 0, .int .u64 0, .int .u64 0]), .int .i64 0]) ∧ Below w.heap.size w w' := by
  obtain ⟨ez, en, ed, hg, hh, hhg, hgp, hxp, hyq, hht, hhq⟩ := add_lowI (a := val sa a) (b := val sb b) hp0 hq0 (by rw [abs_val]; exact ga) (by rw [abs_val]; exact gb)
  rw [← hz] at ez en ed
  have s2 := fun w hT => soundI sb b q hb hq hq0 hsb gb w hT
  have g1 := fun w hT => gcdS p q (by omega) hq hq0 w hT
  have o1 := fun w => overS p (Nat.gcd p q) (by omega) (by omega) hg w
  have o2 := fun w => overS q (Nat.gcd p q) (by omega) (by omega) hg w
  have hpq0 : 0 < p * q := Nat.mul_pos hp0 hq0
  have z0 : z = 0 → zs z = false ∧ qn z.natAbs (p * q) = 0 ∧ qd z.natAbs (p * q) = 1 := fun h => by
    subst h; exact ⟨zs_zero, (q_zero hpq0).1, (q_zero hpq0).2⟩
  have ez' := congrArg zs ez
  have ez0 : ((Nat.gcd p q : Nat) : Int) * (val sa a * ((q / Nat.gcd p q : Nat) : Int) + val sb b * ((p / Nat.gcd p q : Nat) : Int)) = 0 → z = 0 := fun h => by rw [ez]; exact h
  rw [zs_pos_mul hg] at ez'
  generalize qn z.natAbs (p * q) = rN at *
  generalize qd z.natAbs (p * q) = rD at *
  generalize zs z = rS at *
  generalize Nat.gcd p q = g at *
  have hx0 : 0 < p / g := Nat.div_pos hgp hg
  generalize p / g = xg at *
  generalize q / g = yg at *
  have hay : a * yg < 18446744073709551616 := by omega
  have hbx : b * xg < 18446744073709551616 := by omega
  have p1 := fun w => productI sa false a yg (small256 ha) (small256 (by omega)) hay w
  have p2 := fun w => productI sb false b xg (small256 hb) (small256 (by omega)) hbx w
  rw [w_one _ ha, w_one _ (by omega)] at p1
  rw [w_one _ hb, w_one _ (by omega)] at p2
  have v1 : val (zs (val sa a * val false yg)) (a * yg) = val sa a * (yg : Int) := by
    have h := val_zs (val sa a * val false yg)
    rw [Int.natAbs_mul, abs_val, abs_val] at h
    rw [h, val_nat]
  have v2 : val (zs (val sb b * val false xg)) (b * xg) = val sb b * (xg : Int) := by
    have h := val_zs (val sb b * val false xg)
    rw [Int.natAbs_mul, abs_val, abs_val] at h
    rw [h, val_nat]
  have l1 := fun w => lplusI (zs (val sa a * val false yg)) (zs (val sb b * val false xg)) (a * yg) (b * xg) (fun h => by
    rw [zs_mul] at h; simp [eqN] at h; intro hc; rw [hc] at h; simp at h) (fun h => by
    rw [zs_mul] at h; simp [eqN] at h; intro hc; rw [hc] at h; simp at h) ht w
  rw [v1, v2] at l1
  have hn : (val sa a * (yg : Int) + val sb b * (xg : Int)).natAbs < 18446744073709551616 := by
    have h := Int.natAbs_add_le (val sa a * (yg : Int)) (val sb b * (xg : Int))
    rw [Int.natAbs_mul, Int.natAbs_mul, abs_val, abs_val, Int.natAbs_natCast, Int.natAbs_natCast] at h
    omega
  generalize zs (val sa a * val false yg) = sA at *
  generalize zs (val sb b * val false xg) = sB at *
  generalize a * yg = ay at *
  generalize b * xg = bx at *
  generalize val sa a * (yg : Int) + val sb b * (xg : Int) = T at *
  have e0 : T.natAbs = 0 → rS = false ∧ rN = 0 ∧ rD = 1 := fun h => z0 (ez0 (by rw [Int.natAbs_eq_zero.1 h, Int.mul_zero]))
  have hr : zs T = true → T.natAbs ≠ 0 := fun h hc => by rw [Int.natAbs_eq_zero.1 hc, zs_zero] at h; cases h
  generalize T.natAbs = t at *
  generalize zs T = r at *
  have z1 := fun w => zeroI r t w
  have d1 := fun w => dividedI r t g hn hg (by omega) w
  have hkg : t % g < g := Nat.mod_lt _ hg
  have g2 := fun w hT => gcdS (t % g) g (by omega) (by omega) hg w hT
  generalize t % g = k at *
  generalize Nat.gcd k g = h at *
  have d2 := fun w => dividedI r t h hn hh (by omega) w
  have h1 := fun w => shortI (r && !eqN (t / h) 0) (t / h) w
  have o3 := fun w => overS q h hq (by omega) hh w
  have hxe : xg * (q / h) < 18446744073709551616 := Nat.lt_of_le_of_lt (Nat.mul_le_mul (Nat.le_refl xg) (Nat.div_le_self q h)) hx
  have heq : q / h ≤ q := Nat.div_le_self q h
  have m1 := fun w => wmulS xg (q / h) (by omega) (by omega) hxe w
  have e1 : t ≠ 0 → rS = (r && !eqN (t / h) 0) ∧ rN = t / h ∧ rD = xg * (q / h) := fun hc => ⟨by
    rw [ez']
    obtain ⟨c, rfl⟩ := hht
    rw [Nat.mul_div_cancel_left _ hh]
    have : c ≠ 0 := fun h => hc (by rw [h]; rfl)
    unfold eqN; simp [this], en, ed⟩
  generalize (r && !eqN (t / h) 0) = r2 at *
  generalize (r && !eqN (t / g) 0) = r3 at *
  generalize t / g = t3 at *
  generalize t / h = t' at *
  generalize q / h = e' at *
  generalize xg * e' = u at *
  have S1 := Lib.hid hs0
  have S2 := Lib.hid s2
  have G1 := Lib.hid g1
  have O1 := Lib.hid o1
  have O2 := Lib.hid o2
  have O3 := Lib.hid o3
  have P1 := Lib.hid p1
  have P2 := Lib.hid p2
  have L1 := Lib.hid l1
  have Z1 := Lib.hid z1
  have D1 := Lib.hid d1
  have D2 := Lib.hid d2
  have G2 := Lib.hid g2
  have H1 := Lib.hid h1
  have M1 := Lib.hid m1
  have E0 := Lib.hid e0
  have E1 := Lib.hid e1
  have HT := Lib.hid hT
  clear hs0 s2 g1 o1 o2 o3 p1 p2 l1 z1 d1 d2 g2 h1 m1 e0 e1 hT ha hb hp hq hp0 hq0 ga gb ht hx en ed hg hh hhg hgp hxp hyq hx0 hay hbx hkg hxe heq hsa hsb hz ez hht hhq hpq0 z0 ez' ez0 v1 v2 hn hr
  go_enter Tryd.func57, Tryd.ntmps57
  go_upto_region 1 with (fail)
  refine wp_world (fun x => (∀ o, x.cell? ⟨w.heap.size, o, none⟩ = (#[.bool (s0), .int .u64 ↑a0, .int .u64 0, .int .u64 0, .int .u64 0, .bool false, .int .u64 ↑p0, .int .u64 0, .int .u64 0, .int .u64 0] : Array Value)[o]?) ∧ (∀ o, x.cell? ⟨w.heap.size + 1, o, none⟩ = (#[.bool (sb), .int .u64 ↑b, .int .u64 0, .int .u64 0, .int .u64 0, .bool false, .int .u64 ↑q, .int .u64 0, .int .u64 0, .int .u64 0] : Array Value)[o]?) ∧ (∀ o, x.cell? ⟨w.heap.size + 1 + 1, o, none⟩ = (#[.bool false, .int .u64 0, .int .u64 0, .int .u64 0, .int .u64 0, .bool false, .int .u64 0, .int .u64 0, .int .u64 0, .int .u64 0] : Array Value)[o]?) ∧ (∀ o, x.frozen? ⟨w.heap.size, o, none⟩ = false) ∧ (∀ o, x.frozen? ⟨w.heap.size + 1, o, none⟩ = false) ∧ (∀ o, x.frozen? ⟨w.heap.size + 1 + 1, o, none⟩ = false) ∧ w.heap.size < x.heap.size ∧ w.heap.size + 1 < x.heap.size ∧ w.heap.size + 1 + 1 < x.heap.size ∧ Below w.heap.size w x) (by (repeat' apply And.intro) <;> first | (intro o; simp [go_sem]; done) | ((repeat' first | (with_reducible first | exact Bq0 | assumption | refine Bq1 ?_ | refine Bq2 ?_ | refine Bq3 ?_ ?_ | refine Bq4 ?_ (by assumption)) | go_size); done) | omega | (simp [go_sem]; done) | (simp [go_sem]; omega)) ?_
  rintro A ⟨hAc0, hAc1, hAc2, hAf0, hAf1, hAf2, hAz0, hAz1, hAz2, hAb⟩
  have KA := fun (x : World) (hx : Below A.heap.size A x) => And.intro (keep_cell hx hAz0 hAc0) (keep_cell hx hAz1 hAc1)
  have TA := HT.out.later hAb
  have J2 := fun (x : World) (hx : Below A.heap.size A x) => And.intro (keep_cell hx hAz2 hAc2) (And.intro (keep_frozen hx hAz0 hAf0) (And.intro (keep_frozen hx hAz1 hAf1) (And.intro (keep_frozen hx hAz2 hAf2) (And.intro (keep_lt hx hAz0) (And.intro (keep_lt hx hAz1) (keep_lt hx hAz2))))))
  refine wp_region_linL (S := fun x => Below A.heap.size A x) (by kernel_rfl) (by kernel_rfl) ((Below.refl _ _).drew) ?_
  (first | (refine linL_take (i := 0) (v := undef) rfl (by kernel_rfl) (by kernel_rfl) (gives_no (by rfl)) ?_; (try simp only [Nq1, Nq2, Nq3, Act.put, Nq4, Nq5, Nq6])) | (refine linL_take (i := 0) (v := ?lv124) rfl (by kernel_rfl) (by kernel_rfl) (gives_val (by rfl) (fun x hx => ?lh124)) ?lr124; (case lh124 => ((have hk := KA x hx); clear hx; go_simp; (try with_reducible rfl))); (try simp only [Nq1, Nq2, Nq3, Act.put, Nq4, Nq5, Nq6])))
  (first | (refine linL_take (i := 1) (v := undef) rfl (by kernel_rfl) (by kernel_rfl) (gives_no (by rfl)) ?_; (try simp only [Nq1, Nq2, Nq3, Act.put, Nq4, Nq5, Nq6])) | (refine linL_take (i := 1) rfl (by kernel_rfl) (by kernel_rfl) (gives_call (by rfl) (fun x hx => ?lh125) (lin_belowT TA S1.out)) ?lr125; (case lh125 => go_simp); (try simp only [Nq1, Nq2, Nq3, Act.put, Nq4, Nq5, Nq6])))
  (first | (refine linL_take (i := 2) (v := undef) rfl (by kernel_rfl) (by kernel_rfl) (gives_no (by rfl)) ?_; (try simp only [Nq1, Nq2, Nq3, Act.put, Nq4, Nq5, Nq6])) | (refine linL_take (i := 2) (v := ?lv126) rfl (by kernel_rfl) (by kernel_rfl) (gives_val (by rfl) (fun x hx => ?lh126)) ?lr126; (case lh126 => ((have hk := KA x hx); clear hx; go_simp; (try with_reducible rfl))); (try simp only [Nq1, Nq2, Nq3, Act.put, Nq4, Nq5, Nq6])))
  (first | (refine linL_take (i := 3) (v := undef) rfl (by kernel_rfl) (by kernel_rfl) (gives_no (by rfl)) ?_; (try simp only [Nq1, Nq2, Nq3, Act.put, Nq4, Nq5, Nq6])) | (refine linL_take (i := 3) rfl (by kernel_rfl) (by kernel_rfl) (gives_call (by rfl) (fun x hx => ?lh127) (lin_belowT TA S2.out)) ?lr127; (case lh127 => go_simp); (try simp only [Nq1, Nq2, Nq3, Act.put, Nq4, Nq5, Nq6])))
  refine linL_leaf (by kernel_rfl) (fun Ax hAx => ?_)
  have hkAx := KA Ax hAx
  refine wpAny_ready (rs := [4]) (by decide +kernel) (by simp) (AllReady.cons rfl (fun KK hKK => ?_) AllReady.nil)
  go_simp
  (refine hKK _ _ ?_); clear hKK KK; (try simp only [Nq1, Nq2, Nq3, Act.put, Nq4, Nq5, Nq6])
  refine wpAny_ready (rs := [5]) (by decide +kernel) (by simp) (AllReady.cons rfl (fun KK hKK => ?_) AllReady.nil)
  go_simp
  (refine hKK _ _ ?_); clear hKK KK; (try simp only [Nq1, Nq2, Nq3, Act.put, Nq4, Nq5, Nq6])
  refine wpAny_done (by kernel_rfl) ?_ _
  obtain ⟨hBc2, hBf0, hBf1, hBf2, hBz0, hBz1, hBz2⟩ := J2 Ax hAx
  obtain ⟨hBc0, hBc1⟩ := hkAx
  have hB := below_after hAb hAx
  clear J2 KA TA
  go_upto_region 2 with (fail)
  refine wp_world (fun x => (∀ o, x.cell? ⟨w.heap.size, o, none⟩ = (#[.bool (sa), .int .u64 ↑a, .int .u64 0, .int .u64 0, .int .u64 0, .bool false, .int .u64 ↑p, .int .u64 0, .int .u64 0, .int .u64 0] : Array Value)[o]?) ∧ (∀ o, x.cell? ⟨w.heap.size + 1, o, none⟩ = (#[.bool (sb), .int .u64 ↑b, .int .u64 0, .int .u64 0, .int .u64 0, .bool false, .int .u64 ↑q, .int .u64 0, .int .u64 0, .int .u64 0] : Array Value)[o]?) ∧ (∀ o, x.cell? ⟨w.heap.size + 1 + 1, o, none⟩ = (#[.bool false, .int .u64 0, .int .u64 0, .int .u64 0, .int .u64 0, .bool false, .int .u64 0, .int .u64 0, .int .u64 0, .int .u64 0] : Array Value)[o]?) ∧ (∀ o, x.frozen? ⟨w.heap.size, o, none⟩ = false) ∧ (∀ o, x.frozen? ⟨w.heap.size + 1, o, none⟩ = false) ∧ (∀ o, x.frozen? ⟨w.heap.size + 1 + 1, o, none⟩ = false) ∧ w.heap.size < x.heap.size ∧ w.heap.size + 1 < x.heap.size ∧ w.heap.size + 1 + 1 < x.heap.size ∧ Below w.heap.size w x)
    ⟨set10_far (by omega) (set10_at hBc0), set10_at (set10_far (by omega) hBc1), set10_far (by omega) (set10_far (by omega) hBc2), fun o => by simp only [World.frozen?_setCell]; exact hBf0 o, fun o => by simp only [World.frozen?_setCell]; exact hBf1 o, fun o => by simp only [World.frozen?_setCell]; exact hBf2 o, by simpa using hBz0, by simpa using hBz1, by simpa using hBz2, by (repeat' first | (with_reducible first | exact Bq0 | assumption | refine Bq1 ?_ | refine Bq2 ?_ | refine Bq3 ?_ ?_ | refine Bq4 ?_ (by assumption)) | go_size)⟩ ?_
  rintro wc ⟨hCc0, hCc1, hCc2, hCf0, hCf1, hCf2, hCz0, hCz1, hCz2, hB⟩
  clear hBc0 hBc1 hBc2 hBf0 hBf1 hBf2 hBz0 hBz1 hBz2 hAc0 hAc1 hAc2 hAf0 hAf1 hAf2 hAz0 hAz1 hAz2 hAb hAx
  go_wp2_with fail
  ((with_reducible refine (G1.out _ (HT.out.later (by (repeat' first | (with_reducible first | exact Bq0 | assumption | refine Bq1 ?_ | refine Bq2 ?_ | refine Bq3 ?_ ?_ | refine Bq4 ?_ (by assumption)) | go_size)))).mono ?_); rintro e w1 ⟨rfl, hb1⟩)
  obtain ⟨hc1, hf1⟩ := bcell hb1
  go_upto_region 3 with (fail)
  have e0 := Nat.lt_of_lt_of_le hCz0 hb1.size
  have e1 := Nat.lt_of_lt_of_le hCz1 hb1.size
  have e2 := Nat.lt_of_lt_of_le hCz2 hb1.size
  refine wp_world (fun x => (∀ o, x.cell? ⟨w.heap.size, o, none⟩ = (#[.bool (sa), .int .u64 ↑a, .int .u64 0, .int .u64 0, .int .u64 0, .bool false, .int .u64 ↑p, .int .u64 0, .int .u64 0, .int .u64 0] : Array Value)[o]?) ∧ (∀ o, x.cell? ⟨w.heap.size + 1, o, none⟩ = (#[.bool (sb), .int .u64 ↑b, .int .u64 0, .int .u64 0, .int .u64 0, .bool false, .int .u64 ↑q, .int .u64 0, .int .u64 0, .int .u64 0] : Array Value)[o]?) ∧ (∀ o, x.cell? ⟨w.heap.size + 1 + 1, o, none⟩ = (#[.bool false, .int .u64 0, .int .u64 0, .int .u64 0, .int .u64 0, .bool false, .int .u64 0, .int .u64 0, .int .u64 0, .int .u64 0] : Array Value)[o]?) ∧ (∀ o, x.cell? ⟨w1.heap.size, o, none⟩ = (#[.bool false, .int .u64 ↑g, .int .u64 0, .int .u64 0, .int .u64 0] : Array Value)[o]?) ∧ (∀ o, x.frozen? ⟨w.heap.size, o, none⟩ = false) ∧ (∀ o, x.frozen? ⟨w.heap.size + 1, o, none⟩ = false) ∧ (∀ o, x.frozen? ⟨w.heap.size + 1 + 1, o, none⟩ = false) ∧ (∀ o, x.frozen? ⟨w1.heap.size, o, none⟩ = false) ∧ w.heap.size < x.heap.size ∧ w.heap.size + 1 < x.heap.size ∧ w.heap.size + 1 + 1 < x.heap.size ∧ w1.heap.size < x.heap.size ∧ Below w.heap.size w x) (by (repeat' apply And.intro) <;> first | (intro o; simp [go_sem, hc1, hf1, hCc0, hCc1, hCc2, hCf0, hCf1, hCf2, hCz0, hCz1, hCz2, e0, e1, e2]; done) | ((repeat' first | (with_reducible first | exact Bq0 | assumption | refine Bq1 ?_ | refine Bq2 ?_ | refine Bq3 ?_ ?_ | refine Bq4 ?_ (by assumption)) | go_size); done) | omega | (simp [go_sem, hc1, hf1, hCc0, hCc1, hCc2, hCf0, hCf1, hCf2, hCz0, hCz1, hCz2, e0, e1, e2]; done) | (simp [go_sem, hc1, hf1, hCc0, hCc1, hCc2, hCf0, hCf1, hCf2, hCz0, hCz1, hCz2, e0, e1, e2]; omega)) ?_
  rintro D ⟨hDc0, hDc1, hDc2, hDc3, hDf0, hDf1, hDf2, hDf3, hDz0, hDz1, hDz2, hDz3, hDb⟩
  have en := e2
  clear hb1 hc1 hf1 hCc0 hCc1 hCc2 hCf0 hCf1 hCf2 hCz0 hCz1 hCz2 hB e0 e1 e2
  go_cut [7, 8] (fun v7 v8 wx => ∃ B7 B8 : Nat, v7 = .pointer (some ⟨B7, 0, none⟩) ∧ v8 = .pointer (some ⟨B8, 0, none⟩) ∧ B7 ≠ B8 ∧ New D.heap.size B7 #[.bool false, .int .u64 ↑xg, .int .u64 0, .int .u64 0, .int .u64 0] wx ∧ New D.heap.size B8 #[.bool false, .int .u64 ↑yg, .int .u64 0, .int .u64 0, .int .u64 0] wx ∧ Below D.heap.size D wx)
  case first =>
    refine wp_world (fun x => (∀ o, x.cell? ⟨w.heap.size, o, none⟩ = (#[.bool (sa), .int .u64 ↑a, .int .u64 0, .int .u64 0, .int .u64 0, .bool false, .int .u64 ↑p, .int .u64 0, .int .u64 0, .int .u64 0] : Array Value)[o]?) ∧ (∀ o, x.cell? ⟨w.heap.size + 1, o, none⟩ = (#[.bool (sb), .int .u64 ↑b, .int .u64 0, .int .u64 0, .int .u64 0, .bool false, .int .u64 ↑q, .int .u64 0, .int .u64 0, .int .u64 0] : Array Value)[o]?) ∧ (∀ o, x.cell? ⟨w1.heap.size, o, none⟩ = (#[.bool false, .int .u64 ↑g, .int .u64 0, .int .u64 0, .int .u64 0] : Array Value)[o]?) ∧ w.heap.size < x.heap.size ∧ w.heap.size + 1 < x.heap.size ∧ w1.heap.size < x.heap.size ∧ Below D.heap.size D x) (by (repeat' apply And.intro) <;> first | (intro o; simp [go_sem, hDc0, hDc1, hDc3, hDz0, hDz1, hDz3]; done) | (simp [go_sem, hDc0, hDc1, hDc3, hDz0, hDz1, hDz3]; done) | (intro o; rcases o with _ | _ | _ | _ | _ | o <;> simp [go_sem, hDc0, hDc1, hDc3, hDz0, hDz1, hDz3]; done) | ((repeat' first | (with_reducible first | exact Bq0 | assumption | refine Bq1 ?_ | refine Bq2 ?_ | refine Bq3 ?_ ?_ | refine Bq4 ?_ (by assumption)) | go_size); done) | omega | (simp [go_sem, hDc0, hDc1, hDc3, hDz0, hDz1, hDz3]; omega)) ?_
    rintro E ⟨hEc0, hEc1, hEc2, hEz0, hEz1, hEz2, hEb⟩
    have hEK := Lib.hid (show ∀ x : World, Kp E.heap.size [] E x → ((∀ o, x.cell? ⟨w.heap.size, o, none⟩ = (#[.bool (sa), .int .u64 ↑a, .int .u64 0, .int .u64 0, .int .u64 0, .bool false, .int .u64 ↑p, .int .u64 0, .int .u64 0, .int .u64 0] : Array Value)[o]?) ∧ (∀ o, x.cell? ⟨w.heap.size + 1, o, none⟩ = (#[.bool (sb), .int .u64 ↑b, .int .u64 0, .int .u64 0, .int .u64 0, .bool false, .int .u64 ↑q, .int .u64 0, .int .u64 0, .int .u64 0] : Array Value)[o]?) ∧ (∀ o, x.cell? ⟨w1.heap.size, o, none⟩ = (#[.bool false, .int .u64 ↑g, .int .u64 0, .int .u64 0, .int .u64 0] : Array Value)[o]?) ∧ w.heap.size < x.heap.size ∧ w.heap.size + 1 < x.heap.size ∧ w1.heap.size < x.heap.size ∧ E.heap.size ≤ x.heap.size) from fun x k => ⟨fun o => (k.cell _ o hEz0 (by first | (simp; done) | (simp; omega))).trans (hEc0 o), fun o => (k.cell _ o hEz1 (by first | (simp; done) | (simp; omega))).trans (hEc1 o), fun o => (k.cell _ o hEz2 (by first | (simp; done) | (simp; omega))).trans (hEc2 o), Nat.lt_of_lt_of_le hEz0 k.size, Nat.lt_of_lt_of_le hEz1 k.size, Nat.lt_of_lt_of_le hEz2 k.size, k.size⟩)
    go_region_held3 (fun x => (∀ o, x.cell? ⟨w.heap.size, o, none⟩ = (#[.bool (sa), .int .u64 ↑a, .int .u64 0, .int .u64 0, .int .u64 0, .bool false, .int .u64 ↑p, .int .u64 0, .int .u64 0, .int .u64 0] : Array Value)[o]?) ∧ (∀ o, x.cell? ⟨w.heap.size + 1, o, none⟩ = (#[.bool (sb), .int .u64 ↑b, .int .u64 0, .int .u64 0, .int .u64 0, .bool false, .int .u64 ↑q, .int .u64 0, .int .u64 0, .int .u64 0] : Array Value)[o]?) ∧ (∀ o, x.cell? ⟨w1.heap.size, o, none⟩ = (#[.bool false, .int .u64 ↑g, .int .u64 0, .int .u64 0, .int .u64 0] : Array Value)[o]?) ∧ w.heap.size < x.heap.size ∧ w.heap.size + 1 < x.heap.size ∧ w1.heap.size < x.heap.size ∧ E.heap.size ≤ x.heap.size) ((refine hEK.out _ ?_; (repeat first | (with_reducible first | assumption | exact Kq0 | refine Kq1 ?_ | refine Kq2 ?_) | ((with_reducible refine Kq3 ?_ ?_); focus first | (left; go_size; done) | (right; simp; done)) | (with_reducible apply Kp.later; assumption)))) ((first | (go_at_call 74; (with_reducible refine (O1.out _).mono ?_); rintro e E_1 ⟨rfl, hbE_1⟩; have hkE_1 : Kp E.heap.size [] E E_1 := (by (repeat first | (with_reducible first | assumption | exact Kq0 | refine Kq1 ?_ | refine Kq2 ?_) | ((with_reducible refine Kq3 ?_ ?_); focus first | (left; go_size; done) | (right; simp; done)) | (with_reducible apply Kp.later; assumption))); obtain ⟨hE_1k, hE_1g⟩ := bcell hbE_1; have hE_1r := hkE_1.size; have hE_1s := hbE_1.size; (try simp at hE_1s); have hE_1z : E.heap.size ≤ E_1.heap.size := (by (first | exact hE_1s | exact Nat.le_of_lt hE_1s | exact Nat.le_of_lt (Nat.lt_of_succ_lt hE_1s))); (try (have hE_1t00 : E.heap.size < E_1.heap.size := (by (first | exact hE_1s | exact Nat.lt_of_succ_lt hE_1s)))); (try (have hE_1t01 : E.heap.size + 1 < E_1.heap.size := (by exact hE_1s)))) | (go_at_call 74; (with_reducible refine (O2.out _).mono ?_); rintro e E_2 ⟨rfl, hbE_2⟩; have hkE_2 : Kp E.heap.size [] E E_2 := (by (repeat first | (with_reducible first | assumption | exact Kq0 | refine Kq1 ?_ | refine Kq2 ?_) | ((with_reducible refine Kq3 ?_ ?_); focus first | (left; go_size; done) | (right; simp; done)) | (with_reducible apply Kp.later; assumption))); obtain ⟨hE_2k, hE_2g⟩ := bcell hbE_2; have hE_2r := hkE_2.size; have hE_2s := hbE_2.size; (try simp at hE_2s); have hE_2z : E_1.heap.size ≤ E_2.heap.size := (by (first | exact hE_2s | exact Nat.le_of_lt hE_2s | exact Nat.le_of_lt (Nat.lt_of_succ_lt hE_2s))); (try (have hE_2t10 : E_1.heap.size < E_2.heap.size := (by (first | exact hE_2s | exact Nat.lt_of_succ_lt hE_2s)))); (try (have hE_2t11 : E_1.heap.size + 1 < E_2.heap.size := (by exact hE_2s))); (try (have hE_2t00 : E.heap.size < E_2.heap.size := Nat.lt_of_lt_of_le hE_1t00 hE_2z)); (try (have hE_2t01 : E.heap.size + 1 < E_2.heap.size := Nat.lt_of_lt_of_le hE_1t01 hE_2z)))))
    all_goals
      go_wp2
      go_meet
      case rel =>
        (repeat (rename_i hjunk; clear hjunk)); have hwsE := hEb.size; skip
        refine ⟨_, _, rfl, rfl, ?_, ⟨?_, ?_, ?_, ?_⟩, ⟨?_, ?_, ?_, ?_⟩, by (repeat' first | (with_reducible first | exact Bq0 | assumption | refine Bq1 ?_ | refine Bq2 ?_ | refine Bq3 ?_ ?_ | refine Bq4 ?_ (by assumption)) | go_size)⟩
        · (first | (with_reducible refine Nat.ne_of_lt ?_; with_reducible assumption) | (with_reducible refine Nat.ne_of_gt ?_; with_reducible assumption) | (with_reducible exact Nat.ne_of_lt (Nat.lt_add_one _)) | (with_reducible exact Nat.ne_of_gt (Nat.lt_add_one _)) | omega)
        · (first | (with_reducible assumption) | omega | (simp; omega))
        · ((try simp only [Zq1, Zq2, Zq3]); (first | (with_reducible assumption) | omega))
        · (repeat (first | (with_reducible assumption) | (with_reducible exact new_cells _ _ _) | (with_reducible exact new_cells2 _ _ _ _) | (with_reducible refine keep_drew ?_) | (with_reducible apply set8_at) | (with_reducible apply set5_at) | ((with_reducible refine new_cells_at ?_ _ _); (focus ((simp only [World.size_alloc, World.size_drew, World.size_setCell]; done)))) | ((with_reducible refine set8_far ?_ ?_); (focus ((first | (with_reducible refine Nat.ne_of_lt ?_; with_reducible assumption) | (with_reducible refine Nat.ne_of_gt ?_; with_reducible assumption) | (with_reducible exact Nat.ne_of_lt (Nat.lt_add_one _)) | (with_reducible exact Nat.ne_of_gt (Nat.lt_add_one _)) | omega)))) | ((with_reducible refine set5_far ?_ ?_); (focus ((first | (with_reducible refine Nat.ne_of_lt ?_; with_reducible assumption) | (with_reducible refine Nat.ne_of_gt ?_; with_reducible assumption) | (with_reducible exact Nat.ne_of_lt (Nat.lt_add_one _)) | (with_reducible exact Nat.ne_of_gt (Nat.lt_add_one _)) | omega)))) | ((with_reducible refine keep_cell_a ?_ ?_); (focus (((try simp only [Zq1, Zq2, Zq3]); (first | (with_reducible assumption) | omega))))) | ((with_reducible refine keep_cell hbE_2 ?_ ?_); (focus (((try simp only [Zq1, Zq2, Zq3]); (first | (with_reducible assumption) | omega))))) | ((with_reducible refine keep_cell hbE_1 ?_ ?_); (focus (((try simp only [Zq1, Zq2, Zq3]); (first | (with_reducible assumption) | omega)))))))
        · (repeat (first | (with_reducible assumption) | (with_reducible exact new_frozen _ _ _) | (with_reducible exact new_frozen2 _ _ _ _) | (with_reducible refine keep_frozen_drew ?_) | (with_reducible refine keep_frozen_c ?_) | ((with_reducible refine new_frozen_at ?_ _ _); (focus ((simp only [World.size_alloc, World.size_drew, World.size_setCell]; done)))) | ((with_reducible refine keep_frozen_a ?_ ?_); (focus (((try simp only [Zq1, Zq2, Zq3]); (first | (with_reducible assumption) | omega))))) | ((with_reducible refine keep_frozen hbE_2 ?_ ?_); (focus (((try simp only [Zq1, Zq2, Zq3]); (first | (with_reducible assumption) | omega))))) | ((with_reducible refine keep_frozen hbE_1 ?_ ?_); (focus (((try simp only [Zq1, Zq2, Zq3]); (first | (with_reducible assumption) | omega)))))))
        · (first | (with_reducible assumption) | omega | (simp; omega))
        · ((try simp only [Zq1, Zq2, Zq3]); (first | (with_reducible assumption) | omega))
        · (repeat (first | (with_reducible assumption) | (with_reducible exact new_cells _ _ _) | (with_reducible exact new_cells2 _ _ _ _) | (with_reducible refine keep_drew ?_) | (with_reducible apply set8_at) | (with_reducible apply set5_at) | ((with_reducible refine new_cells_at ?_ _ _); (focus ((simp only [World.size_alloc, World.size_drew, World.size_setCell]; done)))) | ((with_reducible refine set8_far ?_ ?_); (focus ((first | (with_reducible refine Nat.ne_of_lt ?_; with_reducible assumption) | (with_reducible refine Nat.ne_of_gt ?_; with_reducible assumption) | (with_reducible exact Nat.ne_of_lt (Nat.lt_add_one _)) | (with_reducible exact Nat.ne_of_gt (Nat.lt_add_one _)) | omega)))) | ((with_reducible refine set5_far ?_ ?_); (focus ((first | (with_reducible refine Nat.ne_of_lt ?_; with_reducible assumption) | (with_reducible refine Nat.ne_of_gt ?_; with_reducible assumption) | (with_reducible exact Nat.ne_of_lt (Nat.lt_add_one _)) | (with_reducible exact Nat.ne_of_gt (Nat.lt_add_one _)) | omega)))) | ((with_reducible refine keep_cell_a ?_ ?_); (focus (((try simp only [Zq1, Zq2, Zq3]); (first | (with_reducible assumption) | omega))))) | ((with_reducible refine keep_cell hbE_2 ?_ ?_); (focus (((try simp only [Zq1, Zq2, Zq3]); (first | (with_reducible assumption) | omega))))) | ((with_reducible refine keep_cell hbE_1 ?_ ?_); (focus (((try simp only [Zq1, Zq2, Zq3]); (first | (with_reducible assumption) | omega)))))))
        · (repeat (first | (with_reducible assumption) | (with_reducible exact new_frozen _ _ _) | (with_reducible exact new_frozen2 _ _ _ _) | (with_reducible refine keep_frozen_drew ?_) | (with_reducible refine keep_frozen_c ?_) | ((with_reducible refine new_frozen_at ?_ _ _); (focus ((simp only [World.size_alloc, World.size_drew, World.size_setCell]; done)))) | ((with_reducible refine keep_frozen_a ?_ ?_); (focus (((try simp only [Zq1, Zq2, Zq3]); (first | (with_reducible assumption) | omega))))) | ((with_reducible refine keep_frozen hbE_2 ?_ ?_); (focus (((try simp only [Zq1, Zq2, Zq3]); (first | (with_reducible assumption) | omega))))) | ((with_reducible refine keep_frozen hbE_1 ?_ ?_); (focus (((try simp only [Zq1, Zq2, Zq3]); (first | (with_reducible assumption) | omega)))))))
  case rest =>
    obtain ⟨B7, B8, rfl, rfl, hne, N7, N8, hE⟩ := hcut
    have hsE := hE.size
    have n7 := N7.lt
    have n8 := N8.lt
    have f0 := keep_lt hE hDz0
    have f1 := keep_lt hE hDz1
    have f2 := keep_lt hE hDz2
    have f3 := keep_lt hE hDz3
    go_upto_region 4 with (fail)
    refine wp_world (fun x => (∀ o, x.cell? ⟨w.heap.size, o, none⟩ = (#[.bool (sa), .int .u64 ↑a, .int .u64 0, .int .u64 0, .int .u64 0, .bool false, .int .u64 ↑p, .int .u64 0, .int .u64 0, .int .u64 0] : Array Value)[o]?) ∧ (∀ o, x.cell? ⟨w.heap.size + 1, o, none⟩ = (#[.bool (sb), .int .u64 ↑b, .int .u64 0, .int .u64 0, .int .u64 0, .bool false, .int .u64 ↑q, .int .u64 0, .int .u64 0, .int .u64 0] : Array Value)[o]?) ∧ (∀ o, x.cell? ⟨w.heap.size + 1 + 1, o, none⟩ = (#[.bool false, .int .u64 0, .int .u64 0, .int .u64 0, .int .u64 0, .bool false, .int .u64 0, .int .u64 0, .int .u64 0, .int .u64 0] : Array Value)[o]?) ∧ (∀ o, x.cell? ⟨w1.heap.size, o, none⟩ = (#[.bool false, .int .u64 ↑g, .int .u64 0, .int .u64 0, .int .u64 0] : Array Value)[o]?) ∧ (∀ o, x.cell? ⟨B7, o, none⟩ = (#[.bool false, .int .u64 ↑xg, .int .u64 0, .int .u64 0, .int .u64 0] : Array Value)[o]?) ∧ (∀ o, x.cell? ⟨B8, o, none⟩ = (#[.bool false, .int .u64 ↑yg, .int .u64 0, .int .u64 0, .int .u64 0] : Array Value)[o]?) ∧ (∀ o, x.frozen? ⟨w.heap.size, o, none⟩ = false) ∧ (∀ o, x.frozen? ⟨w.heap.size + 1, o, none⟩ = false) ∧ (∀ o, x.frozen? ⟨w.heap.size + 1 + 1, o, none⟩ = false) ∧ (∀ o, x.frozen? ⟨w1.heap.size, o, none⟩ = false) ∧ (∀ o, x.frozen? ⟨B7, o, none⟩ = false) ∧ (∀ o, x.frozen? ⟨B8, o, none⟩ = false) ∧ w.heap.size < x.heap.size ∧ w.heap.size + 1 < x.heap.size ∧ w.heap.size + 1 + 1 < x.heap.size ∧ w1.heap.size < x.heap.size ∧ B7 < x.heap.size ∧ B8 < x.heap.size ∧ Below w.heap.size w x) ⟨keep_cell hE hDz0 hDc0, keep_cell hE hDz1 hDc1, keep_cell hE hDz2 hDc2, keep_cell hE hDz3 hDc3, N7.cell, N8.cell, fun o => by simp [go_sem, keep_frozen hE hDz0 hDf0, keep_frozen hE hDz1 hDf1, keep_frozen hE hDz2 hDf2, keep_frozen hE hDz3 hDf3, N7.froz, N8.froz], fun o => by simp [go_sem, keep_frozen hE hDz0 hDf0, keep_frozen hE hDz1 hDf1, keep_frozen hE hDz2 hDf2, keep_frozen hE hDz3 hDf3, N7.froz, N8.froz], fun o => by simp [go_sem, keep_frozen hE hDz0 hDf0, keep_frozen hE hDz1 hDf1, keep_frozen hE hDz2 hDf2, keep_frozen hE hDz3 hDf3, N7.froz, N8.froz], fun o => by simp [go_sem, keep_frozen hE hDz0 hDf0, keep_frozen hE hDz1 hDf1, keep_frozen hE hDz2 hDf2, keep_frozen hE hDz3 hDf3, N7.froz, N8.froz], fun o => by simp [go_sem, keep_frozen hE hDz0 hDf0, keep_frozen hE hDz1 hDf1, keep_frozen hE hDz2 hDf2, keep_frozen hE hDz3 hDf3, N7.froz, N8.froz], fun o => by simp [go_sem, keep_frozen hE hDz0 hDf0, keep_frozen hE hDz1 hDf1, keep_frozen hE hDz2 hDf2, keep_frozen hE hDz3 hDf3, N7.froz, N8.froz], by (first | omega | (simp [go_sem, keep_frozen hE hDz0 hDf0, keep_frozen hE hDz1 hDf1, keep_frozen hE hDz2 hDf2, keep_frozen hE hDz3 hDf3, N7.froz, N8.froz]; done) | (simp [go_sem, keep_frozen hE hDz0 hDf0, keep_frozen hE hDz1 hDf1, keep_frozen hE hDz2 hDf2, keep_frozen hE hDz3 hDf3, N7.froz, N8.froz]; omega)), by (first | omega | (simp [go_sem, keep_frozen hE hDz0 hDf0, keep_frozen hE hDz1 hDf1, keep_frozen hE hDz2 hDf2, keep_frozen hE hDz3 hDf3, N7.froz, N8.froz]; done) | (simp [go_sem, keep_frozen hE hDz0 hDf0, keep_frozen hE hDz1 hDf1, keep_frozen hE hDz2 hDf2, keep_frozen hE hDz3 hDf3, N7.froz, N8.froz]; omega)), by (first | omega | (simp [go_sem, keep_frozen hE hDz0 hDf0, keep_frozen hE hDz1 hDf1, keep_frozen hE hDz2 hDf2, keep_frozen hE hDz3 hDf3, N7.froz, N8.froz]; done) | (simp [go_sem, keep_frozen hE hDz0 hDf0, keep_frozen hE hDz1 hDf1, keep_frozen hE hDz2 hDf2, keep_frozen hE hDz3 hDf3, N7.froz, N8.froz]; omega)), by (first | omega | (simp [go_sem, keep_frozen hE hDz0 hDf0, keep_frozen hE hDz1 hDf1, keep_frozen hE hDz2 hDf2, keep_frozen hE hDz3 hDf3, N7.froz, N8.froz]; done) | (simp [go_sem, keep_frozen hE hDz0 hDf0, keep_frozen hE hDz1 hDf1, keep_frozen hE hDz2 hDf2, keep_frozen hE hDz3 hDf3, N7.froz, N8.froz]; omega)), by (first | omega | (simp [go_sem, keep_frozen hE hDz0 hDf0, keep_frozen hE hDz1 hDf1, keep_frozen hE hDz2 hDf2, keep_frozen hE hDz3 hDf3, N7.froz, N8.froz]; done) | (simp [go_sem, keep_frozen hE hDz0 hDf0, keep_frozen hE hDz1 hDf1, keep_frozen hE hDz2 hDf2, keep_frozen hE hDz3 hDf3, N7.froz, N8.froz]; omega)), by (first | omega | (simp [go_sem, keep_frozen hE hDz0 hDf0, keep_frozen hE hDz1 hDf1, keep_frozen hE hDz2 hDf2, keep_frozen hE hDz3 hDf3, N7.froz, N8.froz]; done) | (simp [go_sem, keep_frozen hE hDz0 hDf0, keep_frozen hE hDz1 hDf1, keep_frozen hE hDz2 hDf2, keep_frozen hE hDz3 hDf3, N7.froz, N8.froz]; omega)), by (repeat' first | (with_reducible first | exact Bq0 | assumption | refine Bq1 ?_ | refine Bq2 ?_ | refine Bq3 ?_ ?_ | refine Bq4 ?_ (by assumption)) | go_size)⟩ ?_
    rintro F ⟨hFc0, hFc1, hFc2, hFc3, hFc4, hFc5, hFf0, hFf1, hFf2, hFf3, hFf4, hFf5, hFz0, hFz1, hFz2, hFz3, hFz4, hFz5, hFb⟩
    clear hE hDc0 hDc1 hDc2 hDc3 hDf0 hDf1 hDf2 hDf3 hDz0 hDz1 hDz2 hDz3 hDb N7 N8 n7 n8 f0 f1 f2 f3 hsE
    go_cut [9] (fun v9 wx => ∃ B9 : Nat, v9 = .pointer (some ⟨B9, 0, none⟩) ∧ New F.heap.size B9 #[.bool (r), .int .u64 ↑t, .int .u64 0, .int .u64 0, .int .u64 0, .int .u64 0, .int .u64 0, .int .u64 0, .int .u64 0, .int .u64 0] wx ∧ Below F.heap.size F wx)
    case first =>
      refine wp_world (fun x => (∀ o, x.cell? ⟨w.heap.size, o, none⟩ = (#[.bool (sa), .int .u64 ↑a, .int .u64 0, .int .u64 0, .int .u64 0, .bool false, .int .u64 ↑p, .int .u64 0, .int .u64 0, .int .u64 0] : Array Value)[o]?) ∧ (∀ o, x.cell? ⟨w.heap.size + 1, o, none⟩ = (#[.bool (sb), .int .u64 ↑b, .int .u64 0, .int .u64 0, .int .u64 0, .bool false, .int .u64 ↑q, .int .u64 0, .int .u64 0, .int .u64 0] : Array Value)[o]?) ∧ (∀ o, x.cell? ⟨B7, o, none⟩ = (#[.bool false, .int .u64 ↑xg, .int .u64 0, .int .u64 0, .int .u64 0] : Array Value)[o]?) ∧ (∀ o, x.cell? ⟨B8, o, none⟩ = (#[.bool false, .int .u64 ↑yg, .int .u64 0, .int .u64 0, .int .u64 0] : Array Value)[o]?) ∧ w.heap.size < x.heap.size ∧ w.heap.size + 1 < x.heap.size ∧ B7 < x.heap.size ∧ B8 < x.heap.size ∧ Below F.heap.size F x) (by (repeat' apply And.intro) <;> first | (intro o; simp [go_sem, hFc0, hFc1, hFc4, hFc5, hFz0, hFz1, hFz4, hFz5]; done) | (simp [go_sem, hFc0, hFc1, hFc4, hFc5, hFz0, hFz1, hFz4, hFz5]; done) | (intro o; rcases o with _ | _ | _ | _ | _ | o <;> simp [go_sem, hFc0, hFc1, hFc4, hFc5, hFz0, hFz1, hFz4, hFz5]; done) | ((repeat' first | (with_reducible first | exact Bq0 | assumption | refine Bq1 ?_ | refine Bq2 ?_ | refine Bq3 ?_ ?_ | refine Bq4 ?_ (by assumption)) | go_size); done) | omega | (simp [go_sem, hFc0, hFc1, hFc4, hFc5, hFz0, hFz1, hFz4, hFz5]; omega)) ?_
      rintro K ⟨hKc0, hKc1, hKc2, hKc3, hKz0, hKz1, hKz2, hKz3, hKb⟩
      have hKK := Lib.hid (show ∀ x : World, Kp K.heap.size [] K x → ((∀ o, x.cell? ⟨w.heap.size, o, none⟩ = (#[.bool (sa), .int .u64 ↑a, .int .u64 0, .int .u64 0, .int .u64 0, .bool false, .int .u64 ↑p, .int .u64 0, .int .u64 0, .int .u64 0] : Array Value)[o]?) ∧ (∀ o, x.cell? ⟨w.heap.size + 1, o, none⟩ = (#[.bool (sb), .int .u64 ↑b, .int .u64 0, .int .u64 0, .int .u64 0, .bool false, .int .u64 ↑q, .int .u64 0, .int .u64 0, .int .u64 0] : Array Value)[o]?) ∧ (∀ o, x.cell? ⟨B7, o, none⟩ = (#[.bool false, .int .u64 ↑xg, .int .u64 0, .int .u64 0, .int .u64 0] : Array Value)[o]?) ∧ (∀ o, x.cell? ⟨B8, o, none⟩ = (#[.bool false, .int .u64 ↑yg, .int .u64 0, .int .u64 0, .int .u64 0] : Array Value)[o]?) ∧ w.heap.size < x.heap.size ∧ w.heap.size + 1 < x.heap.size ∧ B7 < x.heap.size ∧ B8 < x.heap.size ∧ K.heap.size ≤ x.heap.size) from fun x k => ⟨fun o => (k.cell _ o hKz0 (by first | (simp; done) | (simp; omega))).trans (hKc0 o), fun o => (k.cell _ o hKz1 (by first | (simp; done) | (simp; omega))).trans (hKc1 o), fun o => (k.cell _ o hKz2 (by first | (simp; done) | (simp; omega))).trans (hKc2 o), fun o => (k.cell _ o hKz3 (by first | (simp; done) | (simp; omega))).trans (hKc3 o), Nat.lt_of_lt_of_le hKz0 k.size, Nat.lt_of_lt_of_le hKz1 k.size, Nat.lt_of_lt_of_le hKz2 k.size, Nat.lt_of_lt_of_le hKz3 k.size, k.size⟩)
      go_region_held3 (fun x => (∀ o, x.cell? ⟨w.heap.size, o, none⟩ = (#[.bool (sa), .int .u64 ↑a, .int .u64 0, .int .u64 0, .int .u64 0, .bool false, .int .u64 ↑p, .int .u64 0, .int .u64 0, .int .u64 0] : Array Value)[o]?) ∧ (∀ o, x.cell? ⟨w.heap.size + 1, o, none⟩ = (#[.bool (sb), .int .u64 ↑b, .int .u64 0, .int .u64 0, .int .u64 0, .bool false, .int .u64 ↑q, .int .u64 0, .int .u64 0, .int .u64 0] : Array Value)[o]?) ∧ (∀ o, x.cell? ⟨B7, o, none⟩ = (#[.bool false, .int .u64 ↑xg, .int .u64 0, .int .u64 0, .int .u64 0] : Array Value)[o]?) ∧ (∀ o, x.cell? ⟨B8, o, none⟩ = (#[.bool false, .int .u64 ↑yg, .int .u64 0, .int .u64 0, .int .u64 0] : Array Value)[o]?) ∧ w.heap.size < x.heap.size ∧ w.heap.size + 1 < x.heap.size ∧ B7 < x.heap.size ∧ B8 < x.heap.size ∧ K.heap.size ≤ x.heap.size) ((refine hKK.out _ ?_; (repeat first | (with_reducible first | assumption | exact Kq0 | refine Kq1 ?_ | refine Kq2 ?_) | ((with_reducible refine Kq3 ?_ ?_); focus first | (left; go_size; done) | (right; simp; done)) | (with_reducible apply Kp.later; assumption)))) ((first | (go_at_call 76; (with_reducible refine (P1.out _).mono ?_); rintro e K_1 ⟨rfl, hbK_1⟩; have hkK_1 : Kp K.heap.size [] K K_1 := (by (repeat first | (with_reducible first | assumption | exact Kq0 | refine Kq1 ?_ | refine Kq2 ?_) | ((with_reducible refine Kq3 ?_ ?_); focus first | (left; go_size; done) | (right; simp; done)) | (with_reducible apply Kp.later; assumption))); obtain ⟨hK_1k, hK_1g⟩ := bcell hbK_1; have hK_1r := hkK_1.size; have hK_1s := hbK_1.size; (try simp at hK_1s); have hK_1z : K.heap.size ≤ K_1.heap.size := (by (first | exact hK_1s | exact Nat.le_of_lt hK_1s | exact Nat.le_of_lt (Nat.lt_of_succ_lt hK_1s))); (try (have hK_1t00 : K.heap.size < K_1.heap.size := (by (first | exact hK_1s | exact Nat.lt_of_succ_lt hK_1s)))); (try (have hK_1t01 : K.heap.size + 1 < K_1.heap.size := (by exact hK_1s)))) | (go_at_call 76; (with_reducible refine (P2.out _).mono ?_); rintro e K_2 ⟨rfl, hbK_2⟩; have hkK_2 : Kp K.heap.size [] K K_2 := (by (repeat first | (with_reducible first | assumption | exact Kq0 | refine Kq1 ?_ | refine Kq2 ?_) | ((with_reducible refine Kq3 ?_ ?_); focus first | (left; go_size; done) | (right; simp; done)) | (with_reducible apply Kp.later; assumption))); obtain ⟨hK_2k, hK_2g⟩ := bcell hbK_2; have hK_2r := hkK_2.size; have hK_2s := hbK_2.size; (try simp at hK_2s); have hK_2z : K_1.heap.size ≤ K_2.heap.size := (by (first | exact hK_2s | exact Nat.le_of_lt hK_2s | exact Nat.le_of_lt (Nat.lt_of_succ_lt hK_2s))); (try (have hK_2t10 : K_1.heap.size < K_2.heap.size := (by (first | exact hK_2s | exact Nat.lt_of_succ_lt hK_2s)))); (try (have hK_2t11 : K_1.heap.size + 1 < K_2.heap.size := (by exact hK_2s))); (try (have hK_2t00 : K.heap.size < K_2.heap.size := Nat.lt_of_lt_of_le hK_1t00 hK_2z)); (try (have hK_2t01 : K.heap.size + 1 < K_2.heap.size := Nat.lt_of_lt_of_le hK_1t01 hK_2z))) | (go_at_call 75; (with_reducible refine (L1.out _).mono ?_); rintro e K_3 ⟨rfl, hbK_3⟩; have hkK_3 : Kp K.heap.size [] K K_3 := (by (repeat first | (with_reducible first | assumption | exact Kq0 | refine Kq1 ?_ | refine Kq2 ?_) | ((with_reducible refine Kq3 ?_ ?_); focus first | (left; go_size; done) | (right; simp; done)) | (with_reducible apply Kp.later; assumption))); obtain ⟨hK_3k, hK_3g⟩ := bcell hbK_3; have hK_3r := hkK_3.size; have hK_3s := hbK_3.size; (try simp at hK_3s); have hK_3z : K_2.heap.size ≤ K_3.heap.size := (by (first | exact hK_3s | exact Nat.le_of_lt hK_3s | exact Nat.le_of_lt (Nat.lt_of_succ_lt hK_3s))); (try (have hK_3t20 : K_2.heap.size < K_3.heap.size := (by (first | exact hK_3s | exact Nat.lt_of_succ_lt hK_3s)))); (try (have hK_3t21 : K_2.heap.size + 1 < K_3.heap.size := (by exact hK_3s))); (try (have hK_3t00 : K.heap.size < K_3.heap.size := Nat.lt_of_lt_of_le hK_2t00 hK_3z)); (try (have hK_3t01 : K.heap.size + 1 < K_3.heap.size := Nat.lt_of_lt_of_le hK_2t01 hK_3z)); (try (have hK_3t10 : K_1.heap.size < K_3.heap.size := Nat.lt_of_lt_of_le hK_2t10 hK_3z)); (try (have hK_3t11 : K_1.heap.size + 1 < K_3.heap.size := Nat.lt_of_lt_of_le hK_2t11 hK_3z)))))
      all_goals
        go_wp2
        go_meet
        case rel =>
          (repeat (rename_i hjunk; clear hjunk)); have hwsK := hKb.size; skip
          refine ⟨_, rfl, ?_⟩
          first
            | ((with_reducible refine new_alloc ?_ ?_)
               · (first | (with_reducible assumption) | omega | (simp; omega))
               · (repeat' first | (with_reducible first | exact Bq0 | assumption | refine Bq1 ?_ | refine Bq2 ?_ | refine Bq3 ?_ ?_ | refine Bq4 ?_ (by assumption)) | go_size))
            | ((with_reducible refine new10 ?_ ?_ ?_ ?_ ?_ ?_)
               · (first | (with_reducible assumption) | omega | (simp; omega))
               · ((try simp only [Zq1, Zq2, Zq3]); (first | (with_reducible assumption) | omega))
               · simp only [Int.natCast_zero, Int.cast_ofNat_Int]
                 (repeat (first | (with_reducible assumption) | (with_reducible exact new_cells _ _ _) | (with_reducible exact new_cells2 _ _ _ _) | (with_reducible refine keep_drew ?_) | (with_reducible apply set8_at) | (with_reducible apply set5_at) | ((with_reducible refine new_cells_at ?_ _ _); (focus ((simp only [World.size_alloc, World.size_drew, World.size_setCell]; done)))) | ((with_reducible refine set8_far ?_ ?_); (focus ((first | (with_reducible refine Nat.ne_of_lt ?_; with_reducible assumption) | (with_reducible refine Nat.ne_of_gt ?_; with_reducible assumption) | (with_reducible exact Nat.ne_of_lt (Nat.lt_add_one _)) | (with_reducible exact Nat.ne_of_gt (Nat.lt_add_one _)) | omega)))) | ((with_reducible refine set5_far ?_ ?_); (focus ((first | (with_reducible refine Nat.ne_of_lt ?_; with_reducible assumption) | (with_reducible refine Nat.ne_of_gt ?_; with_reducible assumption) | (with_reducible exact Nat.ne_of_lt (Nat.lt_add_one _)) | (with_reducible exact Nat.ne_of_gt (Nat.lt_add_one _)) | omega)))) | ((with_reducible refine keep_cell_a ?_ ?_); (focus (((try simp only [Zq1, Zq2, Zq3]); (first | (with_reducible assumption) | omega))))) | ((with_reducible refine keep_cell hbK_3 ?_ ?_); (focus (((try simp only [Zq1, Zq2, Zq3]); (first | (with_reducible assumption) | omega))))) | ((with_reducible refine keep_cell hbK_2 ?_ ?_); (focus (((try simp only [Zq1, Zq2, Zq3]); (first | (with_reducible assumption) | omega))))) | ((with_reducible refine keep_cell hbK_1 ?_ ?_); (focus (((try simp only [Zq1, Zq2, Zq3]); (first | (with_reducible assumption) | omega)))))))
               · (repeat (first | (with_reducible assumption) | (with_reducible exact new_frozen _ _ _) | (with_reducible exact new_frozen2 _ _ _ _) | (with_reducible refine keep_frozen_drew ?_) | (with_reducible refine keep_frozen_c ?_) | ((with_reducible refine new_frozen_at ?_ _ _); (focus ((simp only [World.size_alloc, World.size_drew, World.size_setCell]; done)))) | ((with_reducible refine keep_frozen_a ?_ ?_); (focus (((try simp only [Zq1, Zq2, Zq3]); (first | (with_reducible assumption) | omega))))) | ((with_reducible refine keep_frozen hbK_3 ?_ ?_); (focus (((try simp only [Zq1, Zq2, Zq3]); (first | (with_reducible assumption) | omega))))) | ((with_reducible refine keep_frozen hbK_2 ?_ ?_); (focus (((try simp only [Zq1, Zq2, Zq3]); (first | (with_reducible assumption) | omega))))) | ((with_reducible refine keep_frozen hbK_1 ?_ ?_); (focus (((try simp only [Zq1, Zq2, Zq3]); (first | (with_reducible assumption) | omega)))))))
               · (first | (with_reducible assumption) | omega | (simp; omega))
               · (repeat' first | (with_reducible first | exact Bq0 | assumption | refine Bq1 ?_ | refine Bq2 ?_ | refine Bq3 ?_ ?_ | refine Bq4 ?_ (by assumption)) | go_size))
    case rest =>
      obtain ⟨B9, rfl, N9, hG⟩ := hcut
      have hsG := hG.size
      have n9 := N9.lt
      have f1 := keep_lt hG hFz1
      have f2 := keep_lt hG hFz2
      have f3 := keep_lt hG hFz3
      have f4 := keep_lt hG hFz4
      go_upto_region 5 with (fail)
      refine wp_world (fun x => (∀ o, x.cell? ⟨w.heap.size + 1, o, none⟩ = (#[.bool (sb), .int .u64 ↑b, .int .u64 0, .int .u64 0, .int .u64 0, .bool false, .int .u64 ↑q, .int .u64 0, .int .u64 0, .int .u64 0] : Array Value)[o]?) ∧ (∀ o, x.cell? ⟨w.heap.size + 1 + 1, o, none⟩ = (#[.bool false, .int .u64 0, .int .u64 0, .int .u64 0, .int .u64 0, .bool false, .int .u64 0, .int .u64 0, .int .u64 0, .int .u64 0] : Array Value)[o]?) ∧ (∀ o, x.cell? ⟨w1.heap.size, o, none⟩ = (#[.bool false, .int .u64 ↑g, .int .u64 0, .int .u64 0, .int .u64 0] : Array Value)[o]?) ∧ (∀ o, x.cell? ⟨B7, o, none⟩ = (#[.bool false, .int .u64 ↑xg, .int .u64 0, .int .u64 0, .int .u64 0] : Array Value)[o]?) ∧ (∀ o, x.cell? ⟨B9, o, none⟩ = (#[.bool (r), .int .u64 ↑t, .int .u64 0, .int .u64 0, .int .u64 0, .int .u64 0, .int .u64 0, .int .u64 0, .int .u64 0, .int .u64 0] : Array Value)[o]?) ∧ (∀ o, x.frozen? ⟨w.heap.size + 1, o, none⟩ = false) ∧ (∀ o, x.frozen? ⟨w.heap.size + 1 + 1, o, none⟩ = false) ∧ (∀ o, x.frozen? ⟨w1.heap.size, o, none⟩ = false) ∧ (∀ o, x.frozen? ⟨B7, o, none⟩ = false) ∧ (∀ o, x.frozen? ⟨B9, o, none⟩ = false) ∧ w.heap.size + 1 < x.heap.size ∧ w.heap.size + 1 + 1 < x.heap.size ∧ w1.heap.size < x.heap.size ∧ B7 < x.heap.size ∧ B9 < x.heap.size ∧ Below w.heap.size w x) ⟨keep_cell hG hFz1 hFc1, keep_cell hG hFz2 hFc2, keep_cell hG hFz3 hFc3, keep_cell hG hFz4 hFc4, N9.cell, fun o => by simp [go_sem, keep_frozen hG hFz1 hFf1, keep_frozen hG hFz2 hFf2, keep_frozen hG hFz3 hFf3, keep_frozen hG hFz4 hFf4, N9.froz], fun o => by simp [go_sem, keep_frozen hG hFz1 hFf1, keep_frozen hG hFz2 hFf2, keep_frozen hG hFz3 hFf3, keep_frozen hG hFz4 hFf4, N9.froz], fun o => by simp [go_sem, keep_frozen hG hFz1 hFf1, keep_frozen hG hFz2 hFf2, keep_frozen hG hFz3 hFf3, keep_frozen hG hFz4 hFf4, N9.froz], fun o => by simp [go_sem, keep_frozen hG hFz1 hFf1, keep_frozen hG hFz2 hFf2, keep_frozen hG hFz3 hFf3, keep_frozen hG hFz4 hFf4, N9.froz], fun o => by simp [go_sem, keep_frozen hG hFz1 hFf1, keep_frozen hG hFz2 hFf2, keep_frozen hG hFz3 hFf3, keep_frozen hG hFz4 hFf4, N9.froz], by (first | omega | (simp [go_sem, keep_frozen hG hFz1 hFf1, keep_frozen hG hFz2 hFf2, keep_frozen hG hFz3 hFf3, keep_frozen hG hFz4 hFf4, N9.froz]; done) | (simp [go_sem, keep_frozen hG hFz1 hFf1, keep_frozen hG hFz2 hFf2, keep_frozen hG hFz3 hFf3, keep_frozen hG hFz4 hFf4, N9.froz]; omega)), by (first | omega | (simp [go_sem, keep_frozen hG hFz1 hFf1, keep_frozen hG hFz2 hFf2, keep_frozen hG hFz3 hFf3, keep_frozen hG hFz4 hFf4, N9.froz]; done) | (simp [go_sem, keep_frozen hG hFz1 hFf1, keep_frozen hG hFz2 hFf2, keep_frozen hG hFz3 hFf3, keep_frozen hG hFz4 hFf4, N9.froz]; omega)), by (first | omega | (simp [go_sem, keep_frozen hG hFz1 hFf1, keep_frozen hG hFz2 hFf2, keep_frozen hG hFz3 hFf3, keep_frozen hG hFz4 hFf4, N9.froz]; done) | (simp [go_sem, keep_frozen hG hFz1 hFf1, keep_frozen hG hFz2 hFf2, keep_frozen hG hFz3 hFf3, keep_frozen hG hFz4 hFf4, N9.froz]; omega)), by (first | omega | (simp [go_sem, keep_frozen hG hFz1 hFf1, keep_frozen hG hFz2 hFf2, keep_frozen hG hFz3 hFf3, keep_frozen hG hFz4 hFf4, N9.froz]; done) | (simp [go_sem, keep_frozen hG hFz1 hFf1, keep_frozen hG hFz2 hFf2, keep_frozen hG hFz3 hFf3, keep_frozen hG hFz4 hFf4, N9.froz]; omega)), by (first | omega | (simp [go_sem, keep_frozen hG hFz1 hFf1, keep_frozen hG hFz2 hFf2, keep_frozen hG hFz3 hFf3, keep_frozen hG hFz4 hFf4, N9.froz]; done) | (simp [go_sem, keep_frozen hG hFz1 hFf1, keep_frozen hG hFz2 hFf2, keep_frozen hG hFz3 hFf3, keep_frozen hG hFz4 hFf4, N9.froz]; omega)), by (repeat' first | (with_reducible first | exact Bq0 | assumption | refine Bq1 ?_ | refine Bq2 ?_ | refine Bq3 ?_ ?_ | refine Bq4 ?_ (by assumption)) | go_size)⟩ ?_
      rintro G ⟨hGc0, hGc1, hGc2, hGc3, hGc4, hGf0, hGf1, hGf2, hGf3, hGf4, hGz0, hGz1, hGz2, hGz3, hGz4, hGb⟩
      clear hG hFc0 hFc1 hFc2 hFc3 hFc4 hFc5 hFf0 hFf1 hFf2 hFf3 hFf4 hFf5 hFz0 hFz1 hFz2 hFz3 hFz4 hFz5 hFb N9 n9 f1 f2 f3 f4 hsG
      by_cases h0 : t = 0
      · obtain ⟨rfl, rfl, rfl⟩ := E0.out h0
        have Z2 := Z1.out
        rw [show eqN t 0 = true by unfold eqN; simpa using h0] at Z2
        have Z3 := Lib.hid Z2
        clear Z2 h0 E0 E1
        (try simp only [Int.natCast_zero, Int.natCast_one, Int.cast_ofNat_Int])
        go_wp2_with fail
        ((with_reducible refine (Z3.out _).mono ?_); rintro e w2 ⟨rfl, hb2⟩)
        have hk2 : Kp G.heap.size [] G w2 := (by (repeat first | (with_reducible first | assumption | exact Kq0 | refine Kq1 ?_ | refine Kq2 ?_) | ((with_reducible refine Kq3 ?_ ?_); focus first | (left; go_size; done) | (right; simp; done)) | (with_reducible apply Kp.later; assumption)))
        have h2c0 := fun o => (hk2.cell _ o hGz0 (by simp)).trans (hGc0 o)
        have h2f0 := fun o => (hk2.froz _ o hGz0).trans (hGf0 o)
        have h2z0 := Nat.lt_of_lt_of_le hGz0 hk2.size
        have h2c1 := fun o => (hk2.cell _ o hGz1 (by simp)).trans (hGc1 o)
        have h2f1 := fun o => (hk2.froz _ o hGz1).trans (hGf1 o)
        have h2z1 := Nat.lt_of_lt_of_le hGz1 hk2.size
        have h2c2 := fun o => (hk2.cell _ o hGz2 (by simp)).trans (hGc2 o)
        have h2f2 := fun o => (hk2.froz _ o hGz2).trans (hGf2 o)
        have h2z2 := Nat.lt_of_lt_of_le hGz2 hk2.size
        have h2c3 := fun o => (hk2.cell _ o hGz3 (by simp)).trans (hGc3 o)
        have h2f3 := fun o => (hk2.froz _ o hGz3).trans (hGf3 o)
        have h2z3 := Nat.lt_of_lt_of_le hGz3 hk2.size
        have h2c4 := fun o => (hk2.cell _ o hGz4 (by simp)).trans (hGc4 o)
        have h2f4 := fun o => (hk2.froz _ o hGz4).trans (hGf4 o)
        have h2z4 := Nat.lt_of_lt_of_le hGz4 hk2.size
        go_wp2_with fail
        ((with_reducible refine (oneS _).mono ?_); rintro e w3 ⟨rfl, hb3⟩)
        have hk3 : Kp G.heap.size [] G w3 := (by (repeat first | (with_reducible first | assumption | exact Kq0 | refine Kq1 ?_ | refine Kq2 ?_) | ((with_reducible refine Kq3 ?_ ?_); focus first | (left; go_size; done) | (right; simp; done)) | (with_reducible apply Kp.later; assumption)))
        have h3c0 := fun o => (hk3.cell _ o hGz0 (by simp)).trans (hGc0 o)
        have h3f0 := fun o => (hk3.froz _ o hGz0).trans (hGf0 o)
        have h3z0 := Nat.lt_of_lt_of_le hGz0 hk3.size
        have h3c1 := fun o => (hk3.cell _ o hGz1 (by simp)).trans (hGc1 o)
        have h3f1 := fun o => (hk3.froz _ o hGz1).trans (hGf1 o)
        have h3z1 := Nat.lt_of_lt_of_le hGz1 hk3.size
        have h3c2 := fun o => (hk3.cell _ o hGz2 (by simp)).trans (hGc2 o)
        have h3f2 := fun o => (hk3.froz _ o hGz2).trans (hGf2 o)
        have h3z2 := Nat.lt_of_lt_of_le hGz2 hk3.size
        have h3c3 := fun o => (hk3.cell _ o hGz3 (by simp)).trans (hGc3 o)
        have h3f3 := fun o => (hk3.froz _ o hGz3).trans (hGf3 o)
        have h3z3 := Nat.lt_of_lt_of_le hGz3 hk3.size
        have h3c4 := fun o => (hk3.cell _ o hGz4 (by simp)).trans (hGc4 o)
        have h3f4 := fun o => (hk3.froz _ o hGz4).trans (hGf4 o)
        have h3z4 := Nat.lt_of_lt_of_le hGz4 hk3.size
        go_wp2_with ((with_reducible show bodyPost _ _ _ _ _ _); refine bodyPost_ret (by simp [results, Tryd.results57, go_sem, h3c0, h3f0, h3z0, h3c1, h3f1, h3z1, h3c2, h3f2, h3z2, h3c3, h3f3, h3z3, h3c4, h3f4, h3z4]; try rfl) rfl ?_; exact ⟨rfl, by (repeat' first | (with_reducible first | exact Bq0 | assumption | refine Bq1 ?_ | refine Bq2 ?_ | refine Bq3 ?_ ?_ | refine Bq4 ?_ (by assumption)) | go_size)⟩)
      · have Z2 := Z1.out
        rw [show eqN t 0 = false by unfold eqN; simpa using h0] at Z2
        have Z3 := Lib.hid Z2
        obtain ⟨er, es, et⟩ := E1.out h0
        replace er := er.symm
        replace es := es.symm
        replace et := et.symm
        subst er es et
        clear Z2 h0 E0 E1
        go_wp2_with fail
        ((with_reducible refine (Z3.out _).mono ?_); rintro e w2 ⟨rfl, hb2⟩)
        have hk2 : Kp G.heap.size [] G w2 := (by (repeat first | (with_reducible first | assumption | exact Kq0 | refine Kq1 ?_ | refine Kq2 ?_) | ((with_reducible refine Kq3 ?_ ?_); focus first | (left; go_size; done) | (right; simp; done)) | (with_reducible apply Kp.later; assumption)))
        have h2c0 := fun o => (hk2.cell _ o hGz0 (by simp)).trans (hGc0 o)
        have h2f0 := fun o => (hk2.froz _ o hGz0).trans (hGf0 o)
        have h2z0 := Nat.lt_of_lt_of_le hGz0 hk2.size
        have h2c1 := fun o => (hk2.cell _ o hGz1 (by simp)).trans (hGc1 o)
        have h2f1 := fun o => (hk2.froz _ o hGz1).trans (hGf1 o)
        have h2z1 := Nat.lt_of_lt_of_le hGz1 hk2.size
        have h2c2 := fun o => (hk2.cell _ o hGz2 (by simp)).trans (hGc2 o)
        have h2f2 := fun o => (hk2.froz _ o hGz2).trans (hGf2 o)
        have h2z2 := Nat.lt_of_lt_of_le hGz2 hk2.size
        have h2c3 := fun o => (hk2.cell _ o hGz3 (by simp)).trans (hGc3 o)
        have h2f3 := fun o => (hk2.froz _ o hGz3).trans (hGf3 o)
        have h2z3 := Nat.lt_of_lt_of_le hGz3 hk2.size
        have h2c4 := fun o => (hk2.cell _ o hGz4 (by simp)).trans (hGc4 o)
        have h2f4 := fun o => (hk2.froz _ o hGz4).trans (hGf4 o)
        have h2z4 := Nat.lt_of_lt_of_le hGz4 hk2.size
        go_wp2_with fail
        ((with_reducible refine (D1.out _).mono ?_); rintro e w3 ⟨rfl, hb3⟩)
        have hk3 : Kp G.heap.size [] G w3 := (by (repeat first | (with_reducible first | assumption | exact Kq0 | refine Kq1 ?_ | refine Kq2 ?_) | ((with_reducible refine Kq3 ?_ ?_); focus first | (left; go_size; done) | (right; simp; done)) | (with_reducible apply Kp.later; assumption)))
        have h3c0 := fun o => (hk3.cell _ o hGz0 (by simp)).trans (hGc0 o)
        have h3f0 := fun o => (hk3.froz _ o hGz0).trans (hGf0 o)
        have h3z0 := Nat.lt_of_lt_of_le hGz0 hk3.size
        have h3c1 := fun o => (hk3.cell _ o hGz1 (by simp)).trans (hGc1 o)
        have h3f1 := fun o => (hk3.froz _ o hGz1).trans (hGf1 o)
        have h3z1 := Nat.lt_of_lt_of_le hGz1 hk3.size
        have h3c2 := fun o => (hk3.cell _ o hGz2 (by simp)).trans (hGc2 o)
        have h3f2 := fun o => (hk3.froz _ o hGz2).trans (hGf2 o)
        have h3z2 := Nat.lt_of_lt_of_le hGz2 hk3.size
        have h3c3 := fun o => (hk3.cell _ o hGz3 (by simp)).trans (hGc3 o)
        have h3f3 := fun o => (hk3.froz _ o hGz3).trans (hGf3 o)
        have h3z3 := Nat.lt_of_lt_of_le hGz3 hk3.size
        have h3c4 := fun o => (hk3.cell _ o hGz4 (by simp)).trans (hGc4 o)
        have h3f4 := fun o => (hk3.froz _ o hGz4).trans (hGf4 o)
        have h3z4 := Nat.lt_of_lt_of_le hGz4 hk3.size
        go_wp2_with fail
        ((with_reducible refine (G2.out _ (HT.out.later (by (repeat' first | (with_reducible first | exact Bq0 | assumption | refine Bq1 ?_ | refine Bq2 ?_ | refine Bq3 ?_ ?_ | refine Bq4 ?_ (by assumption)) | go_size)))).mono ?_); rintro e w4 ⟨rfl, hb4⟩)
        have hk4 : Kp G.heap.size [] G w4 := (by (repeat first | (with_reducible first | assumption | exact Kq0 | refine Kq1 ?_ | refine Kq2 ?_) | ((with_reducible refine Kq3 ?_ ?_); focus first | (left; go_size; done) | (right; simp; done)) | (with_reducible apply Kp.later; assumption)))
        have h4c0 := fun o => (hk4.cell _ o hGz0 (by simp)).trans (hGc0 o)
        have h4f0 := fun o => (hk4.froz _ o hGz0).trans (hGf0 o)
        have h4z0 := Nat.lt_of_lt_of_le hGz0 hk4.size
        have h4c1 := fun o => (hk4.cell _ o hGz1 (by simp)).trans (hGc1 o)
        have h4f1 := fun o => (hk4.froz _ o hGz1).trans (hGf1 o)
        have h4z1 := Nat.lt_of_lt_of_le hGz1 hk4.size
        have h4c2 := fun o => (hk4.cell _ o hGz2 (by simp)).trans (hGc2 o)
        have h4f2 := fun o => (hk4.froz _ o hGz2).trans (hGf2 o)
        have h4z2 := Nat.lt_of_lt_of_le hGz2 hk4.size
        have h4c3 := fun o => (hk4.cell _ o hGz3 (by simp)).trans (hGc3 o)
        have h4f3 := fun o => (hk4.froz _ o hGz3).trans (hGf3 o)
        have h4z3 := Nat.lt_of_lt_of_le hGz3 hk4.size
        have h4c4 := fun o => (hk4.cell _ o hGz4 (by simp)).trans (hGc4 o)
        have h4f4 := fun o => (hk4.froz _ o hGz4).trans (hGf4 o)
        have h4z4 := Nat.lt_of_lt_of_le hGz4 hk4.size
        go_upto_region 9 with (fail)
        refine wp_world (fun x => (∀ o, x.cell? ⟨w.heap.size + 1, o, none⟩ = (#[.bool (sb), .int .u64 ↑b, .int .u64 0, .int .u64 0, .int .u64 0, .bool false, .int .u64 ↑q, .int .u64 0, .int .u64 0, .int .u64 0] : Array Value)[o]?) ∧ (∀ o, x.cell? ⟨w.heap.size + 1 + 1, o, none⟩ = (#[.bool false, .int .u64 0, .int .u64 0, .int .u64 0, .int .u64 0, .bool false, .int .u64 0, .int .u64 0, .int .u64 0, .int .u64 0] : Array Value)[o]?) ∧ (∀ o, x.cell? ⟨B7, o, none⟩ = (#[.bool false, .int .u64 ↑xg, .int .u64 0, .int .u64 0, .int .u64 0] : Array Value)[o]?) ∧ (∀ o, x.cell? ⟨B9, o, none⟩ = (#[.bool (r), .int .u64 ↑t, .int .u64 0, .int .u64 0, .int .u64 0, .int .u64 0, .int .u64 0, .int .u64 0, .int .u64 0, .int .u64 0] : Array Value)[o]?) ∧ (∀ o, x.cell? ⟨w4.heap.size, o, none⟩ = (#[.bool false, .int .u64 ↑h, .int .u64 0, .int .u64 0, .int .u64 0] : Array Value)[o]?) ∧ (∀ o, x.frozen? ⟨w.heap.size + 1, o, none⟩ = false) ∧ (∀ o, x.frozen? ⟨w.heap.size + 1 + 1, o, none⟩ = false) ∧ (∀ o, x.frozen? ⟨B7, o, none⟩ = false) ∧ (∀ o, x.frozen? ⟨B9, o, none⟩ = false) ∧ (∀ o, x.frozen? ⟨w4.heap.size, o, none⟩ = false) ∧ w.heap.size + 1 < x.heap.size ∧ w.heap.size + 1 + 1 < x.heap.size ∧ B7 < x.heap.size ∧ B9 < x.heap.size ∧ w4.heap.size < x.heap.size ∧ Below w.heap.size w x) (by (repeat' apply And.intro) <;> first | (intro o; simp [go_sem, h4c0, h4f0, h4z0, h4c1, h4f1, h4z1, h4c2, h4f2, h4z2, h4c3, h4f3, h4z3, h4c4, h4f4, h4z4]; done) | ((repeat' first | (with_reducible first | exact Bq0 | assumption | refine Bq1 ?_ | refine Bq2 ?_ | refine Bq3 ?_ ?_ | refine Bq4 ?_ (by assumption)) | go_size); done) | omega | (simp [go_sem, h4c0, h4f0, h4z0, h4c1, h4f1, h4z1, h4c2, h4f2, h4z2, h4c3, h4f3, h4z3, h4c4, h4f4, h4z4]; done) | (simp [go_sem, h4c0, h4f0, h4z0, h4c1, h4f1, h4z1, h4c2, h4f2, h4z2, h4c3, h4f3, h4z3, h4c4, h4f4, h4z4]; omega)) ?_
        rintro H ⟨hHc0, hHc1, hHc2, hHc3, hHc4, hHf0, hHf1, hHf2, hHf3, hHf4, hHz0, hHz1, hHz2, hHz3, hHz4, hHb⟩
        clear hb2 hk2 hb3 hk3 hb4 hk4 h2c0 h2c1 h2c2 h2c3 h2c4 h2f0 h2f1 h2f2 h2f3 h2f4 h2z0 h2z1 h2z2 h2z3 h2z4 h3c0 h3c1 h3c2 h3c3 h3c4 h3f0 h3f1 h3f2 h3f3 h3f4 h3z0 h3z1 h3z2 h3z3 h3z4 h4c0 h4c1 h4c2 h4c3 h4c4 h4f0 h4f1 h4f2 h4f3 h4f4 h4z0 h4z1 h4z2 h4z3 h4z4
        clear hGc0 hGc1 hGc2 hGc3 hGc4 hGf0 hGf1 hGf2 hGf3 hGf4 hGz0 hGz1 hGz2 hGz3 hGz4 hGb
        go_wp2_with fail
        ((with_reducible refine (D2.out _).mono ?_); rintro e w5 ⟨rfl, hb5⟩)
        have hk5 : Kp H.heap.size [] H w5 := (by (repeat first | (with_reducible first | assumption | exact Kq0 | refine Kq1 ?_ | refine Kq2 ?_) | ((with_reducible refine Kq3 ?_ ?_); focus first | (left; go_size; done) | (right; simp; done)) | (with_reducible apply Kp.later; assumption)))
        have h5c0 := fun o => (hk5.cell _ o hHz0 (by simp)).trans (hHc0 o)
        have h5f0 := fun o => (hk5.froz _ o hHz0).trans (hHf0 o)
        have h5z0 := Nat.lt_of_lt_of_le hHz0 hk5.size
        have h5c1 := fun o => (hk5.cell _ o hHz1 (by simp)).trans (hHc1 o)
        have h5f1 := fun o => (hk5.froz _ o hHz1).trans (hHf1 o)
        have h5z1 := Nat.lt_of_lt_of_le hHz1 hk5.size
        have h5c2 := fun o => (hk5.cell _ o hHz2 (by simp)).trans (hHc2 o)
        have h5f2 := fun o => (hk5.froz _ o hHz2).trans (hHf2 o)
        have h5z2 := Nat.lt_of_lt_of_le hHz2 hk5.size
        have h5c3 := fun o => (hk5.cell _ o hHz3 (by simp)).trans (hHc3 o)
        have h5f3 := fun o => (hk5.froz _ o hHz3).trans (hHf3 o)
        have h5z3 := Nat.lt_of_lt_of_le hHz3 hk5.size
        have h5c4 := fun o => (hk5.cell _ o hHz4 (by simp)).trans (hHc4 o)
        have h5f4 := fun o => (hk5.froz _ o hHz4).trans (hHf4 o)
        have h5z4 := Nat.lt_of_lt_of_le hHz4 hk5.size
        go_wp2_with fail
        ((with_reducible refine (H1.out _).mono ?_); rintro e w6 ⟨rfl, hb6⟩)
        have hk6 : Kp H.heap.size [] H w6 := (by (repeat first | (with_reducible first | assumption | exact Kq0 | refine Kq1 ?_ | refine Kq2 ?_) | ((with_reducible refine Kq3 ?_ ?_); focus first | (left; go_size; done) | (right; simp; done)) | (with_reducible apply Kp.later; assumption)))
        have h6c0 := fun o => (hk6.cell _ o hHz0 (by simp)).trans (hHc0 o)
        have h6f0 := fun o => (hk6.froz _ o hHz0).trans (hHf0 o)
        have h6z0 := Nat.lt_of_lt_of_le hHz0 hk6.size
        have h6c1 := fun o => (hk6.cell _ o hHz1 (by simp)).trans (hHc1 o)
        have h6f1 := fun o => (hk6.froz _ o hHz1).trans (hHf1 o)
        have h6z1 := Nat.lt_of_lt_of_le hHz1 hk6.size
        have h6c2 := fun o => (hk6.cell _ o hHz2 (by simp)).trans (hHc2 o)
        have h6f2 := fun o => (hk6.froz _ o hHz2).trans (hHf2 o)
        have h6z2 := Nat.lt_of_lt_of_le hHz2 hk6.size
        have h6c3 := fun o => (hk6.cell _ o hHz3 (by simp)).trans (hHc3 o)
        have h6f3 := fun o => (hk6.froz _ o hHz3).trans (hHf3 o)
        have h6z3 := Nat.lt_of_lt_of_le hHz3 hk6.size
        have h6c4 := fun o => (hk6.cell _ o hHz4 (by simp)).trans (hHc4 o)
        have h6f4 := fun o => (hk6.froz _ o hHz4).trans (hHf4 o)
        have h6z4 := Nat.lt_of_lt_of_le hHz4 hk6.size
        go_upto_region 11 with (fail)
        refine wp_world (fun x => (∀ o, x.cell? ⟨w.heap.size + 1, o, none⟩ = (#[.bool (sb), .int .u64 ↑b, .int .u64 0, .int .u64 0, .int .u64 0, .bool false, .int .u64 ↑q, .int .u64 0, .int .u64 0, .int .u64 0] : Array Value)[o]?) ∧ (∀ o, x.cell? ⟨w.heap.size + 1 + 1, o, none⟩ = (#[.bool false, .int .u64 0, .int .u64 0, .int .u64 0, .int .u64 0, .bool false, .int .u64 0, .int .u64 0, .int .u64 0, .int .u64 0] : Array Value)[o]?) ∧ (∀ o, x.cell? ⟨B7, o, none⟩ = (#[.bool false, .int .u64 ↑xg, .int .u64 0, .int .u64 0, .int .u64 0] : Array Value)[o]?) ∧ (∀ o, x.cell? ⟨w4.heap.size, o, none⟩ = (#[.bool false, .int .u64 ↑h, .int .u64 0, .int .u64 0, .int .u64 0] : Array Value)[o]?) ∧ (∀ o, x.cell? ⟨w6.heap.size, o, none⟩ = (#[.bool (r2), .int .u64 ↑t', .int .u64 0, .int .u64 0, .int .u64 0] : Array Value)[o]?) ∧ (∀ o, x.frozen? ⟨w.heap.size + 1, o, none⟩ = false) ∧ (∀ o, x.frozen? ⟨w.heap.size + 1 + 1, o, none⟩ = false) ∧ (∀ o, x.frozen? ⟨B7, o, none⟩ = false) ∧ (∀ o, x.frozen? ⟨w4.heap.size, o, none⟩ = false) ∧ (∀ o, x.frozen? ⟨w6.heap.size, o, none⟩ = false) ∧ w.heap.size + 1 < x.heap.size ∧ w.heap.size + 1 + 1 < x.heap.size ∧ B7 < x.heap.size ∧ w4.heap.size < x.heap.size ∧ w6.heap.size < x.heap.size ∧ Below w.heap.size w x) (by (repeat' apply And.intro) <;> first | (intro o; simp [go_sem, h6c0, h6f0, h6z0, h6c1, h6f1, h6z1, h6c2, h6f2, h6z2, h6c3, h6f3, h6z3, h6c4, h6f4, h6z4]; done) | ((repeat' first | (with_reducible first | exact Bq0 | assumption | refine Bq1 ?_ | refine Bq2 ?_ | refine Bq3 ?_ ?_ | refine Bq4 ?_ (by assumption)) | go_size); done) | omega | (simp [go_sem, h6c0, h6f0, h6z0, h6c1, h6f1, h6z1, h6c2, h6f2, h6z2, h6c3, h6f3, h6z3, h6c4, h6f4, h6z4]; done) | (simp [go_sem, h6c0, h6f0, h6z0, h6c1, h6f1, h6z1, h6c2, h6f2, h6z2, h6c3, h6f3, h6z3, h6c4, h6f4, h6z4]; omega)) ?_
        rintro J ⟨hJc0, hJc1, hJc2, hJc3, hJc4, hJf0, hJf1, hJf2, hJf3, hJf4, hJz0, hJz1, hJz2, hJz3, hJz4, hJb⟩
        clear hb5 hk5 hb6 hk6 h5c0 h5c1 h5c2 h5c3 h5c4 h5f0 h5f1 h5f2 h5f3 h5f4 h5z0 h5z1 h5z2 h5z3 h5z4 h6c0 h6c1 h6c2 h6c3 h6c4 h6f0 h6f1 h6f2 h6f3 h6f4 h6z0 h6z1 h6z2 h6z3 h6z4
        clear hHc0 hHc1 hHc2 hHc3 hHc4 hHf0 hHf1 hHf2 hHf3 hHf4 hHz0 hHz1 hHz2 hHz3 hHz4 hHb
        go_cut [5, 17] (fun v5 v17 wx => ∃ B17 : Nat, v5 = .int .i64 0 ∧ v17 = .pointer (some ⟨B17, 0, none⟩) ∧ New J.heap.size B17 #[.bool false, .int .u64 ↑u, .int .u64 0, .int .u64 0, .int .u64 0] wx ∧ Below J.heap.size J wx)
        case first =>
          refine wp_world (fun x => (∀ o, x.cell? ⟨w.heap.size + 1, o, none⟩ = (#[.bool (sb), .int .u64 ↑b, .int .u64 0, .int .u64 0, .int .u64 0, .bool false, .int .u64 ↑q, .int .u64 0, .int .u64 0, .int .u64 0] : Array Value)[o]?) ∧ (∀ o, x.cell? ⟨B7, o, none⟩ = (#[.bool false, .int .u64 ↑xg, .int .u64 0, .int .u64 0, .int .u64 0] : Array Value)[o]?) ∧ (∀ o, x.cell? ⟨w4.heap.size, o, none⟩ = (#[.bool false, .int .u64 ↑h, .int .u64 0, .int .u64 0, .int .u64 0] : Array Value)[o]?) ∧ w.heap.size + 1 < x.heap.size ∧ B7 < x.heap.size ∧ w4.heap.size < x.heap.size ∧ Below J.heap.size J x) (by (repeat' apply And.intro) <;> first | (intro o; simp [go_sem, hJc0, hJc2, hJc3, hJz0, hJz2, hJz3]; done) | (simp [go_sem, hJc0, hJc2, hJc3, hJz0, hJz2, hJz3]; done) | (intro o; rcases o with _ | _ | _ | _ | _ | o <;> simp [go_sem, hJc0, hJc2, hJc3, hJz0, hJz2, hJz3]; done) | ((repeat' first | (with_reducible first | exact Bq0 | assumption | refine Bq1 ?_ | refine Bq2 ?_ | refine Bq3 ?_ ?_ | refine Bq4 ?_ (by assumption)) | go_size); done) | omega | (simp [go_sem, hJc0, hJc2, hJc3, hJz0, hJz2, hJz3]; omega)) ?_
          rintro V ⟨hVc0, hVc1, hVc2, hVz0, hVz1, hVz2, hVb⟩
          have hVK := Lib.hid (show ∀ x : World, Kp V.heap.size [] V x → ((∀ o, x.cell? ⟨w.heap.size + 1, o, none⟩ = (#[.bool (sb), .int .u64 ↑b, .int .u64 0, .int .u64 0, .int .u64 0, .bool false, .int .u64 ↑q, .int .u64 0, .int .u64 0, .int .u64 0] : Array Value)[o]?) ∧ (∀ o, x.cell? ⟨B7, o, none⟩ = (#[.bool false, .int .u64 ↑xg, .int .u64 0, .int .u64 0, .int .u64 0] : Array Value)[o]?) ∧ (∀ o, x.cell? ⟨w4.heap.size, o, none⟩ = (#[.bool false, .int .u64 ↑h, .int .u64 0, .int .u64 0, .int .u64 0] : Array Value)[o]?) ∧ w.heap.size + 1 < x.heap.size ∧ B7 < x.heap.size ∧ w4.heap.size < x.heap.size ∧ V.heap.size ≤ x.heap.size) from fun x k => ⟨fun o => (k.cell _ o hVz0 (by first | (simp; done) | (simp; omega))).trans (hVc0 o), fun o => (k.cell _ o hVz1 (by first | (simp; done) | (simp; omega))).trans (hVc1 o), fun o => (k.cell _ o hVz2 (by first | (simp; done) | (simp; omega))).trans (hVc2 o), Nat.lt_of_lt_of_le hVz0 k.size, Nat.lt_of_lt_of_le hVz1 k.size, Nat.lt_of_lt_of_le hVz2 k.size, k.size⟩)
          go_region_held3 (fun x => (∀ o, x.cell? ⟨w.heap.size + 1, o, none⟩ = (#[.bool (sb), .int .u64 ↑b, .int .u64 0, .int .u64 0, .int .u64 0, .bool false, .int .u64 ↑q, .int .u64 0, .int .u64 0, .int .u64 0] : Array Value)[o]?) ∧ (∀ o, x.cell? ⟨B7, o, none⟩ = (#[.bool false, .int .u64 ↑xg, .int .u64 0, .int .u64 0, .int .u64 0] : Array Value)[o]?) ∧ (∀ o, x.cell? ⟨w4.heap.size, o, none⟩ = (#[.bool false, .int .u64 ↑h, .int .u64 0, .int .u64 0, .int .u64 0] : Array Value)[o]?) ∧ w.heap.size + 1 < x.heap.size ∧ B7 < x.heap.size ∧ w4.heap.size < x.heap.size ∧ V.heap.size ≤ x.heap.size) ((refine hVK.out _ ?_; (repeat first | (with_reducible first | assumption | exact Kq0 | refine Kq1 ?_ | refine Kq2 ?_) | ((with_reducible refine Kq3 ?_ ?_); focus first | (left; go_size; done) | (right; simp; done)) | (with_reducible apply Kp.later; assumption)))) ((first | (go_at_call 74; (with_reducible refine (O3.out _).mono ?_); rintro e V_1 ⟨rfl, hbV_1⟩; have hkV_1 : Kp V.heap.size [] V V_1 := (by (repeat first | (with_reducible first | assumption | exact Kq0 | refine Kq1 ?_ | refine Kq2 ?_) | ((with_reducible refine Kq3 ?_ ?_); focus first | (left; go_size; done) | (right; simp; done)) | (with_reducible apply Kp.later; assumption))); obtain ⟨hV_1k, hV_1g⟩ := bcell hbV_1; have hV_1r := hkV_1.size; have hV_1s := hbV_1.size; (try simp at hV_1s); have hV_1z : V.heap.size ≤ V_1.heap.size := (by (first | exact hV_1s | exact Nat.le_of_lt hV_1s | exact Nat.le_of_lt (Nat.lt_of_succ_lt hV_1s))); (try (have hV_1t00 : V.heap.size < V_1.heap.size := (by (first | exact hV_1s | exact Nat.lt_of_succ_lt hV_1s)))); (try (have hV_1t01 : V.heap.size + 1 < V_1.heap.size := (by exact hV_1s)))) | (go_at_call 73; (with_reducible refine (M1.out _).mono ?_); rintro e V_2 ⟨rfl, hbV_2⟩; have hkV_2 : Kp V.heap.size [] V V_2 := (by (repeat first | (with_reducible first | assumption | exact Kq0 | refine Kq1 ?_ | refine Kq2 ?_) | ((with_reducible refine Kq3 ?_ ?_); focus first | (left; go_size; done) | (right; simp; done)) | (with_reducible apply Kp.later; assumption))); obtain ⟨hV_2k, hV_2g⟩ := bcell hbV_2; have hV_2r := hkV_2.size; have hV_2s := hbV_2.size; (try simp at hV_2s); have hV_2z : V_1.heap.size ≤ V_2.heap.size := (by (first | exact hV_2s | exact Nat.le_of_lt hV_2s | exact Nat.le_of_lt (Nat.lt_of_succ_lt hV_2s))); (try (have hV_2t10 : V_1.heap.size < V_2.heap.size := (by (first | exact hV_2s | exact Nat.lt_of_succ_lt hV_2s)))); (try (have hV_2t11 : V_1.heap.size + 1 < V_2.heap.size := (by exact hV_2s))); (try (have hV_2t00 : V.heap.size < V_2.heap.size := Nat.lt_of_lt_of_le hV_1t00 hV_2z)); (try (have hV_2t01 : V.heap.size + 1 < V_2.heap.size := Nat.lt_of_lt_of_le hV_1t01 hV_2z)))))
          all_goals
            go_wp2
            go_meet
            case rel =>
              (repeat (rename_i hjunk; clear hjunk)); have hwsV := hVb.size; skip
              refine ⟨_, rfl, rfl, ?_⟩
              first
                | ((with_reducible refine new_alloc ?_ ?_)
                   · (first | (with_reducible assumption) | omega | (simp; omega))
                   · (repeat' first | (with_reducible first | exact Bq0 | assumption | refine Bq1 ?_ | refine Bq2 ?_ | refine Bq3 ?_ ?_ | refine Bq4 ?_ (by assumption)) | go_size))
                | ((with_reducible refine new5 ?_ ?_ ?_ ?_ ?_ ?_)
                   · (first | (with_reducible assumption) | omega | (simp; omega))
                   · ((try simp only [Zq1, Zq2, Zq3]); (first | (with_reducible assumption) | omega))
                   · (repeat (first | (with_reducible assumption) | (with_reducible exact new_cells _ _ _) | (with_reducible exact new_cells2 _ _ _ _) | (with_reducible refine keep_drew ?_) | (with_reducible apply set8_at) | (with_reducible apply set5_at) | ((with_reducible refine new_cells_at ?_ _ _); (focus ((simp only [World.size_alloc, World.size_drew, World.size_setCell]; done)))) | ((with_reducible refine set8_far ?_ ?_); (focus ((first | (with_reducible refine Nat.ne_of_lt ?_; with_reducible assumption) | (with_reducible refine Nat.ne_of_gt ?_; with_reducible assumption) | (with_reducible exact Nat.ne_of_lt (Nat.lt_add_one _)) | (with_reducible exact Nat.ne_of_gt (Nat.lt_add_one _)) | omega)))) | ((with_reducible refine set5_far ?_ ?_); (focus ((first | (with_reducible refine Nat.ne_of_lt ?_; with_reducible assumption) | (with_reducible refine Nat.ne_of_gt ?_; with_reducible assumption) | (with_reducible exact Nat.ne_of_lt (Nat.lt_add_one _)) | (with_reducible exact Nat.ne_of_gt (Nat.lt_add_one _)) | omega)))) | ((with_reducible refine keep_cell_a ?_ ?_); (focus (((try simp only [Zq1, Zq2, Zq3]); (first | (with_reducible assumption) | omega))))) | ((with_reducible refine keep_cell hbV_2 ?_ ?_); (focus (((try simp only [Zq1, Zq2, Zq3]); (first | (with_reducible assumption) | omega))))) | ((with_reducible refine keep_cell hbV_1 ?_ ?_); (focus (((try simp only [Zq1, Zq2, Zq3]); (first | (with_reducible assumption) | omega)))))))
                   · (repeat (first | (with_reducible assumption) | (with_reducible exact new_frozen _ _ _) | (with_reducible exact new_frozen2 _ _ _ _) | (with_reducible refine keep_frozen_drew ?_) | (with_reducible refine keep_frozen_c ?_) | ((with_reducible refine new_frozen_at ?_ _ _); (focus ((simp only [World.size_alloc, World.size_drew, World.size_setCell]; done)))) | ((with_reducible refine keep_frozen_a ?_ ?_); (focus (((try simp only [Zq1, Zq2, Zq3]); (first | (with_reducible assumption) | omega))))) | ((with_reducible refine keep_frozen hbV_2 ?_ ?_); (focus (((try simp only [Zq1, Zq2, Zq3]); (first | (with_reducible assumption) | omega))))) | ((with_reducible refine keep_frozen hbV_1 ?_ ?_); (focus (((try simp only [Zq1, Zq2, Zq3]); (first | (with_reducible assumption) | omega)))))))
                   · (first | (with_reducible assumption) | omega | (simp; omega))
                   · (repeat' first | (with_reducible first | exact Bq0 | assumption | refine Bq1 ?_ | refine Bq2 ?_ | refine Bq3 ?_ ?_ | refine Bq4 ?_ (by assumption)) | go_size))
        case rest =>
          obtain ⟨B17, rfl, rfl, N17, hU⟩ := hcut
          have c1 := keep_cell hU hJz1 hJc1
          have f1 := keep_frozen hU hJz1 hJf1
          have z1 := keep_lt hU hJz1
          have c4 := keep_cell hU hJz4 hJc4
          have z4 := keep_lt hU hJz4
          have c17 := N17.cell
          have z17 := N17.lt
          have hW := below_after hJb hU
          go_wp2_with ((with_reducible show bodyPost _ _ _ _ _ _); refine bodyPost_ret (by simp [results, Tryd.results57, go_sem, c1, f1, z1, c4, z4, c17, z17]; try rfl) rfl ?_; exact ⟨rfl, by (repeat' first | (with_reducible first | exact Bq0 | assumption | refine Bq1 ?_ | refine Bq2 ?_ | refine Bq3 ?_ ?_ | refine Bq4 ?_ (by assumption)) | go_size)⟩)
end Go.Proofs.YthikaimhmpenhaaDoor
