/-
  TopCentres: the walk of the law: for any form and any height it returns true.
  (Written by wip/pack.py out of XLawCentres.)
-/
import Derived.Test.YthikaimhmpenhaaDoorK37
import Derived.Test.YthikaimhmpenhaaDoorK43
namespace Go.Proofs.YthikaimhmpenhaaDoor
set_option linter.all false
open Go Go.RowKit Wd
open Fa (dt dl dh)
set_option maxRecDepth 100000
set_option maxHeartbeats 16000000 in
theorem centres_any (ax az ah : Option Addr) (cx cz ch : Nat) (A : Nat → Option Addr) (C : Nat → Nat) (X Z : List Int) (H : List (List Int)) (_hx : X.length ≤ 9223372036854775807) (hz : Z.length ≤ 9223372036854775807) (z : Int) (_h0 : -9223372036854775808 ≤ z) (_h1 : z ≤ 9223372036854775807) (w : World) (hF : Frm w ax az ah A C X Z H) (hT : Tab64 w) :
    Calls Tryd.prog 4 #[.agg #[.slice ax X.length cx, .slice az Z.length cz, .slice ah H.length ch], .int .i64 z] w fun e w' => e = .returned (.bool true) ∧ Below w.heap.size w w' := by
  have HL := Lib.hid (fun x (hb : Below w.heap.size w x) => littleH X Z H 200 20 ax az ah cx cz ch A C x (hF.later hb))
  have HF := Lib.hid hF
  have HT := Lib.hid hT
  clear hF hT _hx _h0 _h1
  go_enter Tryd.func4, Tryd.ntmps4
  go_wp2_with fail
  ((with_reducible refine (HL.out _ (by (repeat' first | (with_reducible first | exact Bq0 | assumption | refine Bq1 ?_ | refine Bq2 ?_ | refine Bq3 ?_ ?_ | refine Bq4 ?_ (by assumption)) | go_size))).mono ?_); rintro e w0 ⟨L, rfl, hL, hb0⟩)
  obtain ⟨hc0, hf0⟩ := bcell hb0
  have hz0 : w.heap.size < w0.heap.size := by have h := hb0.size; (try simp at h); omega
  cases L with
  | false => go_wp2_with ((with_reducible show bodyPost _ _ _ _ _ _); refine bodyPost_ret (by simp [results, Tryd.results4, go_sem, hc0, hf0, hz0]; try rfl) rfl ?_; exact ⟨rfl, by (repeat' first | (with_reducible first | exact Bq0 | assumption | refine Bq1 ?_ | refine Bq2 ?_ | refine Bq3 ?_ ?_ | refine Bq4 ?_ (by assumption)) | go_size)⟩)
  | true =>
    have hLt := hL rfl
    have c := hLt.c
    have g : Gd X Z H 200 20 := Gd.of c hLt.x8 hLt.z8 hLt.xm hLt.zm hLt.hm hLt.zb
    have hv := chk_fine c
    have x2 := g.x2
    have z2 := g.z2
    have z8 := g.z8
    clear hL hLt HL
    obtain ⟨bX, oX, rfl, hX⟩ := HF.out.x (by omega)
    obtain ⟨bZ, oZ, rfl, hZ⟩ := HF.out.z (by omega)
    obtain ⟨bH, oH, rfl, hH⟩ := HF.out.h (by rw [hv.hl]; omega)
    have HM := Lib.hid (show Fm w bX oX bZ oZ bH oH A C X Z H from ⟨hX, hZ, hH⟩)
    have hzl : (Z.length : Int) ≤ 16 := by omega
    have i1 : ((Z.length : Int) - 1).toNat = Z.length - 1 := by omega
    have i2 : (0 : Int) ≤ (Z.length : Int) - 1 := by omega
    have i3 : ((Z.length : Int) - 1) < (Z.length : Int) := by omega
    have zlast := (hZ.later (show Below w.heap.size w w0 by (repeat' first | (with_reducible first | exact Bq0 | assumption | refine Bq1 ?_ | refine Bq2 ?_ | refine Bq3 ?_ ?_ | refine Bq4 ?_ (by assumption)) | go_size))).cell (Z.length - 1) (by omega)
    have zm0 := g.zs (Z.length - 1) (by omega)
    clear hX hZ hH
    by_cases h1 : z < 0
    · go_wp2_with ((with_reducible show bodyPost _ _ _ _ _ _); refine bodyPost_ret (by simp [results, Tryd.results4, go_sem, hc0, hf0, hz0]; try rfl) rfl ?_; exact ⟨rfl, by (repeat' first | (with_reducible first | exact Bq0 | assumption | refine Bq1 ?_ | refine Bq2 ?_ | refine Bq3 ?_ ?_ | refine Bq4 ?_ (by assumption)) | go_size)⟩)
    by_cases h2 : ix Z (Z.length - 1) < z
    · generalize ix Z (Z.length - 1) = zl at *
      clear HM g hv
      go_wp2_with ((with_reducible show bodyPost _ _ _ _ _ _); refine bodyPost_ret (by simp [results, Tryd.results4, go_sem, hc0, hf0, hz0]; try rfl) rfl ?_; exact ⟨rfl, by (repeat' first | (with_reducible first | exact Bq0 | assumption | refine Bq1 ?_ | refine Bq2 ?_ | refine Bq3 ?_ ?_ | refine Bq4 ?_ (by assumption)) | go_size)⟩)
    obtain ⟨K, d, hA⟩ := at_of g (z := z) (by rw [hv.z0]; omega) (by omega)
    have hzz : z ≤ ix Z (Z.length - 1) := by omega
    have hd := hA.dle g (by omega)
    have HMe := Lib.hid (fun x (hb : Below w.heap.size w x) => Mesh_ok _ _ _ cx cz ch A C X Z H c x (HF.out.later hb))
    have hsl := lon_su g hA hzz
    have hsh := hig_su g hA hzz
    have hbl := lon_bd g (by omega) (by omega) hA
    have hbh := hig_bd g (by omega) (by omega) hA
    have hlo := lon_below g (by omega) (by omega) hA
    have hhi := hig_below g (by omega) (by omega) hA
    obtain ⟨V, hV⟩ : ∃ V, V = Sf.su (Fa.ftri dl (ix X) (ix Z) (hf H) z d) (Sf.faces (X.length - 1) (Z.length - 1)) := ⟨_, rfl⟩
    obtain ⟨U, hU⟩ : ∃ U, U = higR X Z H z K d := ⟨_, rfl⟩
    rw [← hV] at hsl
    rw [← hU] at hsh hbh hhi
    obtain ⟨D, hD⟩ : ∃ D : Nat, D = 24 * d * d * d * d := ⟨_, rfl⟩
    rw [← hD] at hhi
    have hD0 : 0 < D := by rw [hD]; exact Nat.mul_pos (Nat.mul_pos (Nat.mul_pos (Nat.mul_pos (by omega) (by omega)) (by omega)) (by omega)) (by omega)
    rw [q_eq (y := V) (n := D) (by exact Nat.mul_pos (Nat.mul_pos (Nat.mul_pos (Nat.mul_pos (by omega) (by omega)) (by omega)) (by omega)) (by omega)) hD0 (by
      rw [← hsl, hD]
      simp only [Int.natCast_mul]
      have : ((72 : Nat) : Int) = 72 := rfl
      have : ((24 : Nat) : Int) = 24 := rfl
      generalize (d : Int) = e
      grind)] at hlo
    have hvo := momentsH c (by omega) hzz (by omega) (by omega) hlo hhi
    have HVo := Lib.hid (fun x (hb : Below w.heap.size w x) => hvo bX oX cx bZ oZ cz bH oH ch A C x (HT.out.later hb) (HM.out.later hb))
    clear hvo
    have HHe := Lib.hid (fun x (hb : Below w.heap.size w x) => heightH (H := H) hA hv.za (fun k hk => by have := g.zs k hk; omega) (by omega) bX oX cx bZ oZ cz bH oH ch A C x (HM.out.later hb))
    have k1 := mul_bd (show (0 : Int) ≤ 24 * (d : Int) by omega) (show (0 : Int) ≤ (d : Int) by omega) (show 24 * (d : Int) ≤ 480 by omega) hd.2
    have k2 := mul_bd k1.1 (show (0 : Int) ≤ (d : Int) by omega) k1.2 hd.2
    have k3 := mul_bd k2.1 (show (0 : Int) ≤ (d : Int) by omega) k2.2 hd.2
    have hD2 : (D : Int) = 24 * (d : Int) * (d : Int) * (d : Int) * (d : Int) := by rw [hD]; simp
    have HRe := Lib.hid (fun x => refQ (V := V) (D := D) (by omega) (by omega) hD0 (by omega) x)
    have HRf := Lib.hid (fun x => refQ (V := U) (D := D) hbh.1 (by omega) hD0 (by omega) x)
    have HSu := Lib.hid (show ∀ (gb k np nf cp cf : Nat), nf = (Sf.faces (X.length - 1) (Z.length - 1)).length → np ≤ 1024 → nf ≤ 2048 → (∀ j, j < nf * 3 → 0 ≤ Sf.cF (X.length - 1) (Z.length - 1) j ∧ Sf.cF (X.length - 1) (Z.length - 1) j < np) → ∀ x, RowI x gb (np * 3) (pP X Z H) → gb < x.heap.size → RowI x k (nf * 3) (Sf.cF (X.length - 1) (Z.length - 1)) → k < x.heap.size →
        Calls Tryd.prog 9 #[.agg #[.slice (some ⟨gb, 0, none⟩) np cp, .slice (some ⟨k, 0, none⟩) nf cf], .int .i64 z, .int .i64 (d : Int)] x fun e w' => e = .returned (.tuple #[.int .i64 (w64 (Sf.sr (trF dt (pP X Z H) (Sf.cF (X.length - 1) (Z.length - 1)) z d) nf)), .int .i64 V, .int .i64 U]) ∧ Below x.heap.size x w' from fun gb k np nf cp cf hnf hnp hnf2 hin x hr lg hq lk => by
      have hN : X.length = X.length - 1 + 1 := by omega
      have hM : Z.length = Z.length - 1 + 1 := by omega
      have h := sumsH gb k np nf cp cf (pP X Z H) (Sf.cF (X.length - 1) (Z.length - 1)) z (d : Int) (by omega) (by omega) hin (fun i hi => fpt_z hN hM (fun k hk => by have := g.zs k hk; omega) i (by rw [← hnf]; exact hi)) (by omega) (by omega) x hr lg hq lk
      have e : w64 (Sf.sr (trF dl (pP X Z H) (Sf.cF (X.length - 1) (Z.length - 1)) z d) nf) = V := by
        rw [hnf, trF_su dl z d hN hM, ← hV]
        exact w64_small (by omega) (by omega)
      have e2 : w64 (Sf.sr (trF dh (pP X Z H) (Sf.cF (X.length - 1) (Z.length - 1)) z d) nf) = U := by
        rw [hnf, trF_su dh z d hN hM, hsh]
        exact w64_small (by omega) (by omega)
      rw [e, e2] at h
      exact h)
    have p1 : IntKind.i64.wrap (24 * (d : Int)) = 24 * (d : Int) := by rw [IntKind.wrap_i64]; omega
    have p2 : IntKind.i64.wrap (24 * (d : Int) * (d : Int)) = 24 * (d : Int) * (d : Int) := by rw [IntKind.wrap_i64]; omega
    have p3 : IntKind.i64.wrap (24 * (d : Int) * (d : Int) * (d : Int)) = 24 * (d : Int) * (d : Int) * (d : Int) := by rw [IntKind.wrap_i64]; omega
    have p4 : IntKind.i64.wrap (24 * (d : Int) * (d : Int) * (d : Int) * (d : Int)) = (D : Int) := by rw [hD2, IntKind.wrap_i64]; omega
    have q1 : wrap64 (24 * (d : Int)) = 24 * (d : Int) := by rw [wrap64_is]; exact p1
    have q2 : wrap64 (24 * (d : Int) * (d : Int)) = 24 * (d : Int) * (d : Int) := by rw [wrap64_is]; exact p2
    have q3 : wrap64 (24 * (d : Int) * (d : Int) * (d : Int)) = 24 * (d : Int) * (d : Int) * (d : Int) := by rw [wrap64_is]; exact p3
    have q4 : wrap64 (24 * (d : Int) * (d : Int) * (d : Int) * (d : Int)) = (D : Int) := by rw [wrap64_is]; exact p4
    have HC := Lib.hid c
    have h2' : ¬ ix Z (Z.length - 1) < z := h2
    generalize ix Z (Z.length - 1) = zl at *
    clear hV hU hD hD2 hbl hbh hsl hsh hlo hhi k1 k2 k3 hA g hv c hd h2 hzz zm0 hD0
    generalize q V D = r at *
    generalize q U D = r2 at *
    go_upto_region 3 with (fail)
    refine wp_world (fun x => (∀ o, x.cell? ⟨w.heap.size, o, none⟩ = (#[.slice (some ⟨bX, oX, none⟩) X.length cx, .slice (some ⟨bZ, oZ, none⟩) Z.length cz, .slice (some ⟨bH, oH, none⟩) H.length ch] : Array Value)[o]?) ∧ (∀ o, x.frozen? ⟨w.heap.size, o, none⟩ = false) ∧ w.heap.size < x.heap.size ∧ Below w.heap.size w x) (by (repeat' apply And.intro) <;> first | (intro o; simp [go_sem, hc0, hf0, hz0]; done) | ((repeat' first | (with_reducible first | exact Bq0 | assumption | refine Bq1 ?_ | refine Bq2 ?_ | refine Bq3 ?_ ?_ | refine Bq4 ?_ (by assumption)) | go_size); done) | omega | (simp [go_sem, hc0, hf0, hz0]; done) | (simp [go_sem, hc0, hf0, hz0]; omega)) ?_
    rintro A ⟨hAc0, hAf0, hAz0, hAb⟩
    clear hb0 hc0 hf0 hz0 zlast i1 i2 i3
    go_wp2_with fail
    ((with_reducible refine (HMe.out _ hAb).mono ?_); rintro e w1 ⟨pv, fv, np, nf, rfl, hb1, op, of⟩)
    obtain ⟨bg, cg, bk, ck, rfl, rfl, lg, lk, rP, rF, hnf, hnp, hnf2, hin⟩ := mesh_in HC.out op of
    have k1c := keep_cell hb1 hAz0 hAc0
    have k1f := keep_frozen hb1 hAz0 hAf0
    have k1z := keep_lt hb1 hAz0
    have HB1 := Lib.hid (below_after hAb hb1)
    have hnf0 : (0 : Int) < (nf : Int) := by
      have := Sf.faces_len (X.length - 1) (Z.length - 1)
      omega
    have HS1 := Lib.hid (show ∀ x, Below w1.heap.size w1 x → Calls Tryd.prog 9 #[.agg #[.slice (some ⟨bg, 0, none⟩) np cg, .slice (some ⟨bk, 0, none⟩) nf ck], .int .i64 z, .int .i64 (d : Int)] x fun e w' => e = .returned (.tuple #[.int .i64 (w64 (Sf.sr (trF dt (pP X Z H) (Sf.cF (X.length - 1) (Z.length - 1)) z d) nf)), .int .i64 V, .int .i64 U]) ∧ Below x.heap.size x w' from fun x hb =>
      HSu.out bg bk np nf cg ck hnf hnp hnf2 hin x (fun j hj => keep_one hb lg (rP j hj)) (keep_lt hb lg) (fun j hj => keep_one hb lk (rF j hj)) (keep_lt hb lk))
    generalize w64 (Sf.sr (trF dt (pP X Z H) (Sf.cF (X.length - 1) (Z.length - 1)) z d) nf) = s2 at *
    clear op of rP rF hnf hnp hnf2 hin HSu HMe hAb hAc0 hAf0 hAz0 hb1 lg lk
    go_upto_region 4 with (fail)
    refine wp_world (fun x => (∀ o, x.cell? ⟨w.heap.size, o, none⟩ = (#[.slice (some ⟨bX, oX, none⟩) X.length cx, .slice (some ⟨bZ, oZ, none⟩) Z.length cz, .slice (some ⟨bH, oH, none⟩) H.length ch] : Array Value)[o]?) ∧ (∀ o, x.cell? ⟨w1.heap.size, o, none⟩ = (#[.slice (some ⟨bg, 0, none⟩) np cg, .slice (some ⟨bk, 0, none⟩) nf ck] : Array Value)[o]?) ∧ (∀ o, x.frozen? ⟨w.heap.size, o, none⟩ = false) ∧ (∀ o, x.frozen? ⟨w1.heap.size, o, none⟩ = false) ∧ w.heap.size < x.heap.size ∧ w1.heap.size < x.heap.size ∧ Below w1.heap.size w1 x) (by (repeat' apply And.intro) <;> first | (intro o; simp [go_sem, k1c, k1f, k1z]; done) | ((repeat' first | (with_reducible first | exact Bq0 | assumption | refine Bq1 ?_ | refine Bq2 ?_ | refine Bq3 ?_ ?_ | refine Bq4 ?_ (by assumption)) | go_size); done) | omega | (simp [go_sem, k1c, k1f, k1z]; done) | (simp [go_sem, k1c, k1f, k1z]; omega)) ?_
    rintro B ⟨hBc0, hBc1, hBf0, hBf1, hBz0, hBz1, hBb⟩
    clear k1c k1f k1z
    go_wp2_with fail
    ((with_reducible refine (HVo.out _ (below_after HB1.out hBb)).mono ?_); rintro e w2 ⟨rfl, hb2⟩)
    have hk2 : Kp B.heap.size [] B w2 := (by (repeat first | (with_reducible first | assumption | exact Kq0 | refine Kq1 ?_ | refine Kq2 ?_) | ((with_reducible refine Kq3 ?_ ?_); focus first | (left; go_size; done) | (right; simp; done)) | (with_reducible apply Kp.later; assumption)))
    have h2c0 := fun o => (hk2.cell _ o hBz0 (by simp)).trans (hBc0 o)
    have h2f0 := fun o => (hk2.froz _ o hBz0).trans (hBf0 o)
    have h2z0 := Nat.lt_of_lt_of_le hBz0 hk2.size
    have h2c1 := fun o => (hk2.cell _ o hBz1 (by simp)).trans (hBc1 o)
    have h2f1 := fun o => (hk2.froz _ o hBz1).trans (hBf1 o)
    have h2z1 := Nat.lt_of_lt_of_le hBz1 hk2.size
    have HB2 := Lib.hid (below_after hBb hb2)
    clear hBc0 hBc1 hBf0 hBf1 hBz0 hBz1 hk2
    go_upto_region 5 with (fail)
    refine wp_world (fun x => (∀ o, x.cell? ⟨w.heap.size, o, none⟩ = (#[.slice (some ⟨bX, oX, none⟩) X.length cx, .slice (some ⟨bZ, oZ, none⟩) Z.length cz, .slice (some ⟨bH, oH, none⟩) H.length ch] : Array Value)[o]?) ∧ (∀ o, x.cell? ⟨w1.heap.size, o, none⟩ = (#[.slice (some ⟨bg, 0, none⟩) np cg, .slice (some ⟨bk, 0, none⟩) nf ck] : Array Value)[o]?) ∧ (∀ o, x.cell? ⟨w2.heap.size, o, none⟩ = (#[.bool ((r).s), .int .u64 ↑r.a, .int .u64 0, .int .u64 0, .int .u64 0, .bool false, .int .u64 ↑r.d, .int .u64 0, .int .u64 0, .int .u64 0] : Array Value)[o]?) ∧ (∀ o, x.cell? ⟨w2.heap.size + 1, o, none⟩ = (#[.bool ((r2).s), .int .u64 ↑r2.a, .int .u64 0, .int .u64 0, .int .u64 0, .bool false, .int .u64 ↑r2.d, .int .u64 0, .int .u64 0, .int .u64 0] : Array Value)[o]?) ∧ (∀ o, x.frozen? ⟨w.heap.size, o, none⟩ = false) ∧ (∀ o, x.frozen? ⟨w1.heap.size, o, none⟩ = false) ∧ (∀ o, x.frozen? ⟨w2.heap.size, o, none⟩ = false) ∧ (∀ o, x.frozen? ⟨w2.heap.size + 1, o, none⟩ = false) ∧ w.heap.size < x.heap.size ∧ w1.heap.size < x.heap.size ∧ w2.heap.size < x.heap.size ∧ w2.heap.size + 1 < x.heap.size ∧ Below w2.heap.size w2 x) (by (repeat' apply And.intro) <;> first | (intro o; simp [go_sem, h2c0, h2f0, h2z0, h2c1, h2f1, h2z1]; done) | ((repeat' first | (with_reducible first | exact Bq0 | assumption | refine Bq1 ?_ | refine Bq2 ?_ | refine Bq3 ?_ ?_ | refine Bq4 ?_ (by assumption)) | go_size); done) | omega | (simp [go_sem, h2c0, h2f0, h2z0, h2c1, h2f1, h2z1]; done) | (simp [go_sem, h2c0, h2f0, h2z0, h2c1, h2f1, h2z1]; omega)) ?_
    rintro D ⟨hDc0, hDc1, hDc2, hDc3, hDf0, hDf1, hDf2, hDf3, hDz0, hDz1, hDz2, hDz3, hDb⟩
    clear h2c0 h2c1 h2f0 h2f1 h2z0 h2z1 hb2
    have HD1 := Lib.hid (below_after HB2.out hDb)
    go_wp2_with fail
    ((with_reducible refine (HHe.out _ (below_after HB1.out HD1.out)).mono ?_); rintro e w3 ⟨rfl, hb3⟩)
    have hk3 : Kp D.heap.size [] D w3 := (by (repeat first | (with_reducible first | assumption | exact Kq0 | refine Kq1 ?_ | refine Kq2 ?_) | ((with_reducible refine Kq3 ?_ ?_); focus first | (left; go_size; done) | (right; simp; done)) | (with_reducible apply Kp.later; assumption)))
    have h3c0 := fun o => (hk3.cell _ o hDz0 (by simp)).trans (hDc0 o)
    have h3f0 := fun o => (hk3.froz _ o hDz0).trans (hDf0 o)
    have h3z0 := Nat.lt_of_lt_of_le hDz0 hk3.size
    have h3c1 := fun o => (hk3.cell _ o hDz1 (by simp)).trans (hDc1 o)
    have h3f1 := fun o => (hk3.froz _ o hDz1).trans (hDf1 o)
    have h3z1 := Nat.lt_of_lt_of_le hDz1 hk3.size
    have h3c2 := fun o => (hk3.cell _ o hDz2 (by simp)).trans (hDc2 o)
    have h3f2 := fun o => (hk3.froz _ o hDz2).trans (hDf2 o)
    have h3z2 := Nat.lt_of_lt_of_le hDz2 hk3.size
    have h3c3 := fun o => (hk3.cell _ o hDz3 (by simp)).trans (hDc3 o)
    have h3f3 := fun o => (hk3.froz _ o hDz3).trans (hDf3 o)
    have h3z3 := Nat.lt_of_lt_of_le hDz3 hk3.size
    have HB3 := Lib.hid (below_after HD1.out hb3)
    clear hDc0 hDc1 hDc2 hDc3 hDf0 hDf1 hDf2 hDf3 hDz0 hDz1 hDz2 hDz3 hk3 hDb HB2 HD1
    go_upto_region 6 with (fail)
    refine wp_world (fun x => (∀ o, x.cell? ⟨w.heap.size, o, none⟩ = (#[.slice (some ⟨bX, oX, none⟩) X.length cx, .slice (some ⟨bZ, oZ, none⟩) Z.length cz, .slice (some ⟨bH, oH, none⟩) H.length ch] : Array Value)[o]?) ∧ (∀ o, x.cell? ⟨w1.heap.size, o, none⟩ = (#[.slice (some ⟨bg, 0, none⟩) np cg, .slice (some ⟨bk, 0, none⟩) nf ck] : Array Value)[o]?) ∧ (∀ o, x.cell? ⟨w2.heap.size, o, none⟩ = (#[.bool ((r).s), .int .u64 ↑r.a, .int .u64 0, .int .u64 0, .int .u64 0, .bool false, .int .u64 ↑r.d, .int .u64 0, .int .u64 0, .int .u64 0] : Array Value)[o]?) ∧ (∀ o, x.cell? ⟨w2.heap.size + 1, o, none⟩ = (#[.bool ((r2).s), .int .u64 ↑r2.a, .int .u64 0, .int .u64 0, .int .u64 0, .bool false, .int .u64 ↑r2.d, .int .u64 0, .int .u64 0, .int .u64 0] : Array Value)[o]?) ∧ (∀ o, x.frozen? ⟨w.heap.size, o, none⟩ = false) ∧ (∀ o, x.frozen? ⟨w1.heap.size, o, none⟩ = false) ∧ (∀ o, x.frozen? ⟨w2.heap.size, o, none⟩ = false) ∧ (∀ o, x.frozen? ⟨w2.heap.size + 1, o, none⟩ = false) ∧ w.heap.size < x.heap.size ∧ w1.heap.size < x.heap.size ∧ w2.heap.size < x.heap.size ∧ w2.heap.size + 1 < x.heap.size ∧ Below w3.heap.size w3 x) (by (repeat' apply And.intro) <;> first | (intro o; simp [go_sem, h3c0, h3f0, h3z0, h3c1, h3f1, h3z1, h3c2, h3f2, h3z2, h3c3, h3f3, h3z3]; done) | ((repeat' first | (with_reducible first | exact Bq0 | assumption | refine Bq1 ?_ | refine Bq2 ?_ | refine Bq3 ?_ ?_ | refine Bq4 ?_ (by assumption)) | go_size); done) | omega | (simp [go_sem, h3c0, h3f0, h3z0, h3c1, h3f1, h3z1, h3c2, h3f2, h3z2, h3c3, h3f3, h3z3]; done) | (simp [go_sem, h3c0, h3f0, h3z0, h3c1, h3f1, h3z1, h3c2, h3f2, h3z2, h3c3, h3f3, h3z3]; omega)) ?_
    rintro E ⟨hEc0, hEc1, hEc2, hEc3, hEf0, hEf1, hEf2, hEf3, hEz0, hEz1, hEz2, hEz3, hEb⟩
    clear h3c0 h3c1 h3c2 h3c3 h3f0 h3f1 h3f2 h3f3 h3z0 h3z1 h3z2 h3z3 hb3
    go_wp2_with fail
    ((with_reducible refine (HS1.out _ (below_after HB3.out hEb)).mono ?_); rintro e w4 ⟨rfl, hb4⟩)
    have hk4 : Kp E.heap.size [] E w4 := (by (repeat first | (with_reducible first | assumption | exact Kq0 | refine Kq1 ?_ | refine Kq2 ?_) | ((with_reducible refine Kq3 ?_ ?_); focus first | (left; go_size; done) | (right; simp; done)) | (with_reducible apply Kp.later; assumption)))
    have h4c0 := fun o => (hk4.cell _ o hEz0 (by simp)).trans (hEc0 o)
    have h4f0 := fun o => (hk4.froz _ o hEz0).trans (hEf0 o)
    have h4z0 := Nat.lt_of_lt_of_le hEz0 hk4.size
    have h4c1 := fun o => (hk4.cell _ o hEz1 (by simp)).trans (hEc1 o)
    have h4f1 := fun o => (hk4.froz _ o hEz1).trans (hEf1 o)
    have h4z1 := Nat.lt_of_lt_of_le hEz1 hk4.size
    have h4c2 := fun o => (hk4.cell _ o hEz2 (by simp)).trans (hEc2 o)
    have h4f2 := fun o => (hk4.froz _ o hEz2).trans (hEf2 o)
    have h4z2 := Nat.lt_of_lt_of_le hEz2 hk4.size
    have h4c3 := fun o => (hk4.cell _ o hEz3 (by simp)).trans (hEc3 o)
    have h4f3 := fun o => (hk4.froz _ o hEz3).trans (hEf3 o)
    have h4z3 := Nat.lt_of_lt_of_le hEz3 hk4.size
    have HB4 := Lib.hid (below_after (below_after HB3.out hEb) hb4)
    clear hEc0 hEc1 hEc2 hEc3 hEf0 hEf1 hEf2 hEf3 hEz0 hEz1 hEz2 hEz3 hk4 hEb HB3
    go_upto_region 7 with (fail)
    refine wp_world (fun x => (∀ o, x.cell? ⟨w.heap.size, o, none⟩ = (#[.slice (some ⟨bX, oX, none⟩) X.length cx, .slice (some ⟨bZ, oZ, none⟩) Z.length cz, .slice (some ⟨bH, oH, none⟩) H.length ch] : Array Value)[o]?) ∧ (∀ o, x.cell? ⟨w1.heap.size, o, none⟩ = (#[.slice (some ⟨bg, 0, none⟩) np cg, .slice (some ⟨bk, 0, none⟩) nf ck] : Array Value)[o]?) ∧ (∀ o, x.cell? ⟨w2.heap.size, o, none⟩ = (#[.bool ((r).s), .int .u64 ↑r.a, .int .u64 0, .int .u64 0, .int .u64 0, .bool false, .int .u64 ↑r.d, .int .u64 0, .int .u64 0, .int .u64 0] : Array Value)[o]?) ∧ (∀ o, x.cell? ⟨w2.heap.size + 1, o, none⟩ = (#[.bool ((r2).s), .int .u64 ↑r2.a, .int .u64 0, .int .u64 0, .int .u64 0, .bool false, .int .u64 ↑r2.d, .int .u64 0, .int .u64 0, .int .u64 0] : Array Value)[o]?) ∧ (∀ o, x.frozen? ⟨w.heap.size, o, none⟩ = false) ∧ (∀ o, x.frozen? ⟨w1.heap.size, o, none⟩ = false) ∧ (∀ o, x.frozen? ⟨w2.heap.size, o, none⟩ = false) ∧ (∀ o, x.frozen? ⟨w2.heap.size + 1, o, none⟩ = false) ∧ w.heap.size < x.heap.size ∧ w1.heap.size < x.heap.size ∧ w2.heap.size < x.heap.size ∧ w2.heap.size + 1 < x.heap.size ∧ Below w4.heap.size w4 x) (by (repeat' apply And.intro) <;> first | (intro o; simp [go_sem, h4c0, h4f0, h4z0, h4c1, h4f1, h4z1, h4c2, h4f2, h4z2, h4c3, h4f3, h4z3]; done) | ((repeat' first | (with_reducible first | exact Bq0 | assumption | refine Bq1 ?_ | refine Bq2 ?_ | refine Bq3 ?_ ?_ | refine Bq4 ?_ (by assumption)) | go_size); done) | omega | (simp [go_sem, h4c0, h4f0, h4z0, h4c1, h4f1, h4z1, h4c2, h4f2, h4z2, h4c3, h4f3, h4z3]; done) | (simp [go_sem, h4c0, h4f0, h4z0, h4c1, h4f1, h4z1, h4c2, h4f2, h4z2, h4c3, h4f3, h4z3]; omega)) ?_
    rintro G ⟨hGc0, hGc1, hGc2, hGc3, hGf0, hGf1, hGf2, hGf3, hGz0, hGz1, hGz2, hGz3, hGb⟩
    clear h4c0 h4c1 h4c2 h4c3 h4f0 h4f1 h4f2 h4f3 h4z0 h4z1 h4z2 h4z3 hb4
    go_wp2_with fail
    ((with_reducible refine (HRe.out _).mono ?_); rintro e w5 ⟨rfl, hb5⟩)
    have hk5 : Kp G.heap.size [] G w5 := (by (repeat first | (with_reducible first | assumption | exact Kq0 | refine Kq1 ?_ | refine Kq2 ?_) | ((with_reducible refine Kq3 ?_ ?_); focus first | (left; go_size; done) | (right; simp; done)) | (with_reducible apply Kp.later; assumption)))
    have h5c0 := fun o => (hk5.cell _ o hGz0 (by simp)).trans (hGc0 o)
    have h5f0 := fun o => (hk5.froz _ o hGz0).trans (hGf0 o)
    have h5z0 := Nat.lt_of_lt_of_le hGz0 hk5.size
    have h5c1 := fun o => (hk5.cell _ o hGz1 (by simp)).trans (hGc1 o)
    have h5f1 := fun o => (hk5.froz _ o hGz1).trans (hGf1 o)
    have h5z1 := Nat.lt_of_lt_of_le hGz1 hk5.size
    have h5c2 := fun o => (hk5.cell _ o hGz2 (by simp)).trans (hGc2 o)
    have h5f2 := fun o => (hk5.froz _ o hGz2).trans (hGf2 o)
    have h5z2 := Nat.lt_of_lt_of_le hGz2 hk5.size
    have h5c3 := fun o => (hk5.cell _ o hGz3 (by simp)).trans (hGc3 o)
    have h5f3 := fun o => (hk5.froz _ o hGz3).trans (hGf3 o)
    have h5z3 := Nat.lt_of_lt_of_le hGz3 hk5.size
    have HB5 := Lib.hid (below_after (below_after HB4.out hGb) hb5)
    clear hGc0 hGc1 hGc2 hGc3 hGf0 hGf1 hGf2 hGf3 hGz0 hGz1 hGz2 hGz3 hk5 hGb HB4
    go_upto_region 8 with (fail)
    refine wp_world (fun x => (∀ o, x.cell? ⟨w1.heap.size, o, none⟩ = (#[.slice (some ⟨bg, 0, none⟩) np cg, .slice (some ⟨bk, 0, none⟩) nf ck] : Array Value)[o]?) ∧ (∀ o, x.cell? ⟨w2.heap.size, o, none⟩ = (#[.bool ((r).s), .int .u64 ↑r.a, .int .u64 0, .int .u64 0, .int .u64 0, .bool false, .int .u64 ↑r.d, .int .u64 0, .int .u64 0, .int .u64 0] : Array Value)[o]?) ∧ (∀ o, x.cell? ⟨w2.heap.size + 1, o, none⟩ = (#[.bool ((r2).s), .int .u64 ↑r2.a, .int .u64 0, .int .u64 0, .int .u64 0, .bool false, .int .u64 ↑r2.d, .int .u64 0, .int .u64 0, .int .u64 0] : Array Value)[o]?) ∧ (∀ o, x.cell? ⟨w5.heap.size, o, none⟩ = (#[.bool ((r).s), .int .u64 ↑r.a, .int .u64 0, .int .u64 0, .int .u64 0, .bool false, .int .u64 ↑r.d, .int .u64 0, .int .u64 0, .int .u64 0] : Array Value)[o]?) ∧ (∀ o, x.frozen? ⟨w1.heap.size, o, none⟩ = false) ∧ (∀ o, x.frozen? ⟨w2.heap.size, o, none⟩ = false) ∧ (∀ o, x.frozen? ⟨w2.heap.size + 1, o, none⟩ = false) ∧ (∀ o, x.frozen? ⟨w5.heap.size, o, none⟩ = false) ∧ w1.heap.size < x.heap.size ∧ w2.heap.size < x.heap.size ∧ w2.heap.size + 1 < x.heap.size ∧ w5.heap.size < x.heap.size ∧ Below w5.heap.size w5 x) (by (repeat' apply And.intro) <;> first | (intro o; simp [go_sem, h5c0, h5f0, h5z0, h5c1, h5f1, h5z1, h5c2, h5f2, h5z2, h5c3, h5f3, h5z3]; done) | ((repeat' first | (with_reducible first | exact Bq0 | assumption | refine Bq1 ?_ | refine Bq2 ?_ | refine Bq3 ?_ ?_ | refine Bq4 ?_ (by assumption)) | go_size); done) | omega | (simp [go_sem, h5c0, h5f0, h5z0, h5c1, h5f1, h5z1, h5c2, h5f2, h5z2, h5c3, h5f3, h5z3]; done) | (simp [go_sem, h5c0, h5f0, h5z0, h5c1, h5f1, h5z1, h5c2, h5f2, h5z2, h5c3, h5f3, h5z3]; omega)) ?_
    rintro I ⟨hIc0, hIc1, hIc2, hIc3, hIf0, hIf1, hIf2, hIf3, hIz0, hIz1, hIz2, hIz3, hIb⟩
    clear h5c0 h5c1 h5c2 h5c3 h5f0 h5f1 h5f2 h5f3 h5z0 h5z1 h5z2 h5z3 hb5
    go_wp2_with fail
    ((with_reducible refine (HRf.out _).mono ?_); rintro e w6 ⟨rfl, hb6⟩)
    have hk6 : Kp I.heap.size [] I w6 := (by (repeat first | (with_reducible first | assumption | exact Kq0 | refine Kq1 ?_ | refine Kq2 ?_) | ((with_reducible refine Kq3 ?_ ?_); focus first | (left; go_size; done) | (right; simp; done)) | (with_reducible apply Kp.later; assumption)))
    have h6c0 := fun o => (hk6.cell _ o hIz0 (by simp)).trans (hIc0 o)
    have h6f0 := fun o => (hk6.froz _ o hIz0).trans (hIf0 o)
    have h6z0 := Nat.lt_of_lt_of_le hIz0 hk6.size
    have h6c1 := fun o => (hk6.cell _ o hIz1 (by simp)).trans (hIc1 o)
    have h6f1 := fun o => (hk6.froz _ o hIz1).trans (hIf1 o)
    have h6z1 := Nat.lt_of_lt_of_le hIz1 hk6.size
    have h6c2 := fun o => (hk6.cell _ o hIz2 (by simp)).trans (hIc2 o)
    have h6f2 := fun o => (hk6.froz _ o hIz2).trans (hIf2 o)
    have h6z2 := Nat.lt_of_lt_of_le hIz2 hk6.size
    have h6c3 := fun o => (hk6.cell _ o hIz3 (by simp)).trans (hIc3 o)
    have h6f3 := fun o => (hk6.froz _ o hIz3).trans (hIf3 o)
    have h6z3 := Nat.lt_of_lt_of_le hIz3 hk6.size
    have HB6 := Lib.hid (below_after (below_after HB5.out hIb) hb6)
    clear hIc0 hIc1 hIc2 hIc3 hIf0 hIf1 hIf2 hIf3 hIz0 hIz1 hIz2 hIz3 hk6 hIb HB5
    go_upto_region 9 with (fail)
    refine wp_world (fun x => (∀ o, x.cell? ⟨w1.heap.size, o, none⟩ = (#[.slice (some ⟨bg, 0, none⟩) np cg, .slice (some ⟨bk, 0, none⟩) nf ck] : Array Value)[o]?) ∧ (∀ o, x.cell? ⟨w2.heap.size, o, none⟩ = (#[.bool ((r).s), .int .u64 ↑r.a, .int .u64 0, .int .u64 0, .int .u64 0, .bool false, .int .u64 ↑r.d, .int .u64 0, .int .u64 0, .int .u64 0] : Array Value)[o]?) ∧ (∀ o, x.cell? ⟨w2.heap.size + 1, o, none⟩ = (#[.bool ((r2).s), .int .u64 ↑r2.a, .int .u64 0, .int .u64 0, .int .u64 0, .bool false, .int .u64 ↑r2.d, .int .u64 0, .int .u64 0, .int .u64 0] : Array Value)[o]?) ∧ (∀ o, x.cell? ⟨w5.heap.size, o, none⟩ = (#[.bool ((r).s), .int .u64 ↑r.a, .int .u64 0, .int .u64 0, .int .u64 0, .bool false, .int .u64 ↑r.d, .int .u64 0, .int .u64 0, .int .u64 0] : Array Value)[o]?) ∧ (∀ o, x.cell? ⟨w6.heap.size, o, none⟩ = (#[.bool ((r2).s), .int .u64 ↑r2.a, .int .u64 0, .int .u64 0, .int .u64 0, .bool false, .int .u64 ↑r2.d, .int .u64 0, .int .u64 0, .int .u64 0] : Array Value)[o]?) ∧ (∀ o, x.frozen? ⟨w1.heap.size, o, none⟩ = false) ∧ (∀ o, x.frozen? ⟨w2.heap.size, o, none⟩ = false) ∧ (∀ o, x.frozen? ⟨w2.heap.size + 1, o, none⟩ = false) ∧ (∀ o, x.frozen? ⟨w5.heap.size, o, none⟩ = false) ∧ (∀ o, x.frozen? ⟨w6.heap.size, o, none⟩ = false) ∧ w1.heap.size < x.heap.size ∧ w2.heap.size < x.heap.size ∧ w2.heap.size + 1 < x.heap.size ∧ w5.heap.size < x.heap.size ∧ w6.heap.size < x.heap.size ∧ Below w6.heap.size w6 x) (by (repeat' apply And.intro) <;> first | (intro o; simp [go_sem, h6c0, h6f0, h6z0, h6c1, h6f1, h6z1, h6c2, h6f2, h6z2, h6c3, h6f3, h6z3]; done) | ((repeat' first | (with_reducible first | exact Bq0 | assumption | refine Bq1 ?_ | refine Bq2 ?_ | refine Bq3 ?_ ?_ | refine Bq4 ?_ (by assumption)) | go_size); done) | omega | (simp [go_sem, h6c0, h6f0, h6z0, h6c1, h6f1, h6z1, h6c2, h6f2, h6z2, h6c3, h6f3, h6z3]; done) | (simp [go_sem, h6c0, h6f0, h6z0, h6c1, h6f1, h6z1, h6c2, h6f2, h6z2, h6c3, h6f3, h6z3]; omega)) ?_
    rintro J ⟨hJc0, hJc1, hJc2, hJc3, hJc4, hJf0, hJf1, hJf2, hJf3, hJf4, hJz0, hJz1, hJz2, hJz3, hJz4, hJb⟩
    clear h6c0 h6c1 h6c2 h6c3 h6f0 h6f1 h6f2 h6f3 h6z0 h6z1 h6z2 h6z3 hb6
    have em1 := fun x : World => eq_mag_self (r.a : Int) 0 0 0 x
    have em2 := fun x : World => eq_mag_self (r.d : Int) 0 0 0 x
    have em3 := fun x : World => eq_mag_self (r2.a : Int) 0 0 0 x
    have em4 := fun x : World => eq_mag_self (r2.d : Int) 0 0 0 x
    have hend := below_after HB1.out (below_after HB6.out hJb)
    go_wp2_with ((with_reducible show bodyPost _ _ _ _ _ _); refine bodyPost_ret (by simp [results, Tryd.results4, go_sem, hJc0, hJc1, hJc2, hJc3, hJc4]; try rfl) rfl ?_; exact ⟨rfl, by (repeat' first | (with_reducible first | exact Bq0 | assumption | refine Bq1 ?_ | refine Bq2 ?_ | refine Bq3 ?_ ?_ | refine Bq4 ?_ (by assumption)) | go_size)⟩)
end Go.Proofs.YthikaimhmpenhaaDoor
