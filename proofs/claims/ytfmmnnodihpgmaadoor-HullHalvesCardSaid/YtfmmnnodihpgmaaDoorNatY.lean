/-
  What the reference's Section2 returns.
-/
import Derived.Test.YtfmmnnodihpgmaaDoorPackD
import Derived.Deep.QuietTactic
import Derived.BigQuiet
namespace Go.Proofs.YtfmmnnodihpgmaaDoor
set_option linter.all false
open Go Go.RowKit Wd
set_option maxRecDepth 100000
set_option maxHeartbeats 1000000 in
theorem rSection2_bad (ax az ah : Option Addr) (cx cz ch : Nat) (A : Nat → Option Addr) (C : Nat → Nat) (X Z : List Int) (H : List (List Int)) (i z : Int) (hs : stn X Z H i z ≠ 0) (w : World) (hf : Frm w ax az ah A C X Z H) :
    Calls Tryd.prog 16 #[.agg #[.slice ax X.length cx, .slice az Z.length cz, .slice ah H.length ch], .int .i64 i, .int .i64 z] w fun e w' => e = .returned (.tuple #[.agg #[.bool false, .int .u64 0, .int .u64 0, .int .u64 0, .int .u64 0, .bool false, .int .u64 0, .int .u64 0, .int .u64 0, .int .u64 0], .int .i64 (stn X Z H i z)]) ∧ Below w.heap.size w w' := by
  have K := Lib.hid (fun W hF => rright_any ax az ah cx cz ch A C X Z H i z W hF)
  generalize stn X Z H i z = r at *
  have HF := Lib.hid hf
  clear hf
  go_enter Tryd.func16, Tryd.ntmps16
  go_wp2_with fail
  ((with_reducible refine (K.out _ (HF.out.later (by (repeat' (first | (with_reducible exact Below.refl _ _) | (with_reducible assumption) | (with_reducible refine below_alloc ?_ _) | (with_reducible refine Below.drew ?_) | (with_reducible refine Below.setCell ?_ ?_ _) | (with_reducible refine below_after ?_ (by assumption)) | go_size))))).mono ?_); rintro e w1 ⟨rfl, hb1⟩)
  obtain ⟨hc1, hf1⟩ := bcell hb1
  have hz1_w_0 : w.heap.size < w1.heap.size := by have h := hb1.size; (try simp at h); omega
  have hz1_w_1 : w.heap.size + 1 < w1.heap.size := by have h := hb1.size; (try simp at h); omega
  go_wp2_with ((with_reducible show bodyPost _ _ _ _ _ _); refine bodyPost_ret (by simp [results, Tryd.results16, go_sem, hc1, hf1, hz1_w_0, hz1_w_1]; try rfl) rfl ?_; exact ⟨rfl, by (repeat' (first | (with_reducible exact Below.refl _ _) | (with_reducible assumption) | (with_reducible refine below_alloc ?_ _) | (with_reducible refine Below.drew ?_) | (with_reducible refine Below.setCell ?_ ?_ _) | (with_reducible refine below_after ?_ (by assumption)) | go_size))⟩)
set_option maxHeartbeats 4000000 in
theorem rSection2_ok (ax az ah : Option Addr) (cx cz ch : Nat) (A : Nat → Option Addr) (C : Nat → Nat) (X Z : List Int) (H : List (List Int)) (i : Nat) (z : Int) (hs : stn X Z H i z = 0) (w : World) (hf : Frm w ax az ah A C X Z H) :
    Calls Tryd.prog 16 #[.agg #[.slice ax X.length cx, .slice az Z.length cz, .slice ah H.length ch], .int .i64 (i : Int), .int .i64 z] w fun e w' => e = .returned (.tuple #[(.agg #[.bool false, .int .u64 (((s2N Z (row H i) z (bandN Z z (Z.length - 1))) : Nat) : Int), .int .u64 0, .int .u64 0, .int .u64 0, .bool false, .int .u64 (((s2D Z (row H i) z (bandN Z z (Z.length - 1))) : Nat) : Int), .int .u64 0, .int .u64 0, .int .u64 0]), .int .i64 0]) ∧ Below w.heap.size w w' := by
  have K1 := fun W hF => rright_any ax az ah cx cz ch A C X Z H i z W hF
  rw [hs] at K1
  have K := Lib.hid K1
  obtain ⟨h1, -, h2⟩ := stn_rgt hs
  obtain ⟨h3, h4, h5⟩ := rgt_fine h1
  have hv := chk_fine h3
  have hi : i < X.length := by omega
  have B := Lib.hid (fun W hF => rBand_any ax az ah cx cz ch A C X Z H z hv h4 h5 W hF)
  have SM := Lib.hid (fun k hb hN => sec_same hv hi (k := k) h4 h5 hb hN)
  have SB := Lib.hid (fun j hj => sec_bounds (l := row H i) (m := Z.length) hv.za hv.zr (fun j hj => hv.hv i (by have := hv.hl; omega) j hj) j hj)
  have z2 := hv.z2
  have z16 := hv.z16
  have hl := hv.hl
  have hrl := hv.hr i (by omega)
  obtain ⟨bz, oz, rfl, hzi⟩ := hf.z (by omega)
  obtain ⟨bh, oh, rfl, hri⟩ := hf.h (by omega)
  have hrc := hri.cell i (by omega)
  obtain ⟨rb, ro, ea, hrow⟩ := hri.row i (by omega) (by omega)
  rw [ea, hrl] at hrc
  have HF := Lib.hid hf
  have lz := hzi.lt
  have lh := hri.lt
  have lr := hrow.lt
  have hiH : (i : Int) < (H.length : Int) := by omega
  have hiH0 : (0 : Int) ≤ (i : Int) := by omega
  have HV := Lib.hid hv
  have HZ := Lib.hid hzi
  have HW := Lib.hid hrow
  have HL := Lib.hid hl
  have HRL := Lib.hid hrl
  clear hf hzi hri hrow hv K1 hs h1 h3 h4 h5 h2 ea hl hrl
  generalize s2N Z (row H i) z (bandN Z z (Z.length - 1)) = x' at *
  generalize s2D Z (row H i) z (bandN Z z (Z.length - 1)) = y' at *
  go_enter Tryd.func16, Tryd.ntmps16
  go_wp2_with fail
  ((with_reducible refine (K.out _ (HF.out.later (by (repeat' (first | (with_reducible exact Below.refl _ _) | (with_reducible assumption) | (with_reducible refine below_alloc ?_ _) | (with_reducible refine Below.drew ?_) | (with_reducible refine Below.setCell ?_ ?_ _) | (with_reducible refine below_after ?_ (by assumption)) | go_size))))).mono ?_); rintro e w1 ⟨rfl, hb1⟩)
  obtain ⟨hc1, hf1⟩ := bcell hb1
  have hz1_w_0 : w.heap.size < w1.heap.size := by have h := hb1.size; (try simp at h); omega
  have hz1_w_1 : w.heap.size + 1 < w1.heap.size := by have h := hb1.size; (try simp at h); omega
  go_upto_region 5 with (fail)
  refine wp_world (fun x => (∀ o, x.cell? ⟨w.heap.size, o, none⟩ = (#[.slice ax X.length cx, .slice (some ⟨bz, oz, none⟩) Z.length cz, .slice (some ⟨bh, oh, none⟩) H.length ch] : Array Value)[o]?) ∧ (∀ o, x.cell? ⟨w.heap.size + 1, o, none⟩ = (#[.bool false, .int .u64 0, .int .u64 0, .int .u64 0, .int .u64 0, .bool false, .int .u64 0, .int .u64 0, .int .u64 0, .int .u64 0] : Array Value)[o]?) ∧ (∀ o, x.frozen? ⟨w.heap.size, o, none⟩ = false) ∧ (∀ o, x.frozen? ⟨w.heap.size + 1, o, none⟩ = false) ∧ w.heap.size < x.heap.size ∧ w.heap.size + 1 < x.heap.size ∧ Below w.heap.size w x) ⟨fun o => by simp [go_sem, hc1, hf1, hz1_w_0, hz1_w_1], fun o => by simp [go_sem, hc1, hf1, hz1_w_0, hz1_w_1], fun o => by simp [go_sem, hc1, hf1, hz1_w_0, hz1_w_1], fun o => by simp [go_sem, hc1, hf1, hz1_w_0, hz1_w_1], by (first | omega | (simp [go_sem, hc1, hf1, hz1_w_0, hz1_w_1]; done) | (simp [go_sem, hc1, hf1, hz1_w_0, hz1_w_1]; omega)), by (first | omega | (simp [go_sem, hc1, hf1, hz1_w_0, hz1_w_1]; done) | (simp [go_sem, hc1, hf1, hz1_w_0, hz1_w_1]; omega)), by (repeat' (first | (with_reducible exact Below.refl _ _) | (with_reducible assumption) | (with_reducible refine below_alloc ?_ _) | (with_reducible refine Below.drew ?_) | (with_reducible refine Below.setCell ?_ ?_ _) | (with_reducible refine below_after ?_ (by assumption)) | go_size))⟩ ?_
  rintro A ⟨hAc0, hAc1, hAf0, hAf1, hAz0, hAz1, hAb⟩
  clear hb1 hc1 hf1
  go_wp2_with fail
  ((with_reducible refine (B.out _ (HF.out.later (by (repeat' (first | (with_reducible exact Below.refl _ _) | (with_reducible assumption) | (with_reducible refine below_alloc ?_ _) | (with_reducible refine Below.drew ?_) | (with_reducible refine Below.setCell ?_ ?_ _) | (with_reducible refine below_after ?_ (by assumption)) | go_size))))).mono ?_); rintro e w2 ⟨k, rfl, hb, hb2⟩)
  have hb02 := below_after hAb hb2
  have HST := Lib.hid (show ∀ x, Below w2.heap.size w2 x → (∀ o, x.cell? ⟨w.heap.size, o, none⟩ = (#[.slice ax X.length cx, .slice (some ⟨bz, oz, none⟩) Z.length cz, .slice (some ⟨bh, oh, none⟩) H.length ch] : Array Value)[o]?) ∧ (∀ o, x.cell? ⟨w.heap.size + 1, o, none⟩ = (#[.bool false, .int .u64 0, .int .u64 0, .int .u64 0, .int .u64 0, .bool false, .int .u64 0, .int .u64 0, .int .u64 0, .int .u64 0] : Array Value)[o]?) ∧ (∀ o, x.frozen? ⟨w.heap.size + 1, o, none⟩ = false) ∧ w.heap.size < x.heap.size ∧ w.heap.size + 1 < x.heap.size from fun x h =>
    have q := below_after hb2 h
    ⟨keep_cell q hAz0 hAc0, keep_cell q hAz1 hAc1, keep_frozen q hAz1 hAf1, keep_lt q hAz0, keep_lt q hAz1⟩)
  have HRD := Lib.hid (show ∀ j, j < Z.length → ∀ x, Below w2.heap.size w2 x → x.cell? ⟨bh, oh + i, none⟩ = some (.slice (some ⟨rb, ro, none⟩) Z.length (C i)) ∧ x.cell? ⟨rb, ro + j, none⟩ = some (.int .i64 (ix (row H i) j)) ∧ x.cell? ⟨bz, oz + j, none⟩ = some (.int .i64 (ix Z j)) from fun j hj x h =>
    have q := below_after hb02 h
    ⟨(q.cell (p := ⟨bh, oh + i, none⟩) lh).trans hrc, (q.cell (p := ⟨rb, ro + j, none⟩) lr).trans (HW.out.cell j (by rw [HRL.out]; exact hj)), (q.cell (p := ⟨bz, oz + j, none⟩) lz).trans (HZ.out.cell j hj)⟩)
  have HB02 := Lib.hid hb02
  have HB := Lib.hid hb
  have hklt := hb.lt
  have hX16 : (Z.length : Int) ≤ 16 := by omega
  clear hAc0 hAc1 hAf0 hAf1 hAz0 hAz1 hAb hb2 hb02 hrc hb B K HF
  go_wp2
  go_loopg [9, 11] k (fun gg nv jv wr => ∃ j : Nat, j ≤ k ∧ k - j ≤ gg ∧ jv = .int .i64 (j : Int) ∧ nv = .int .i64 (secTo Z (row H i) j) ∧ Hid (Below w2.heap.size w2 wr))
  case atStart => exact ⟨0, by omega, by omega, rfl, by rw [secTo_zero], Lib.hid (Below.refl _ _)⟩
  case round =>
    obtain ⟨j, hj, hgj, rfl, rfl, HW2⟩ := hrel
    have s0 := SB.out j (by omega)
    obtain ⟨q0, q1', q2', q3', q4'⟩ := HST.out wr HW2.out
    by_cases hlt : j < k
    · have g1 : (j : Int) < (k : Int) := by omega
      have g2 : (j : Int) < (Z.length : Int) := by omega
      have g3 : (j : Int) + 1 < (Z.length : Int) := by omega
      have g4 : (0 : Int) ≤ (j : Int) + 1 := by omega
      have g5 : ((j : Int) + 1).toNat = j + 1 := by omega
      have g6 : IntKind.i64.wrap ((j : Int) + 1) = (j : Int) + 1 := by rw [IntKind.wrap_i64]; omega
      obtain ⟨p0, p1, p2⟩ := HRD.out j (by omega) wr HW2.out
      obtain ⟨-, p3, p4⟩ := HRD.out (j + 1) (by omega) wr HW2.out
      have a1 := HV.out.za j (by omega)
      have a2 := HV.out.zr j (by omega)
      have a3 := HV.out.zr (j + 1) (by omega)
      have a4 := HV.out.hv i (by have := HL.out; omega) j (by omega)
      have a5 := HV.out.hv i (by have := HL.out; omega) (j + 1) (by omega)
      have HS := Lib.hid (secTo_succ Z (row H i) j)
      generalize secTo Z (row H i) j = S at *
      generalize ix (row H i) j = v0 at *
      generalize ix (row H i) (j + 1) = v1 at *
      generalize ix Z j = u0 at *
      generalize ix Z (j + 1) = u1 at *
      have e1 : 0 ≤ 2 * (v0 + v1) * (u1 - u0) := Int.mul_nonneg (by omega) (by omega)
      have e2 : 2 * (v0 + v1) * (u1 - u0) ≤ 16384 * 4096 := Int.mul_le_mul (by omega) (by omega) (by omega) (by omega)
      have r1 : IntKind.i64.wrap (v0 + v1) = v0 + v1 := by rw [IntKind.wrap_i64]; omega
      have r2 : IntKind.i64.wrap (2 * (v0 + v1)) = 2 * (v0 + v1) := by rw [IntKind.wrap_i64]; omega
      have r3 : IntKind.i64.wrap (u1 - u0) = u1 - u0 := by rw [IntKind.wrap_i64]; omega
      have r4 : IntKind.i64.wrap (2 * (v0 + v1) * (u1 - u0)) = 2 * (v0 + v1) * (u1 - u0) := by rw [IntKind.wrap_i64]; omega
      have r5 : IntKind.i64.wrap (S + 2 * (v0 + v1) * (u1 - u0)) = S + 2 * (v0 + v1) * (u1 - u0) := by rw [IntKind.wrap_i64]; omega
      clear a1 a2 a3 a4 a5 s0
      go_upto_region 9 with (fail)
      go_quiet (fail)
      have HD := Lib.hid (below_drewN' HW2.out nq)
      clear q0 q1' q2' q3' q4' p0 p1 p2 p3 p4 HW2
      go_wp2
      go_roundg (k - (j + 1))
      case rel => exact ⟨j + 1, by omega, by omega, by go_num, by rw [HS.out], HD⟩
      case measure => omega
    · obtain rfl : j = k := by omega
      have g1 : ¬ (j : Int) < (j : Int) := by omega
      have g2 : (j : Int) < (Z.length : Int) := by omega
      have g3 : (j : Int) + 1 < (Z.length : Int) := by omega
      have g4 : (0 : Int) ≤ (j : Int) + 1 := by omega
      have g5 : ((j : Int) + 1).toNat = j + 1 := by omega
      have g6 : IntKind.i64.wrap ((j : Int) + 1) = (j : Int) + 1 := by rw [IntKind.wrap_i64]; omega
      have hb := HB.out
      have a1 := HV.out.za j (by omega)
      have a2 := HV.out.zr j (by omega)
      have a3 := HV.out.zr (j + 1) (by omega)
      have a4 := HV.out.hv i (by have := HL.out; omega) j (by omega)
      have a5 := HV.out.hv i (by have := HL.out; omega) (j + 1) (by omega)
      have a6 := hb.lo
      have a7 := hb.hi
      have hsm := SM.out j hb
      have hsx : sxN Z (row H i) z j = secTo Z (row H i) j * (ix Z (j + 1) - ix Z j) + 2 * (ix (row H i) j * (ix Z (j + 1) - ix Z j) + (ix (row H i) j * (ix Z (j + 1) - z) + ix (row H i) (j + 1) * (z - ix Z j))) * (z - ix Z j) := by unfold sxN; rfl
      have hbd : btD Z j = (ix Z (j + 1) - ix Z j).toNat := by unfold btD; rfl
      rw [hsx, hbd] at hsm
      have P0 := Lib.hid (HRD.out j (by omega))
      have P1 := Lib.hid (HRD.out (j + 1) (by omega))
      clear hsx hbd hb HB SM SB HV HRD
      have hs15 : secTo Z (row H i) j ≤ 1073741824 := by omega
      generalize secTo Z (row H i) j = S at *
      generalize ix (row H i) j = v0 at *
      generalize ix (row H i) (j + 1) = v1 at *
      generalize ix Z j = u0 at *
      generalize ix Z (j + 1) = u1 at *
      have e1 : 0 ≤ S * (u1 - u0) := Int.mul_nonneg s0.1 (by omega)
      have e2 : S * (u1 - u0) ≤ 1073741824 * 4096 := Int.mul_le_mul hs15 (by omega) (by omega) (by omega)
      have e3 : 0 ≤ v0 * (u1 - u0) := Int.mul_nonneg a4.1 (by omega)
      have e4 : v0 * (u1 - u0) ≤ 4096 * 4096 := Int.mul_le_mul a4.2 (by omega) (by omega) (by omega)
      have e5 : 0 ≤ v0 * (u1 - z) := Int.mul_nonneg a4.1 (by omega)
      have e6 : v0 * (u1 - z) ≤ 4096 * 4096 := Int.mul_le_mul a4.2 (by omega) (by omega) (by omega)
      have e7 : 0 ≤ v1 * (z - u0) := Int.mul_nonneg a5.1 (by omega)
      have e8 : v1 * (z - u0) ≤ 4096 * 4096 := Int.mul_le_mul a5.2 (by omega) (by omega) (by omega)
      obtain ⟨d, hd⟩ : ∃ d, d = u1 - u0 := ⟨_, rfl⟩
      rw [← hd] at e1 e2 e3 e4 hsm
      obtain ⟨q1, hq1⟩ : ∃ v, v = S * d := ⟨_, rfl⟩
      obtain ⟨q2, hq2⟩ : ∃ v, v = v0 * d := ⟨_, rfl⟩
      obtain ⟨q3, hq3⟩ : ∃ v, v = v0 * (u1 - z) := ⟨_, rfl⟩
      obtain ⟨q4, hq4⟩ : ∃ v, v = v1 * (z - u0) := ⟨_, rfl⟩
      rw [← hq1] at e1 e2 hsm
      rw [← hq2] at e3 e4 hsm
      rw [← hq3] at e5 e6 hsm
      rw [← hq4] at e7 e8 hsm
      have e9 : 0 ≤ 2 * (q2 + (q3 + q4)) * (z - u0) := Int.mul_nonneg (by omega) (by omega)
      have e10 : 2 * (q2 + (q3 + q4)) * (z - u0) ≤ 100663296 * 4096 := Int.mul_le_mul (by omega) (by omega) (by omega) (by omega)
      obtain ⟨q5, hq5⟩ : ∃ v, v = 2 * (q2 + (q3 + q4)) * (z - u0) := ⟨_, rfl⟩
      rw [← hq5] at e9 e10 hsm
      obtain ⟨f1, f2⟩ := hsm (by omega)
      have O := Lib.hid (show ∀ v, Calls Tryd.prog 47 #[.int .i64 (q1 + q5), .int .i64 d] v fun e w' => e = .returned (.tuple #[(.agg #[.bool false, .int .u64 (((x') : Nat) : Int), .int .u64 0, .int .u64 0, .int .u64 0, .bool false, .int .u64 (((y') : Nat) : Int), .int .u64 0, .int .u64 0, .int .u64 0]), .int .i64 0]) ∧ Below v.heap.size v w' from fun v => by
        have K := refOf_any (q1 + q5).toNat d.toNat (by omega) (by omega) (by omega) v
        rw [Int.toNat_of_nonneg (by omega), Int.toNat_of_nonneg (by omega)] at K
        rw [← f1, ← f2]
        unfold rnN rdN
        exact K)
      have t1 : IntKind.i64.wrap (u1 - u0) = d := by rw [IntKind.wrap_i64]; omega
      have t2 : IntKind.i64.wrap (u1 - z) = u1 - z := by rw [IntKind.wrap_i64]; omega
      have t3 : IntKind.i64.wrap (z - u0) = z - u0 := by rw [IntKind.wrap_i64]; omega
      have t4 : IntKind.i64.wrap (v0 * (u1 - z)) = q3 := by rw [← hq3, IntKind.wrap_i64]; omega
      have t5 : IntKind.i64.wrap (v1 * (z - u0)) = q4 := by rw [← hq4, IntKind.wrap_i64]; omega
      have t6 : IntKind.i64.wrap (q3 + q4) = q3 + q4 := by rw [IntKind.wrap_i64]; omega
      have t7 : IntKind.i64.wrap (S * d) = q1 := by rw [← hq1, IntKind.wrap_i64]; omega
      have t8 : IntKind.i64.wrap (v0 * d) = q2 := by rw [← hq2, IntKind.wrap_i64]; omega
      have t9 : IntKind.i64.wrap (q2 + (q3 + q4)) = q2 + (q3 + q4) := by rw [IntKind.wrap_i64]; omega
      have t10 : IntKind.i64.wrap (2 * (q2 + (q3 + q4))) = 2 * (q2 + (q3 + q4)) := by rw [IntKind.wrap_i64]; omega
      have t11 : IntKind.i64.wrap (2 * (q2 + (q3 + q4)) * (z - u0)) = q5 := by rw [← hq5, IntKind.wrap_i64]; omega
      have t12 : IntKind.i64.wrap (q1 + q5) = q1 + q5 := by rw [IntKind.wrap_i64]; omega
      clear hd hq1 hq2 hq3 hq4 hq5 hsm f1 f2 e1 e2 e3 e4 e5 e6 e7 e8 e9 e10 a1 a2 a3 a4 a5 a6 a7 s0 hs15
      obtain ⟨p0, p1, p2⟩ := P0.out wr HW2.out
      obtain ⟨-, p3, p4⟩ := P1.out wr HW2.out
      go_upto_region 10 with (fail)
      go_quiet (fail)
      have HQ := Lib.hid (below_drewN' HW2.out nq)
      clear q0 q1' q2' q3' q4' p0 p1 p2 p3 p4 HW2
      generalize wr.drewN nq = W3 at *
      obtain ⟨p0, p1, p2⟩ := P0.out W3 HQ.out
      obtain ⟨-, p3, p4⟩ := P1.out W3 HQ.out
      obtain ⟨n0, n1, n2, n3, n4⟩ := HST.out W3 HQ.out
      go_upto_region 11 with (fail)
      go_quiet (fail)
      have HQ2 := Lib.hid (below_drewN' HQ.out nq)
      clear n0 n1 n2 n3 n4 p0 p1 p2 p3 p4 HQ
      generalize W3.drewN nq = W4 at *
      obtain ⟨p0, p1, p2⟩ := P0.out W4 HQ2.out
      obtain ⟨n0, n1, n2, n3, n4⟩ := HST.out W4 HQ2.out
      go_upto_region 12 with (fail)
      go_wp2_with fail
      ((with_reducible refine (O.out _).mono ?_); rintro e w5 ⟨rfl, hb5⟩)
      have m1 := keep_cell hb5 n4 n1
      have m2 := keep_frozen hb5 n4 n2
      have m4 := keep_lt hb5 n4
      have hbf := below_after (below_after HB02.out HQ2.out) hb5
      clear n0 n1 n2 n3 n4 p0 p1 p2 HQ2 hb5 O P0 P1 HST HB02 t1 t2 t3 t4 t5 t6 t7 t8 t9 t10 t11 t12
      go_wp2_with ((with_reducible show bodyPost _ _ _ _ _ _); refine bodyPost_ret (by simp [results, Tryd.results16, go_sem, m1, m2, m4]; try rfl) rfl ?_; exact ⟨rfl, by (repeat' (first | (with_reducible exact Below.refl _ _) | (with_reducible assumption) | (with_reducible refine below_alloc ?_ _) | (with_reducible refine Below.drew ?_) | (with_reducible refine Below.setCell ?_ ?_ _) | (with_reducible refine below_after ?_ (by assumption)) | go_size))⟩)
end Go.Proofs.YtfmmnnodihpgmaaDoor
