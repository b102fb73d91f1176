/-
  HullHalves: the walk of the law: for any form, station and height it returns true. (Written by wip/gen_halves.py.)
-/
import Derived.Test.YtfmmnnodihpgmaaDoorHAwD
import Derived.Test.YtfmmnnodihpgmaaDoorNatY
namespace Go.Proofs.YtfmmnnodihpgmaaDoor
set_option linter.all false
open Go Go.RowKit Wd
set_option maxRecDepth 100000
theorem half_pair (ax az ah : Option Addr) (cx cz ch : Nat) (A : Nat → Option Addr) (C : Nat → Nat) (X Z : List Int) (H : List (List Int)) (i z : Int) : ∃ (s t : Bool) (v0 v1 v2 v3 v4 v5 v6 v7 e : Int),
    (∀ W, Frm W ax az ah A C X Z H → Tab64 W → Calls Tryd.prog 13 #[.agg #[.slice ax X.length cx, .slice az Z.length cz, .slice ah H.length ch], .int .i64 i, .int .i64 z] W fun r w' => r = .returned (.tuple #[.agg #[.bool s, .int .u64 v0, .int .u64 v1, .int .u64 v2, .int .u64 v3, .bool t, .int .u64 v4, .int .u64 v5, .int .u64 v6, .int .u64 v7], .int .i64 e]) ∧ Below W.heap.size W w') ∧
    (∀ W, Frm W ax az ah A C X Z H → Calls Tryd.prog 14 #[.agg #[.slice ax X.length cx, .slice az Z.length cz, .slice ah H.length ch], .int .i64 i, .int .i64 z] W fun r w' => r = .returned (.tuple #[.agg #[.bool s, .int .u64 v0, .int .u64 v1, .int .u64 v2, .int .u64 v3, .bool t, .int .u64 v4, .int .u64 v5, .int .u64 v6, .int .u64 v7], .int .i64 e]) ∧ Below W.heap.size W w') := by
  by_cases hs : stn X Z H i z = 0
  · obtain ⟨h1, h2, h3⟩ := stn_rgt hs
    obtain ⟨n, rfl⟩ := Int.eq_ofNat_of_zero_le h2
    exact ⟨_, _, _, _, _, _, _, _, _, _, _, fun W hf hT => Half_ok ax az ah cx cz ch A C X Z H n z hs W hf hT, fun W hf => rHalf_ok ax az ah cx cz ch A C X Z H n z hs W hf⟩
  · exact ⟨_, _, _, _, _, _, _, _, _, _, _, fun W hf _ => Half_bad ax az ah cx cz ch A C X Z H i z hs W hf, fun W hf => rHalf_bad ax az ah cx cz ch A C X Z H i z hs W hf⟩
theorem sec_pair (ax az ah : Option Addr) (cx cz ch : Nat) (A : Nat → Option Addr) (C : Nat → Nat) (X Z : List Int) (H : List (List Int)) (i z : Int) : ∃ (s t : Bool) (v0 v1 v2 v3 v4 v5 v6 v7 e : Int),
    (∀ W, Frm W ax az ah A C X Z H → Tab64 W → Calls Tryd.prog 15 #[.agg #[.slice ax X.length cx, .slice az Z.length cz, .slice ah H.length ch], .int .i64 i, .int .i64 z] W fun r w' => r = .returned (.tuple #[.agg #[.bool s, .int .u64 v0, .int .u64 v1, .int .u64 v2, .int .u64 v3, .bool t, .int .u64 v4, .int .u64 v5, .int .u64 v6, .int .u64 v7], .int .i64 e]) ∧ Below W.heap.size W w') ∧
    (∀ W, Frm W ax az ah A C X Z H → Calls Tryd.prog 16 #[.agg #[.slice ax X.length cx, .slice az Z.length cz, .slice ah H.length ch], .int .i64 i, .int .i64 z] W fun r w' => r = .returned (.tuple #[.agg #[.bool s, .int .u64 v0, .int .u64 v1, .int .u64 v2, .int .u64 v3, .bool t, .int .u64 v4, .int .u64 v5, .int .u64 v6, .int .u64 v7], .int .i64 e]) ∧ Below W.heap.size W w') := by
  by_cases hs : stn X Z H i z = 0
  · obtain ⟨h1, h2, h3⟩ := stn_rgt hs
    obtain ⟨n, rfl⟩ := Int.eq_ofNat_of_zero_le h2
    exact ⟨_, _, _, _, _, _, _, _, _, _, _, fun W hf hT => Section2_ok ax az ah cx cz ch A C X Z H n z hs W hf hT, fun W hf => rSection2_ok ax az ah cx cz ch A C X Z H n z hs W hf⟩
  · exact ⟨_, _, _, _, _, _, _, _, _, _, _, fun W hf _ => Section2_bad ax az ah cx cz ch A C X Z H i z hs W hf, fun W hf => rSection2_bad ax az ah cx cz ch A C X Z H i z hs W hf⟩
set_option maxHeartbeats 4000000 in
theorem halves_any (ax az ah : Option Addr) (cx cz ch : Nat) (A : Nat → Option Addr) (C : Nat → Nat) (X Z : List Int) (H : List (List Int)) (hx : X.length ≤ 9223372036854775807) (_hz : Z.length ≤ 9223372036854775807) (i : Int) (_hi : -9223372036854775808 ≤ i) (_hi' : i ≤ 9223372036854775807) (z : Int) (_hz0 : -9223372036854775808 ≤ z) (_hz1 : z ≤ 9223372036854775807) (w : World) (hf : Frm w ax az ah A C X Z H) (hT : Tab64 w) :
    Calls Tryd.prog 4 #[.agg #[.slice ax X.length cx, .slice az Z.length cz, .slice ah H.length ch], .int .i64 i, .int .i64 z] w fun e w' => e = .returned (.bool true) ∧ Below w.heap.size w w' := by
  have HT := Lib.hid hT
  have HF := Lib.hid hf
  rcases (by cases lightB X Z H <;> simp : lightB X Z H = true ∨ lightB X Z H = false) with hl | hl
  · have HL := Lib.hid (show ∀ W : World, Frm W ax az ah A C X Z H → Calls Tryd.prog 9 #[.agg #[.slice ax X.length cx, .slice az Z.length cz, .slice ah H.length ch]] W fun e w' => e = .returned (.bool true) ∧ Below W.heap.size W w' from by rw [← hl]; exact fun W h => light_any ax az ah cx cz ch A C X Z H hx W h)
    obtain ⟨sa, ta, a0, a1, a2, a3, a4, a5, a6, a7, ae, q1, q2⟩ := half_pair ax az ah cx cz ch A C X Z H i z
    obtain ⟨sc, tc, c0, c1, c2, c3, c4, c5, c6, c7, ce, q3, q4⟩ := sec_pair ax az ah cx cz ch A C X Z H i z
    have K1 := Lib.hid q1
    have K2 := Lib.hid q2
    have K3 := Lib.hid q3
    have K4 := Lib.hid q4
    have E1 := fun x => eq_ratio_self sa ta a0 a1 a2 a3 a4 a5 a6 a7 x
    have E2 := fun x => eq_ratio_self sc tc c0 c1 c2 c3 c4 c5 c6 c7 x
    clear hT hf hl hx q1 q2 q3 q4
    go_enter Tryd.func4, Tryd.ntmps4
    go_wp2_with fail
    ((with_reducible refine (HL.out _ (HF.out.later (by (repeat' (first | (with_reducible exact Below.refl _ _) | (with_reducible assumption) | (with_reducible refine below_alloc ?_ _) | (with_reducible refine Below.drew ?_) | (with_reducible refine Below.setCell ?_ ?_ _) | (with_reducible refine below_after ?_ (by assumption)) | go_size))))).mono ?_); rintro e w1 ⟨rfl, hb1⟩)
    obtain ⟨hc1, hf1⟩ := bcell hb1
    have hz1_w_0 : w.heap.size < w1.heap.size := by have h := hb1.size; (try simp at h); omega
    go_upto_region 3 with (fail)
    refine wp_world (fun x => (∀ o, x.cell? ⟨w.heap.size, o, none⟩ = (#[.slice ax X.length cx, .slice az Z.length cz, .slice ah H.length ch] : Array Value)[o]?) ∧ (∀ o, x.frozen? ⟨w.heap.size, o, none⟩ = false) ∧ w.heap.size < x.heap.size ∧ Below w.heap.size w x) ⟨fun o => by simp [go_sem, hc1, hf1, hz1_w_0], fun o => by simp [go_sem, hc1, hf1, hz1_w_0], by (first | omega | (simp [go_sem, hc1, hf1, hz1_w_0]; done) | (simp [go_sem, hc1, hf1, hz1_w_0]; omega)), by (repeat' (first | (with_reducible exact Below.refl _ _) | (with_reducible assumption) | (with_reducible refine below_alloc ?_ _) | (with_reducible refine Below.drew ?_) | (with_reducible refine Below.setCell ?_ ?_ _) | (with_reducible refine below_after ?_ (by assumption)) | go_size))⟩ ?_
    rintro G ⟨hGc0, hGf0, hGz0, hGb⟩
    clear hb1 hc1 hf1
    go_wp2_with fail
    ((with_reducible refine (K1.out _ (HF.out.later (by (repeat' (first | (with_reducible exact Below.refl _ _) | (with_reducible assumption) | (with_reducible refine below_alloc ?_ _) | (with_reducible refine Below.drew ?_) | (with_reducible refine Below.setCell ?_ ?_ _) | (with_reducible refine below_after ?_ (by assumption)) | go_size)))) (HT.out.later (by (repeat' (first | (with_reducible exact Below.refl _ _) | (with_reducible assumption) | (with_reducible refine below_alloc ?_ _) | (with_reducible refine Below.drew ?_) | (with_reducible refine Below.setCell ?_ ?_ _) | (with_reducible refine below_after ?_ (by assumption)) | go_size))))).mono ?_); rintro e w2 ⟨rfl, hb2⟩)
    have hk2 : Kp G.heap.size [] G w2 := (by (repeat (first | (with_reducible assumption) | (with_reducible exact Kp.refl (Nat.le_refl _)) | (with_reducible refine Kp.drew ?_) | (with_reducible refine Kp.alloc ?_ _) | ((with_reducible refine Kp.put ?_ ?_ _); focus (first | (left; go_size; done) | (right; simp; done))) | ((with_reducible apply Kp.later); (with_reducible assumption)))))
    have h2c0 := fun o => (hk2.cell _ o hGz0 (by simp)).trans (hGc0 o)
    have h2f0 := fun o => (hk2.froz _ o hGz0).trans (hGf0 o)
    have h2z0 := Nat.lt_of_lt_of_le hGz0 hk2.size
    go_upto_region 4 with (fail)
    refine wp_world (fun x => (∀ o, x.cell? ⟨w.heap.size, o, none⟩ = (#[.slice ax X.length cx, .slice az Z.length cz, .slice ah H.length ch] : Array Value)[o]?) ∧ (∀ o, x.cell? ⟨w2.heap.size, o, none⟩ = (#[.bool sa, .int .u64 a0, .int .u64 a1, .int .u64 a2, .int .u64 a3, .bool ta, .int .u64 a4, .int .u64 a5, .int .u64 a6, .int .u64 a7] : Array Value)[o]?) ∧ (∀ o, x.frozen? ⟨w.heap.size, o, none⟩ = false) ∧ (∀ o, x.frozen? ⟨w2.heap.size, o, none⟩ = false) ∧ w.heap.size < x.heap.size ∧ w2.heap.size < x.heap.size ∧ Below w.heap.size w x) ⟨fun o => by simp [go_sem, h2c0, h2f0, h2z0], fun o => by simp [go_sem, h2c0, h2f0, h2z0], fun o => by simp [go_sem, h2c0, h2f0, h2z0], fun o => by simp [go_sem, h2c0, h2f0, h2z0], by (first | omega | (simp [go_sem, h2c0, h2f0, h2z0]; done) | (simp [go_sem, h2c0, h2f0, h2z0]; omega)), by (first | omega | (simp [go_sem, h2c0, h2f0, h2z0]; done) | (simp [go_sem, h2c0, h2f0, h2z0]; omega)), by (repeat' (first | (with_reducible exact Below.refl _ _) | (with_reducible assumption) | (with_reducible refine below_alloc ?_ _) | (with_reducible refine Below.drew ?_) | (with_reducible refine Below.setCell ?_ ?_ _) | (with_reducible refine below_after ?_ (by assumption)) | go_size))⟩ ?_
    rintro P ⟨hPc0, hPc1, hPf0, hPf1, hPz0, hPz1, hPb⟩
    go_wp2_with fail
    ((with_reducible refine (K2.out _ (HF.out.later (by (repeat' (first | (with_reducible exact Below.refl _ _) | (with_reducible assumption) | (with_reducible refine below_alloc ?_ _) | (with_reducible refine Below.drew ?_) | (with_reducible refine Below.setCell ?_ ?_ _) | (with_reducible refine below_after ?_ (by assumption)) | go_size))))).mono ?_); rintro e w3 ⟨rfl, hb3⟩)
    have hk3 : Kp P.heap.size [] P w3 := (by (repeat (first | (with_reducible assumption) | (with_reducible exact Kp.refl (Nat.le_refl _)) | (with_reducible refine Kp.drew ?_) | (with_reducible refine Kp.alloc ?_ _) | ((with_reducible refine Kp.put ?_ ?_ _); focus (first | (left; go_size; done) | (right; simp; done))) | ((with_reducible apply Kp.later); (with_reducible assumption)))))
    have h3c0 := fun o => (hk3.cell _ o hPz0 (by simp)).trans (hPc0 o)
    have h3f0 := fun o => (hk3.froz _ o hPz0).trans (hPf0 o)
    have h3z0 := Nat.lt_of_lt_of_le hPz0 hk3.size
    have h3c1 := fun o => (hk3.cell _ o hPz1 (by simp)).trans (hPc1 o)
    have h3f1 := fun o => (hk3.froz _ o hPz1).trans (hPf1 o)
    have h3z1 := Nat.lt_of_lt_of_le hPz1 hk3.size
    go_upto_region 5 with (fail)
    refine wp_world (fun x => (∀ o, x.cell? ⟨w.heap.size, o, none⟩ = (#[.slice ax X.length cx, .slice az Z.length cz, .slice ah H.length ch] : Array Value)[o]?) ∧ (∀ o, x.cell? ⟨w2.heap.size, o, none⟩ = (#[.bool sa, .int .u64 a0, .int .u64 a1, .int .u64 a2, .int .u64 a3, .bool ta, .int .u64 a4, .int .u64 a5, .int .u64 a6, .int .u64 a7] : Array Value)[o]?) ∧ (∀ o, x.cell? ⟨w3.heap.size, o, none⟩ = (#[.bool sa, .int .u64 a0, .int .u64 a1, .int .u64 a2, .int .u64 a3, .bool ta, .int .u64 a4, .int .u64 a5, .int .u64 a6, .int .u64 a7] : Array Value)[o]?) ∧ (∀ o, x.frozen? ⟨w.heap.size, o, none⟩ = false) ∧ (∀ o, x.frozen? ⟨w2.heap.size, o, none⟩ = false) ∧ (∀ o, x.frozen? ⟨w3.heap.size, o, none⟩ = false) ∧ w.heap.size < x.heap.size ∧ w2.heap.size < x.heap.size ∧ w3.heap.size < x.heap.size ∧ Below w.heap.size w x) ⟨fun o => by simp [go_sem, h3c0, h3f0, h3z0, h3c1, h3f1, h3z1], fun o => by simp [go_sem, h3c0, h3f0, h3z0, h3c1, h3f1, h3z1], fun o => by simp [go_sem, h3c0, h3f0, h3z0, h3c1, h3f1, h3z1], fun o => by simp [go_sem, h3c0, h3f0, h3z0, h3c1, h3f1, h3z1], fun o => by simp [go_sem, h3c0, h3f0, h3z0, h3c1, h3f1, h3z1], fun o => by simp [go_sem, h3c0, h3f0, h3z0, h3c1, h3f1, h3z1], by (first | omega | (simp [go_sem, h3c0, h3f0, h3z0, h3c1, h3f1, h3z1]; done) | (simp [go_sem, h3c0, h3f0, h3z0, h3c1, h3f1, h3z1]; omega)), by (first | omega | (simp [go_sem, h3c0, h3f0, h3z0, h3c1, h3f1, h3z1]; done) | (simp [go_sem, h3c0, h3f0, h3z0, h3c1, h3f1, h3z1]; omega)), by (first | omega | (simp [go_sem, h3c0, h3f0, h3z0, h3c1, h3f1, h3z1]; done) | (simp [go_sem, h3c0, h3f0, h3z0, h3c1, h3f1, h3z1]; omega)), by (repeat' (first | (with_reducible exact Below.refl _ _) | (with_reducible assumption) | (with_reducible refine below_alloc ?_ _) | (with_reducible refine Below.drew ?_) | (with_reducible refine Below.setCell ?_ ?_ _) | (with_reducible refine below_after ?_ (by assumption)) | go_size))⟩ ?_
    rintro Q ⟨hQc0, hQc1, hQc2, hQf0, hQf1, hQf2, hQz0, hQz1, hQz2, hQb⟩
    go_wp2_with fail
    ((with_reducible refine (K3.out _ (HF.out.later (by (repeat' (first | (with_reducible exact Below.refl _ _) | (with_reducible assumption) | (with_reducible refine below_alloc ?_ _) | (with_reducible refine Below.drew ?_) | (with_reducible refine Below.setCell ?_ ?_ _) | (with_reducible refine below_after ?_ (by assumption)) | go_size)))) (HT.out.later (by (repeat' (first | (with_reducible exact Below.refl _ _) | (with_reducible assumption) | (with_reducible refine below_alloc ?_ _) | (with_reducible refine Below.drew ?_) | (with_reducible refine Below.setCell ?_ ?_ _) | (with_reducible refine below_after ?_ (by assumption)) | go_size))))).mono ?_); rintro e w4 ⟨rfl, hb4⟩)
    have hk4 : Kp Q.heap.size [] Q w4 := (by (repeat (first | (with_reducible assumption) | (with_reducible exact Kp.refl (Nat.le_refl _)) | (with_reducible refine Kp.drew ?_) | (with_reducible refine Kp.alloc ?_ _) | ((with_reducible refine Kp.put ?_ ?_ _); focus (first | (left; go_size; done) | (right; simp; done))) | ((with_reducible apply Kp.later); (with_reducible assumption)))))
    have h4c0 := fun o => (hk4.cell _ o hQz0 (by simp)).trans (hQc0 o)
    have h4f0 := fun o => (hk4.froz _ o hQz0).trans (hQf0 o)
    have h4z0 := Nat.lt_of_lt_of_le hQz0 hk4.size
    have h4c1 := fun o => (hk4.cell _ o hQz1 (by simp)).trans (hQc1 o)
    have h4f1 := fun o => (hk4.froz _ o hQz1).trans (hQf1 o)
    have h4z1 := Nat.lt_of_lt_of_le hQz1 hk4.size
    have h4c2 := fun o => (hk4.cell _ o hQz2 (by simp)).trans (hQc2 o)
    have h4f2 := fun o => (hk4.froz _ o hQz2).trans (hQf2 o)
    have h4z2 := Nat.lt_of_lt_of_le hQz2 hk4.size
    go_upto_region 6 with (fail)
    refine wp_world (fun x => (∀ o, x.cell? ⟨w.heap.size, o, none⟩ = (#[.slice ax X.length cx, .slice az Z.length cz, .slice ah H.length ch] : Array Value)[o]?) ∧ (∀ o, x.cell? ⟨w2.heap.size, o, none⟩ = (#[.bool sa, .int .u64 a0, .int .u64 a1, .int .u64 a2, .int .u64 a3, .bool ta, .int .u64 a4, .int .u64 a5, .int .u64 a6, .int .u64 a7] : Array Value)[o]?) ∧ (∀ o, x.cell? ⟨w3.heap.size, o, none⟩ = (#[.bool sa, .int .u64 a0, .int .u64 a1, .int .u64 a2, .int .u64 a3, .bool ta, .int .u64 a4, .int .u64 a5, .int .u64 a6, .int .u64 a7] : Array Value)[o]?) ∧ (∀ o, x.cell? ⟨w4.heap.size, o, none⟩ = (#[.bool sc, .int .u64 c0, .int .u64 c1, .int .u64 c2, .int .u64 c3, .bool tc, .int .u64 c4, .int .u64 c5, .int .u64 c6, .int .u64 c7] : Array Value)[o]?) ∧ (∀ o, x.frozen? ⟨w.heap.size, o, none⟩ = false) ∧ (∀ o, x.frozen? ⟨w2.heap.size, o, none⟩ = false) ∧ (∀ o, x.frozen? ⟨w3.heap.size, o, none⟩ = false) ∧ (∀ o, x.frozen? ⟨w4.heap.size, o, none⟩ = false) ∧ w.heap.size < x.heap.size ∧ w2.heap.size < x.heap.size ∧ w3.heap.size < x.heap.size ∧ w4.heap.size < x.heap.size ∧ Below w.heap.size w x) ⟨fun o => by simp [go_sem, h4c0, h4f0, h4z0, h4c1, h4f1, h4z1, h4c2, h4f2, h4z2], fun o => by simp [go_sem, h4c0, h4f0, h4z0, h4c1, h4f1, h4z1, h4c2, h4f2, h4z2], fun o => by simp [go_sem, h4c0, h4f0, h4z0, h4c1, h4f1, h4z1, h4c2, h4f2, h4z2], fun o => by simp [go_sem, h4c0, h4f0, h4z0, h4c1, h4f1, h4z1, h4c2, h4f2, h4z2], fun o => by simp [go_sem, h4c0, h4f0, h4z0, h4c1, h4f1, h4z1, h4c2, h4f2, h4z2], fun o => by simp [go_sem, h4c0, h4f0, h4z0, h4c1, h4f1, h4z1, h4c2, h4f2, h4z2], fun o => by simp [go_sem, h4c0, h4f0, h4z0, h4c1, h4f1, h4z1, h4c2, h4f2, h4z2], fun o => by simp [go_sem, h4c0, h4f0, h4z0, h4c1, h4f1, h4z1, h4c2, h4f2, h4z2], by (first | omega | (simp [go_sem, h4c0, h4f0, h4z0, h4c1, h4f1, h4z1, h4c2, h4f2, h4z2]; done) | (simp [go_sem, h4c0, h4f0, h4z0, h4c1, h4f1, h4z1, h4c2, h4f2, h4z2]; omega)), by (first | omega | (simp [go_sem, h4c0, h4f0, h4z0, h4c1, h4f1, h4z1, h4c2, h4f2, h4z2]; done) | (simp [go_sem, h4c0, h4f0, h4z0, h4c1, h4f1, h4z1, h4c2, h4f2, h4z2]; omega)), by (first | omega | (simp [go_sem, h4c0, h4f0, h4z0, h4c1, h4f1, h4z1, h4c2, h4f2, h4z2]; done) | (simp [go_sem, h4c0, h4f0, h4z0, h4c1, h4f1, h4z1, h4c2, h4f2, h4z2]; omega)), by (first | omega | (simp [go_sem, h4c0, h4f0, h4z0, h4c1, h4f1, h4z1, h4c2, h4f2, h4z2]; done) | (simp [go_sem, h4c0, h4f0, h4z0, h4c1, h4f1, h4z1, h4c2, h4f2, h4z2]; omega)), by (repeat' (first | (with_reducible exact Below.refl _ _) | (with_reducible assumption) | (with_reducible refine below_alloc ?_ _) | (with_reducible refine Below.drew ?_) | (with_reducible refine Below.setCell ?_ ?_ _) | (with_reducible refine below_after ?_ (by assumption)) | go_size))⟩ ?_
    rintro R ⟨hRc0, hRc1, hRc2, hRc3, hRf0, hRf1, hRf2, hRf3, hRz0, hRz1, hRz2, hRz3, hRb⟩
    go_wp2_with fail
    ((with_reducible refine (K4.out _ (HF.out.later (by (repeat' (first | (with_reducible exact Below.refl _ _) | (with_reducible assumption) | (with_reducible refine below_alloc ?_ _) | (with_reducible refine Below.drew ?_) | (with_reducible refine Below.setCell ?_ ?_ _) | (with_reducible refine below_after ?_ (by assumption)) | go_size))))).mono ?_); rintro e w5 ⟨rfl, hb5⟩)
    have hk5 : Kp R.heap.size [] R w5 := (by (repeat (first | (with_reducible assumption) | (with_reducible exact Kp.refl (Nat.le_refl _)) | (with_reducible refine Kp.drew ?_) | (with_reducible refine Kp.alloc ?_ _) | ((with_reducible refine Kp.put ?_ ?_ _); focus (first | (left; go_size; done) | (right; simp; done))) | ((with_reducible apply Kp.later); (with_reducible assumption)))))
    have h5c0 := fun o => (hk5.cell _ o hRz0 (by simp)).trans (hRc0 o)
    have h5f0 := fun o => (hk5.froz _ o hRz0).trans (hRf0 o)
    have h5z0 := Nat.lt_of_lt_of_le hRz0 hk5.size
    have h5c1 := fun o => (hk5.cell _ o hRz1 (by simp)).trans (hRc1 o)
    have h5f1 := fun o => (hk5.froz _ o hRz1).trans (hRf1 o)
    have h5z1 := Nat.lt_of_lt_of_le hRz1 hk5.size
    have h5c2 := fun o => (hk5.cell _ o hRz2 (by simp)).trans (hRc2 o)
    have h5f2 := fun o => (hk5.froz _ o hRz2).trans (hRf2 o)
    have h5z2 := Nat.lt_of_lt_of_le hRz2 hk5.size
    have h5c3 := fun o => (hk5.cell _ o hRz3 (by simp)).trans (hRc3 o)
    have h5f3 := fun o => (hk5.froz _ o hRz3).trans (hRf3 o)
    have h5z3 := Nat.lt_of_lt_of_le hRz3 hk5.size
    go_upto_region 7 with (fail)
    refine wp_world (fun x => (∀ o, x.cell? ⟨w2.heap.size, o, none⟩ = (#[.bool sa, .int .u64 a0, .int .u64 a1, .int .u64 a2, .int .u64 a3, .bool ta, .int .u64 a4, .int .u64 a5, .int .u64 a6, .int .u64 a7] : Array Value)[o]?) ∧ (∀ o, x.cell? ⟨w3.heap.size, o, none⟩ = (#[.bool sa, .int .u64 a0, .int .u64 a1, .int .u64 a2, .int .u64 a3, .bool ta, .int .u64 a4, .int .u64 a5, .int .u64 a6, .int .u64 a7] : Array Value)[o]?) ∧ (∀ o, x.cell? ⟨w4.heap.size, o, none⟩ = (#[.bool sc, .int .u64 c0, .int .u64 c1, .int .u64 c2, .int .u64 c3, .bool tc, .int .u64 c4, .int .u64 c5, .int .u64 c6, .int .u64 c7] : Array Value)[o]?) ∧ (∀ o, x.cell? ⟨w5.heap.size, o, none⟩ = (#[.bool sc, .int .u64 c0, .int .u64 c1, .int .u64 c2, .int .u64 c3, .bool tc, .int .u64 c4, .int .u64 c5, .int .u64 c6, .int .u64 c7] : Array Value)[o]?) ∧ (∀ o, x.frozen? ⟨w2.heap.size, o, none⟩ = false) ∧ (∀ o, x.frozen? ⟨w3.heap.size, o, none⟩ = false) ∧ (∀ o, x.frozen? ⟨w4.heap.size, o, none⟩ = false) ∧ (∀ o, x.frozen? ⟨w5.heap.size, o, none⟩ = false) ∧ w2.heap.size < x.heap.size ∧ w3.heap.size < x.heap.size ∧ w4.heap.size < x.heap.size ∧ w5.heap.size < x.heap.size ∧ Below w.heap.size w x) ⟨(fun o => by simp [go_sem, h5c0, h5f0, h5z0, h5c1, h5f1, h5z1, h5c2, h5f2, h5z2, h5c3, h5f3, h5z3]), fun o => by simp [go_sem, h5c0, h5f0, h5z0, h5c1, h5f1, h5z1, h5c2, h5f2, h5z2, h5c3, h5f3, h5z3], fun o => by simp [go_sem, h5c0, h5f0, h5z0, h5c1, h5f1, h5z1, h5c2, h5f2, h5z2, h5c3, h5f3, h5z3], fun o => by simp [go_sem, h5c0, h5f0, h5z0, h5c1, h5f1, h5z1, h5c2, h5f2, h5z2, h5c3, h5f3, h5z3], fun o => by simp [go_sem, h5c0, h5f0, h5z0, h5c1, h5f1, h5z1, h5c2, h5f2, h5z2, h5c3, h5f3, h5z3], fun o => by simp [go_sem, h5c0, h5f0, h5z0, h5c1, h5f1, h5z1, h5c2, h5f2, h5z2, h5c3, h5f3, h5z3], fun o => by simp [go_sem, h5c0, h5f0, h5z0, h5c1, h5f1, h5z1, h5c2, h5f2, h5z2, h5c3, h5f3, h5z3], fun o => by simp [go_sem, h5c0, h5f0, h5z0, h5c1, h5f1, h5z1, h5c2, h5f2, h5z2, h5c3, h5f3, h5z3], by (first | omega | (simp [go_sem, h5c0, h5f0, h5z0, h5c1, h5f1, h5z1, h5c2, h5f2, h5z2, h5c3, h5f3, h5z3]; done) | (simp [go_sem, h5c0, h5f0, h5z0, h5c1, h5f1, h5z1, h5c2, h5f2, h5z2, h5c3, h5f3, h5z3]; omega)), by (first | omega | (simp [go_sem, h5c0, h5f0, h5z0, h5c1, h5f1, h5z1, h5c2, h5f2, h5z2, h5c3, h5f3, h5z3]; done) | (simp [go_sem, h5c0, h5f0, h5z0, h5c1, h5f1, h5z1, h5c2, h5f2, h5z2, h5c3, h5f3, h5z3]; omega)), by (first | omega | (simp [go_sem, h5c0, h5f0, h5z0, h5c1, h5f1, h5z1, h5c2, h5f2, h5z2, h5c3, h5f3, h5z3]; done) | (simp [go_sem, h5c0, h5f0, h5z0, h5c1, h5f1, h5z1, h5c2, h5f2, h5z2, h5c3, h5f3, h5z3]; omega)), by (first | omega | (simp [go_sem, h5c0, h5f0, h5z0, h5c1, h5f1, h5z1, h5c2, h5f2, h5z2, h5c3, h5f3, h5z3]; done) | (simp [go_sem, h5c0, h5f0, h5z0, h5c1, h5f1, h5z1, h5c2, h5f2, h5z2, h5c3, h5f3, h5z3]; omega)), by (repeat' (first | (with_reducible exact Below.refl _ _) | (with_reducible assumption) | (with_reducible refine below_alloc ?_ _) | (with_reducible refine Below.drew ?_) | (with_reducible refine Below.setCell ?_ ?_ _) | (with_reducible refine below_after ?_ (by assumption)) | go_size))⟩ ?_
    rintro S ⟨hSc0, hSc1, hSc2, hSc3, hSf0, hSf1, hSf2, hSf3, hSz0, hSz1, hSz2, hSz3, hSb⟩
    go_wp2_with fail
    ((with_reducible refine (awake54 _ (HT.out.later (by (repeat' (first | (with_reducible exact Below.refl _ _) | (with_reducible assumption) | (with_reducible refine below_alloc ?_ _) | (with_reducible refine Below.drew ?_) | (with_reducible refine Below.setCell ?_ ?_ _) | (with_reducible refine below_after ?_ (by assumption)) | go_size))))).mono ?_); rintro e w6 ⟨rfl, hb6⟩)
    have hk6 : Kp S.heap.size [] S w6 := (by (repeat (first | (with_reducible assumption) | (with_reducible exact Kp.refl (Nat.le_refl _)) | (with_reducible refine Kp.drew ?_) | (with_reducible refine Kp.alloc ?_ _) | ((with_reducible refine Kp.put ?_ ?_ _); focus (first | (left; go_size; done) | (right; simp; done))) | ((with_reducible apply Kp.later); (with_reducible assumption)))))
    have h6c0 := fun o => (hk6.cell _ o hSz0 (by simp)).trans (hSc0 o)
    have h6f0 := fun o => (hk6.froz _ o hSz0).trans (hSf0 o)
    have h6z0 := Nat.lt_of_lt_of_le hSz0 hk6.size
    have h6c1 := fun o => (hk6.cell _ o hSz1 (by simp)).trans (hSc1 o)
    have h6f1 := fun o => (hk6.froz _ o hSz1).trans (hSf1 o)
    have h6z1 := Nat.lt_of_lt_of_le hSz1 hk6.size
    have h6c2 := fun o => (hk6.cell _ o hSz2 (by simp)).trans (hSc2 o)
    have h6f2 := fun o => (hk6.froz _ o hSz2).trans (hSf2 o)
    have h6z2 := Nat.lt_of_lt_of_le hSz2 hk6.size
    have h6c3 := fun o => (hk6.cell _ o hSz3 (by simp)).trans (hSc3 o)
    have h6f3 := fun o => (hk6.froz _ o hSz3).trans (hSf3 o)
    have h6z3 := Nat.lt_of_lt_of_le hSz3 hk6.size
    go_wp2
    go_returns
    exact ⟨rfl, by (repeat' (first | (with_reducible exact Below.refl _ _) | (with_reducible assumption) | (with_reducible refine below_alloc ?_ _) | (with_reducible refine Below.drew ?_) | (with_reducible refine Below.setCell ?_ ?_ _) | (with_reducible refine below_after ?_ (by assumption)) | go_size))⟩
  · have HL := Lib.hid (show ∀ W : World, Frm W ax az ah A C X Z H → Calls Tryd.prog 9 #[.agg #[.slice ax X.length cx, .slice az Z.length cz, .slice ah H.length ch]] W fun e w' => e = .returned (.bool false) ∧ Below W.heap.size W w' from by rw [← hl]; exact fun W h => light_any ax az ah cx cz ch A C X Z H hx W h)
    clear hT hf hl hx
    go_enter Tryd.func4, Tryd.ntmps4
    go_wp2_with fail
    ((with_reducible refine (HL.out _ (HF.out.later (by (repeat' (first | (with_reducible exact Below.refl _ _) | (with_reducible assumption) | (with_reducible refine below_alloc ?_ _) | (with_reducible refine Below.drew ?_) | (with_reducible refine Below.setCell ?_ ?_ _) | (with_reducible refine below_after ?_ (by assumption)) | go_size))))).mono ?_); rintro e w1 ⟨rfl, hb1⟩)
    obtain ⟨hc1, hf1⟩ := bcell hb1
    have hz1_w_0 : w.heap.size < w1.heap.size := by have h := hb1.size; (try simp at h); omega
    go_wp2_with fail
    ((with_reducible refine (awake54 _ (HT.out.later (by (repeat' (first | (with_reducible exact Below.refl _ _) | (with_reducible assumption) | (with_reducible refine below_alloc ?_ _) | (with_reducible refine Below.drew ?_) | (with_reducible refine Below.setCell ?_ ?_ _) | (with_reducible refine below_after ?_ (by assumption)) | go_size))))).mono ?_); rintro e w2 ⟨rfl, hb2⟩)
    obtain ⟨hc2, hf2⟩ := bcell hb2
    have hz2_w_0 : w.heap.size < w2.heap.size := by have h := hb2.size; (try simp at h); omega
    go_wp2
    go_returns
    exact ⟨rfl, by (repeat' (first | (with_reducible exact Below.refl _ _) | (with_reducible assumption) | (with_reducible refine below_alloc ?_ _) | (with_reducible refine Below.drew ?_) | (with_reducible refine Below.setCell ?_ ?_ _) | (with_reducible refine below_after ?_ (by assumption)) | go_size))⟩
end Go.Proofs.YtfmmnnodihpgmaaDoor
