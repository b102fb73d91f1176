/-
  HullClosed: the walk of the law: for any form it returns true.
-/
import Derived.Test.YtfmmnnodihpgmaaDoorHAwD
import Derived.Test.YtfmmnnodihpgmaaDoorHRefB
import Derived.Test.YtfmmnnodihpgmaaDoorPackB
namespace Go.Proofs.YtfmmnnodihpgmaaDoor
set_option linter.all false
open Go Go.RowKit Wd
set_option maxRecDepth 100000
set_option maxHeartbeats 4000000 in
theorem closed_law (ax az ah : Option Addr) (cx cz ch : Nat) (A : Nat → Option Addr) (C : Nat → Nat) (X Z : List Int) (H : List (List Int)) (hx : X.length ≤ 9223372036854775807) (_hz : Z.length ≤ 9223372036854775807) (w : World) (hf : Frm w ax az ah A C X Z H) (hT : Tab64 w) :
    Calls Tryd.prog 8 #[.agg #[.slice ax X.length cx, .slice az Z.length cz, .slice ah H.length ch]] w fun e w' => e = .returned (.bool true) ∧ Below w.heap.size w w' := by
  have HT := Lib.hid hT
  have HF := Lib.hid hf
  rcases (by cases lightB X Z H <;> simp : lightB X Z H = true ∨ lightB X Z H = false) with hl | hl
  · have HL := Lib.hid (show ∀ W : World, Frm W ax az ah A C X Z H → Calls Tryd.prog 9 #[.agg #[.slice ax X.length cx, .slice az Z.length cz, .slice ah H.length ch]] W fun e w' => e = .returned (.bool true) ∧ Below W.heap.size W w' from by rw [← hl]; exact fun W h => light_any ax az ah cx cz ch A C X Z H hx W h)
    by_cases hs : chk X Z H = 0
    · have HP := Lib.hid (show ∀ W : World, Frm W ax az ah A C X Z H → Calls Tryd.prog 11 #[.agg #[.slice ax X.length cx, .slice az Z.length cz, .slice ah H.length ch]] W fun e w' => e = .returned (.int .i64 0) ∧ Below W.heap.size W w' from by rw [← hs]; exact fun W h => check_any ax az ah cx cz ch A C X Z H W h)
      have MA := Lib.hid (fun W hF => Mesh_ok ax az ah cx cz ch A C X Z H hs W hF)
      have HS := Lib.hid hs
      clear hT hf hl hx hs
      go_enter Tryd.func8, Tryd.ntmps8
      go_wp2_with fail
      ((with_reducible refine (HL.out _ (HF.out.later (by (repeat' (first | (with_reducible exact Below.refl _ _) | (with_reducible assumption) | (with_reducible refine below_alloc ?_ _) | (with_reducible refine Below.drew ?_) | (with_reducible refine Below.setCell ?_ ?_ _) | (with_reducible refine below_after ?_ (by assumption)) | go_size))))).mono ?_); rintro e w1 ⟨rfl, hb1⟩)
      obtain ⟨hc1, hf1⟩ := bcell hb1
      have hz1_w_0 : w.heap.size < w1.heap.size := by have h := hb1.size; (try simp at h); omega
      go_wp2_with fail
      ((with_reducible refine (HP.out _ (HF.out.later (by (repeat' (first | (with_reducible exact Below.refl _ _) | (with_reducible assumption) | (with_reducible refine below_alloc ?_ _) | (with_reducible refine Below.drew ?_) | (with_reducible refine Below.setCell ?_ ?_ _) | (with_reducible refine below_after ?_ (by assumption)) | go_size))))).mono ?_); rintro e w2 ⟨rfl, hb2⟩)
      obtain ⟨hc2, hf2⟩ := bcell hb2
      have hz2_w_0 : w.heap.size < w2.heap.size := by have h := hb2.size; (try simp at h); omega
      go_upto_region 3 with (fail)
      refine wp_world (fun x => (∀ o, x.cell? ⟨w.heap.size, o, none⟩ = (#[.slice ax X.length cx, .slice az Z.length cz, .slice ah H.length ch] : Array Value)[o]?) ∧ (∀ o, x.frozen? ⟨w.heap.size, o, none⟩ = false) ∧ w.heap.size < x.heap.size ∧ Below w.heap.size w x) ⟨fun o => by simp [go_sem, hc1, hf1, hz1_w_0, hc2, hf2, hz2_w_0], fun o => by simp [go_sem, hc1, hf1, hz1_w_0, hc2, hf2, hz2_w_0], by (first | omega | (simp [go_sem, hc1, hf1, hz1_w_0, hc2, hf2, hz2_w_0]; done) | (simp [go_sem, hc1, hf1, hz1_w_0, hc2, hf2, hz2_w_0]; omega)), by (repeat' (first | (with_reducible exact Below.refl _ _) | (with_reducible assumption) | (with_reducible refine below_alloc ?_ _) | (with_reducible refine Below.drew ?_) | (with_reducible refine Below.setCell ?_ ?_ _) | (with_reducible refine below_after ?_ (by assumption)) | go_size))⟩ ?_
      rintro G ⟨hGc0, hGf0, hGz0, hGb⟩
      clear hb1 hc1 hf1 hb2 hc2 hf2
      go_wp2_with fail
      ((with_reducible refine (MA.out _ (HF.out.later (by (repeat' (first | (with_reducible exact Below.refl _ _) | (with_reducible assumption) | (with_reducible refine below_alloc ?_ _) | (with_reducible refine Below.drew ?_) | (with_reducible refine Below.setCell ?_ ?_ _) | (with_reducible refine below_after ?_ (by assumption)) | go_size))))).mono ?_); rintro e w3 ⟨pv, fv, np, nf, rfl, hb3, op, of⟩)
      obtain ⟨g, c, k, d, P, F, rfl, rfl, l1, l2, r1, r2, S⟩ := mesh_surf HS.out op of
      have hb03 := below_after hGb hb3
      have T3 := Lib.hid (HT.out.later hb03)
      obtain ⟨a0, e0⟩ : ∃ a : Int, a = 0 := ⟨_, rfl⟩
      have mid := S.mid
      rw [← e0] at mid
      have MO := Lib.hid (show ∀ W, Below w3.heap.size w3 W → Calls Tryd.prog 25 #[.agg #[.slice (some ⟨g, 0, none⟩) np c, .slice (some ⟨k, 0, none⟩) nf d]] W fun e w' => e = .returned (.tuple #[.agg #[.bool (zs (ps (detF P F) (sumF P F 0) nf)), .int .u64 (wd (Int.natAbs (ps (detF P F) (sumF P F 0) nf)) 0), .int .u64 (wd (Int.natAbs (ps (detF P F) (sumF P F 0) nf)) 1), .int .u64 (wd (Int.natAbs (ps (detF P F) (sumF P F 0) nf)) 2), .int .u64 (wd (Int.natAbs (ps (detF P F) (sumF P F 0) nf)) 3), .bool (zs (a0)), .int .u64 (wd (Int.natAbs (a0)) 0), .int .u64 (wd (Int.natAbs (a0)) 1), .int .u64 (wd (Int.natAbs (a0)) 2), .int .u64 (wd (Int.natAbs (a0)) 3), .bool (zs (ps (detF P F) (sumF P F 2) nf)), .int .u64 (wd (Int.natAbs (ps (detF P F) (sumF P F 2) nf)) 0), .int .u64 (wd (Int.natAbs (ps (detF P F) (sumF P F 2) nf)) 1), .int .u64 (wd (Int.natAbs (ps (detF P F) (sumF P F 2) nf)) 2), .int .u64 (wd (Int.natAbs (ps (detF P F) (sumF P F 2) nf)) 3)], .int .i64 0]) ∧ Below W.heap.size W w' from by
        rw [← mid]
        exact fun W hb => mom_in g k np nf c d P F S.inn S.hp S.hf S.abs S.shut S.vol W (fun q hq => (hb.cell (p := ⟨g, q, none⟩) l1).trans (r1 q hq)) (keep_lt hb l1) (fun q hq => (hb.cell (p := ⟨k, q, none⟩) l2).trans (r2 q hq)) (keep_lt hb l2))
      have MC := Lib.hid (show ∀ V, Below w3.heap.size w3 V → ∀ x, Kp V.heap.size [] V x → Calls Tryd.prog 26 #[.agg #[.slice (some ⟨g, 0, none⟩) np c, .slice (some ⟨k, 0, none⟩) nf d]] x fun e w' => e = .returned (.int .i64 0) ∧ Below x.heap.size x w' from
        fun V hb x q => mcheck_in g k np nf c d P F S.inn S.hp S.hf S.abs S.shut S.vol x (fun s hs => (q.cell g s (keep_lt hb l1) (by simp)).trans ((hb.cell (p := ⟨g, s, none⟩) l1).trans (r1 s hs))) (Nat.lt_of_lt_of_le (keep_lt hb l1) q.size) (fun s hs => (q.cell k s (keep_lt hb l2) (by simp)).trans ((hb.cell (p := ⟨k, s, none⟩) l2).trans (r2 s hs))) (Nat.lt_of_lt_of_le (keep_lt hb l2) q.size))
      have OF := Lib.hid (show ∀ x, Calls Tryd.prog 24 #[.int .i64 0] x fun e w' => e = .returned (.agg #[.bool (zs (a0)), .int .u64 (wd (Int.natAbs (a0)) 0), .int .u64 (wd (Int.natAbs (a0)) 1), .int .u64 (wd (Int.natAbs (a0)) 2), .int .u64 (wd (Int.natAbs (a0)) 3)]) ∧ Below x.heap.size x w' from by rw [e0]; exact fun x => of_any 0 (by omega) (by omega) x)
      have EQ := fun x => eq_wide (zs a0) (zs a0) a0.natAbs a0.natAbs (by rw [e0]; decide) (by rw [e0]; decide) x
      have eb : (zs a0 == zs a0 && eqN a0.natAbs a0.natAbs) = true := by unfold eqN; simp
      simp only [eb] at EQ
      clear mid e0 op of r1 r2 l1 l2 HS S eb
      generalize ps (detF P F) (sumF P F 0) nf = t0 at *
      generalize ps (detF P F) (sumF P F 2) nf = t2 at *
      go_upto_region 4 with (fail)
      refine wp_world (fun x => (∀ o, x.cell? ⟨w3.heap.size, o, none⟩ = (#[.slice (some ⟨g, 0, none⟩) np c, .slice (some ⟨k, 0, none⟩) nf d] : Array Value)[o]?) ∧ (∀ o, x.frozen? ⟨w3.heap.size, o, none⟩ = false) ∧ w3.heap.size < x.heap.size ∧ Below w3.heap.size w3 x) ⟨fun o => by simp [go_sem], fun o => by simp [go_sem], by (first | omega | (simp [go_sem]; done) | (simp [go_sem]; omega)), by (repeat' (first | (with_reducible exact Below.refl _ _) | (with_reducible assumption) | (with_reducible refine below_alloc ?_ _) | (with_reducible refine Below.drew ?_) | (with_reducible refine Below.setCell ?_ ?_ _) | (with_reducible refine below_after ?_ (by assumption)) | go_size))⟩ ?_
      rintro E ⟨hEc0, hEf0, hEz0, hEb⟩
      go_wp2_with fail
      ((with_reducible refine (MO.out _ (by (repeat' (first | (with_reducible exact Below.refl _ _) | (with_reducible assumption) | (with_reducible refine below_alloc ?_ _) | (with_reducible refine Below.drew ?_) | (with_reducible refine Below.setCell ?_ ?_ _) | (with_reducible refine below_after ?_ (by assumption)) | go_size)))).mono ?_); rintro e w4 ⟨rfl, hb4⟩)
      have hk4 : Kp E.heap.size [] E w4 := (by (repeat (first | (with_reducible assumption) | (with_reducible exact Kp.refl (Nat.le_refl _)) | (with_reducible refine Kp.drew ?_) | (with_reducible refine Kp.alloc ?_ _) | ((with_reducible refine Kp.put ?_ ?_ _); focus (first | (left; go_size; done) | (right; simp; done))) | ((with_reducible apply Kp.later); (with_reducible assumption)))))
      have h4c0 := fun o => (hk4.cell _ o hEz0 (by simp)).trans (hEc0 o)
      have h4f0 := fun o => (hk4.froz _ o hEz0).trans (hEf0 o)
      have h4z0 := Nat.lt_of_lt_of_le hEz0 hk4.size
      go_upto_region 5 with (fail)
      clear hGc0 hGf0 hGz0
      refine wp_world (fun x => (∀ o, x.cell? ⟨w3.heap.size, o, none⟩ = (#[.slice (some ⟨g, 0, none⟩) np c, .slice (some ⟨k, 0, none⟩) nf d] : Array Value)[o]?) ∧ (∀ o, x.cell? ⟨w4.heap.size, o, none⟩ = (#[.bool (zs (t0)), .int .u64 (wd (Int.natAbs (t0)) 0), .int .u64 (wd (Int.natAbs (t0)) 1), .int .u64 (wd (Int.natAbs (t0)) 2), .int .u64 (wd (Int.natAbs (t0)) 3), .bool (zs (a0)), .int .u64 (wd (Int.natAbs (a0)) 0), .int .u64 (wd (Int.natAbs (a0)) 1), .int .u64 (wd (Int.natAbs (a0)) 2), .int .u64 (wd (Int.natAbs (a0)) 3), .bool (zs (t2)), .int .u64 (wd (Int.natAbs (t2)) 0), .int .u64 (wd (Int.natAbs (t2)) 1), .int .u64 (wd (Int.natAbs (t2)) 2), .int .u64 (wd (Int.natAbs (t2)) 3)] : Array Value)[o]?) ∧ w3.heap.size < x.heap.size ∧ w4.heap.size < x.heap.size ∧ Below w3.heap.size w3 x) ⟨fun o => by first | (simp [go_sem, h4c0, h4z0]; done) | (rcases o with _ | _ | _ | _ | _ | o <;> simp [go_sem, h4c0, h4z0]), fun o => by first | (simp [go_sem, h4c0, h4z0]; done) | (rcases o with _ | _ | _ | _ | _ | o <;> simp [go_sem, h4c0, h4z0]), by (first | omega | (simp [go_sem, h4c0, h4z0]; done) | (simp [go_sem, h4c0, h4z0]; omega)), by (first | omega | (simp [go_sem, h4c0, h4z0]; done) | (simp [go_sem, h4c0, h4z0]; omega)), by (repeat' (first | (with_reducible exact Below.refl _ _) | (with_reducible assumption) | (with_reducible refine below_alloc ?_ _) | (with_reducible refine Below.drew ?_) | (with_reducible refine Below.setCell ?_ ?_ _) | (with_reducible refine below_after ?_ (by assumption)) | go_size))⟩ ?_
      rintro V ⟨hVc0, hVc1, hVz0, hVz1, hVb⟩
      have hVK := Lib.hid (show ∀ x : World, Kp V.heap.size [] V x → ((∀ o, x.cell? ⟨w3.heap.size, o, none⟩ = (#[.slice (some ⟨g, 0, none⟩) np c, .slice (some ⟨k, 0, none⟩) nf d] : Array Value)[o]?) ∧ (∀ o, x.cell? ⟨w4.heap.size, o, none⟩ = (#[.bool (zs (t0)), .int .u64 (wd (Int.natAbs (t0)) 0), .int .u64 (wd (Int.natAbs (t0)) 1), .int .u64 (wd (Int.natAbs (t0)) 2), .int .u64 (wd (Int.natAbs (t0)) 3), .bool (zs (a0)), .int .u64 (wd (Int.natAbs (a0)) 0), .int .u64 (wd (Int.natAbs (a0)) 1), .int .u64 (wd (Int.natAbs (a0)) 2), .int .u64 (wd (Int.natAbs (a0)) 3), .bool (zs (t2)), .int .u64 (wd (Int.natAbs (t2)) 0), .int .u64 (wd (Int.natAbs (t2)) 1), .int .u64 (wd (Int.natAbs (t2)) 2), .int .u64 (wd (Int.natAbs (t2)) 3)] : Array Value)[o]?) ∧ w3.heap.size < x.heap.size ∧ w4.heap.size < x.heap.size ∧ V.heap.size ≤ x.heap.size) from fun x k => ⟨fun o => (k.cell _ o hVz0 (by first | (simp; done) | (simp; omega))).trans (hVc0 o), fun o => (k.cell _ o hVz1 (by first | (simp; done) | (simp; omega))).trans (hVc1 o), Nat.lt_of_lt_of_le hVz0 k.size, Nat.lt_of_lt_of_le hVz1 k.size, k.size⟩)
      go_region_held3 (fun x => (∀ o, x.cell? ⟨w3.heap.size, o, none⟩ = (#[.slice (some ⟨g, 0, none⟩) np c, .slice (some ⟨k, 0, none⟩) nf d] : Array Value)[o]?) ∧ (∀ o, x.cell? ⟨w4.heap.size, o, none⟩ = (#[.bool (zs (t0)), .int .u64 (wd (Int.natAbs (t0)) 0), .int .u64 (wd (Int.natAbs (t0)) 1), .int .u64 (wd (Int.natAbs (t0)) 2), .int .u64 (wd (Int.natAbs (t0)) 3), .bool (zs (a0)), .int .u64 (wd (Int.natAbs (a0)) 0), .int .u64 (wd (Int.natAbs (a0)) 1), .int .u64 (wd (Int.natAbs (a0)) 2), .int .u64 (wd (Int.natAbs (a0)) 3), .bool (zs (t2)), .int .u64 (wd (Int.natAbs (t2)) 0), .int .u64 (wd (Int.natAbs (t2)) 1), .int .u64 (wd (Int.natAbs (t2)) 2), .int .u64 (wd (Int.natAbs (t2)) 3)] : Array Value)[o]?) ∧ w3.heap.size < x.heap.size ∧ w4.heap.size < x.heap.size ∧ V.heap.size ≤ x.heap.size) ((refine hVK.out _ ?_; (repeat (first | (with_reducible assumption) | (with_reducible exact Kp.refl (Nat.le_refl _)) | (with_reducible refine Kp.drew ?_) | (with_reducible refine Kp.alloc ?_ _) | ((with_reducible refine Kp.put ?_ ?_ _); focus (first | (left; go_size; done) | (right; simp; done))) | ((with_reducible apply Kp.later); (with_reducible assumption)))))) ((first | (go_at_call 24; (with_reducible refine (OF.out _).mono ?_); rintro e V_1 ⟨rfl, hbV_1⟩; have hkV_1 : Kp V.heap.size [] V V_1 := (by (repeat (first | (with_reducible assumption) | (with_reducible exact Kp.refl (Nat.le_refl _)) | (with_reducible refine Kp.drew ?_) | (with_reducible refine Kp.alloc ?_ _) | ((with_reducible refine Kp.put ?_ ?_ _); focus (first | (left; go_size; done) | (right; simp; done))) | ((with_reducible apply Kp.later); (with_reducible assumption)))))) | (go_at_call 26; (with_reducible refine (MC.out V hVb _ (by (repeat (first | (with_reducible assumption) | (with_reducible exact Kp.refl (Nat.le_refl _)) | (with_reducible refine Kp.drew ?_) | (with_reducible refine Kp.alloc ?_ _) | ((with_reducible refine Kp.put ?_ ?_ _); focus (first | (left; go_size; done) | (right; simp; done))) | ((with_reducible apply Kp.later); (with_reducible assumption)))))).mono ?_); rintro e V_2 ⟨rfl, hbV_2⟩; have hkV_2 : Kp V.heap.size [] V V_2 := (by (repeat (first | (with_reducible assumption) | (with_reducible exact Kp.refl (Nat.le_refl _)) | (with_reducible refine Kp.drew ?_) | (with_reducible refine Kp.alloc ?_ _) | ((with_reducible refine Kp.put ?_ ?_ _); focus (first | (left; go_size; done) | (right; simp; done))) | ((with_reducible apply Kp.later); (with_reducible assumption)))))) | (go_at_call 10; (with_reducible refine (awake54 _ ((T3.out.later hVb).kp (by (repeat (first | (with_reducible assumption) | (with_reducible exact Kp.refl (Nat.le_refl _)) | (with_reducible refine Kp.drew ?_) | (with_reducible refine Kp.alloc ?_ _) | ((with_reducible refine Kp.put ?_ ?_ _); focus (first | (left; go_size; done) | (right; simp; done))) | ((with_reducible apply Kp.later); (with_reducible assumption))))))).mono ?_); rintro e V_3 ⟨rfl, hbV_3⟩; have hkV_3 : Kp V.heap.size [] V V_3 := (by (repeat (first | (with_reducible assumption) | (with_reducible exact Kp.refl (Nat.le_refl _)) | (with_reducible refine Kp.drew ?_) | (with_reducible refine Kp.alloc ?_ _) | ((with_reducible refine Kp.put ?_ ?_ _); focus (first | (left; go_size; done) | (right; simp; done))) | ((with_reducible apply Kp.later); (with_reducible assumption))))))))
      all_goals go_wp2
      all_goals have hbV := below_after hb03 hVb
      all_goals go_returns
      all_goals exact ⟨rfl, by (repeat' (first | (with_reducible exact Below.refl _ _) | (with_reducible assumption) | (with_reducible refine below_alloc ?_ _) | (with_reducible refine Below.drew ?_) | (with_reducible refine Below.setCell ?_ ?_ _) | (with_reducible refine below_after ?_ (by assumption)) | go_size))⟩
    · have HP := Lib.hid (show ∀ W : World, Frm W ax az ah A C X Z H → Calls Tryd.prog 11 #[.agg #[.slice ax X.length cx, .slice az Z.length cz, .slice ah H.length ch]] W fun e w' => e = .returned (.int .i64 (chk X Z H)) ∧ Below W.heap.size W w' from fun W h => check_any ax az ah cx cz ch A C X Z H W h)
      generalize chk X Z H = r at *
      clear hT hf hl hx
      go_enter Tryd.func8, Tryd.ntmps8
      go_wp2_with fail
      ((with_reducible refine (HL.out _ (HF.out.later (by (repeat' (first | (with_reducible exact Below.refl _ _) | (with_reducible assumption) | (with_reducible refine below_alloc ?_ _) | (with_reducible refine Below.drew ?_) | (with_reducible refine Below.setCell ?_ ?_ _) | (with_reducible refine below_after ?_ (by assumption)) | go_size))))).mono ?_); rintro e w1 ⟨rfl, hb1⟩)
      obtain ⟨hc1, hf1⟩ := bcell hb1
      have hz1_w_0 : w.heap.size < w1.heap.size := by have h := hb1.size; (try simp at h); omega
      go_wp2_with fail
      ((with_reducible refine (HP.out _ (HF.out.later (by (repeat' (first | (with_reducible exact Below.refl _ _) | (with_reducible assumption) | (with_reducible refine below_alloc ?_ _) | (with_reducible refine Below.drew ?_) | (with_reducible refine Below.setCell ?_ ?_ _) | (with_reducible refine below_after ?_ (by assumption)) | go_size))))).mono ?_); rintro e w2 ⟨rfl, hb2⟩)
      obtain ⟨hc2, hf2⟩ := bcell hb2
      have hz2_w_0 : w.heap.size < w2.heap.size := by have h := hb2.size; (try simp at h); omega
      go_wp2_with fail
      ((with_reducible refine (awake54 _ (HT.out.later (by (repeat' (first | (with_reducible exact Below.refl _ _) | (with_reducible assumption) | (with_reducible refine below_alloc ?_ _) | (with_reducible refine Below.drew ?_) | (with_reducible refine Below.setCell ?_ ?_ _) | (with_reducible refine below_after ?_ (by assumption)) | go_size))))).mono ?_); rintro e w3 ⟨rfl, hb3⟩)
      obtain ⟨hc3, hf3⟩ := bcell hb3
      have hz3_w_0 : w.heap.size < w3.heap.size := by have h := hb3.size; (try simp at h); omega
      go_wp2
      go_returns
      exact ⟨rfl, by (repeat' (first | (with_reducible exact Below.refl _ _) | (with_reducible assumption) | (with_reducible refine below_alloc ?_ _) | (with_reducible refine Below.drew ?_) | (with_reducible refine Below.setCell ?_ ?_ _) | (with_reducible refine below_after ?_ (by assumption)) | go_size))⟩
  · have HL := Lib.hid (show ∀ W : World, Frm W ax az ah A C X Z H → Calls Tryd.prog 9 #[.agg #[.slice ax X.length cx, .slice az Z.length cz, .slice ah H.length ch]] W fun e w' => e = .returned (.bool false) ∧ Below W.heap.size W w' from by rw [← hl]; exact fun W h => light_any ax az ah cx cz ch A C X Z H hx W h)
    clear hT hf hl hx
    go_enter Tryd.func8, Tryd.ntmps8
    go_wp2_with fail
    ((with_reducible refine (HL.out _ (HF.out.later (by (repeat' (first | (with_reducible exact Below.refl _ _) | (with_reducible assumption) | (with_reducible refine below_alloc ?_ _) | (with_reducible refine Below.drew ?_) | (with_reducible refine Below.setCell ?_ ?_ _) | (with_reducible refine below_after ?_ (by assumption)) | go_size))))).mono ?_); rintro e w1 ⟨rfl, hb1⟩)
    obtain ⟨hc1, hf1⟩ := bcell hb1
    have hz1_w_0 : w.heap.size < w1.heap.size := by have h := hb1.size; (try simp at h); omega
    go_wp2_with fail
    ((with_reducible refine (awake54 _ (HT.out.later (by (repeat' (first | (with_reducible exact Below.refl _ _) | (with_reducible assumption) | (with_reducible refine below_alloc ?_ _) | (with_reducible refine Below.drew ?_) | (with_reducible refine Below.setCell ?_ ?_ _) | (with_reducible refine below_after ?_ (by assumption)) | go_size))))).mono ?_); rintro e w2 ⟨rfl, hb2⟩)
    obtain ⟨hc2, hf2⟩ := bcell hb2
    have hz2_w_0 : w.heap.size < w2.heap.size := by have h := hb2.size; (try simp at h); omega
    go_wp2
    go_returns
    exact ⟨rfl, by (repeat' (first | (with_reducible exact Below.refl _ _) | (with_reducible assumption) | (with_reducible refine below_alloc ?_ _) | (with_reducible refine Below.drew ?_) | (with_reducible refine Below.setCell ?_ ?_ _) | (with_reducible refine below_after ?_ (by assumption)) | go_size))⟩
end Go.Proofs.YtfmmnnodihpgmaaDoor
