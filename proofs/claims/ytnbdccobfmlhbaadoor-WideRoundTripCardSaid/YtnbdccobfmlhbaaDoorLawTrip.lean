/-
  The walk of shipyardlaw02.WideRoundTrip: the text of a number is parsed as this number, and what is parsed has this text.
-/
import Derived.Test.YtnbdccobfmlhbaaDoorTripM
namespace Go.Proofs.YtnbdccobfmlhbaaDoor
set_option linter.all false
open Go Go.RowKit Wd
set_option maxRecDepth 100000
theorem trip_long (s : Bool) (a : Nat) (l : List UInt8) (hl : 300 < l.length) (w : World) (hT : Tabs w) :
    Calls Tryd.prog 7 #[(.agg #[.bool (s), .int .u64 (wd (a) 0), .int .u64 (wd (a) 1), .int .u64 (wd (a) 2), .int .u64 (wd (a) 3)]), .string ⟨l.toArray⟩] w fun e w' => e = .returned (.bool true) ∧ Below w.heap.size w w' := by
  have K := Lib.hid awake_any
  have HT := Lib.hid hT
  have hsz : ¬ (l.length : Int) ≤ 300 := by omega
  have hsy : (300 : Int) < (l.length : Int) := by omega
  clear hT hl
  go_enter Tryd.func7, Tryd.ntmps7
  go_wp2_with fail
  ((with_reducible refine (K.out _ (HT.out.later (by (repeat' (first | (with_reducible exact Below.refl _ _) | (with_reducible assumption) | (with_reducible refine below_alloc ?_ _) | (with_reducible refine Below.drew ?_) | (with_reducible refine Below.setCell ?_ ?_ _) | (with_reducible refine below_after ?_ (by assumption)) | go_size))))).mono ?_); rintro e w1 ⟨rfl, hb1⟩)
  obtain ⟨hc1, hf1⟩ := bcell hb1
  go_wp2
  go_ret
  exact ⟨rfl, by (repeat' (first | (with_reducible exact Below.refl _ _) | (with_reducible assumption) | (with_reducible refine below_alloc ?_ _) | (with_reducible refine Below.drew ?_) | (with_reducible refine Below.setCell ?_ ?_ _) | (with_reducible refine below_after ?_ (by assumption)) | go_size))⟩
set_option maxHeartbeats 1000000 in
theorem trip_core (s : Bool) (a : Nat) (ha : a < 2 ^ 256) (l : List UInt8) (hl : ¬ 300 < l.length) (x : Int) (ex : Int) (y : Int) (w : World) (hT : Tabs w)
    (hp : ∀ w, Calls Tryd.prog 20 #[.string ⟨l.toArray⟩] w fun e w' => e = .returned (.tuple #[(.agg #[.bool (zs (y)), .int .u64 (wd (Int.natAbs (y)) 0), .int .u64 (wd (Int.natAbs (y)) 1), .int .u64 (wd (Int.natAbs (y)) 2), .int .u64 (wd (Int.natAbs (y)) 3)]), .int .i64 ex]) ∧ Below w.heap.size w w')
    (he : ((ex = 3 ∨ ex = 5 ∨ ex = 21) ∧ y = 0) ∨ (ex = 0 ∧ textOf (zs y) y.natAbs = l ∧ y.natAbs < 2 ^ 256)) :
    Calls Tryd.prog 7 #[(.agg #[.bool (s), .int .u64 (wd (a) 0), .int .u64 (wd (a) 1), .int .u64 (wd (a) 2), .int .u64 (wd (a) 3)]), .string ⟨l.toArray⟩] w fun e w' => e = .returned (.bool true) ∧ Below w.heap.size w w' := by
  have K := Lib.hid awake_any
  have K1 := Lib.hid (fun w hT => text_any s a ha w hT)
  have K2 := Lib.hid (show ∀ w, Calls Tryd.prog 20 #[.string ⟨(textOf s a).toArray⟩] w fun e w' => e = .returned (.tuple #[(.agg #[.bool (zs (val s a)), .int .u64 (wd (Int.natAbs (val s a)) 0), .int .u64 (wd (Int.natAbs (val s a)) 1), .int .u64 (wd (Int.natAbs (val s a)) 2), .int .u64 (wd (Int.natAbs (val s a)) 3)]), .int .i64 0]) ∧ Below w.heap.size w w' from fun w => by
    have h := parse_any (textOf s a) (by have := text_length s a ha; omega) w
    rw [(parse_text s a ha).1, (parse_text s a ha).2] at h
    exact h)
  have K3 := Lib.hid hp
  have KPa := Lib.hid (plain_any s a ha)
  have qa := eq_zz (val s a) (by rw [abs_val]; exact ha)
  have HT := Lib.hid hT
  have HE := Lib.hid he
  have hsz : (l.length : Int) ≤ 300 := by omega
  clear hT hl hp he ha
  go_enter Tryd.func7, Tryd.ntmps7
  go_wp2_with fail
  ((with_reducible refine (K1.out _ (HT.out.later (by (repeat' (first | (with_reducible exact Below.refl _ _) | (with_reducible assumption) | (with_reducible refine below_alloc ?_ _) | (with_reducible refine Below.drew ?_) | (with_reducible refine Below.setCell ?_ ?_ _) | (with_reducible refine below_after ?_ (by assumption)) | go_size))))).mono ?_); rintro e w1 ⟨rfl, hb1⟩)
  obtain ⟨hc1, hf1⟩ := bcell hb1
  have hz1_w_0 : w.heap.size < w1.heap.size := by have h := hb1.size; (try simp at h); omega
  go_wp2_with fail
  ((with_reducible refine (K2.out _).mono ?_); rintro e w2 ⟨rfl, hb2⟩)
  obtain ⟨hc2, hf2⟩ := bcell hb2
  have hz2_w_0 : w.heap.size < w2.heap.size := by have h := hb2.size; (try simp at h); omega
  go_upto_region 4 with (fail)
  refine wp_world (fun x => (∀ o, x.cell? ⟨w.heap.size, o, none⟩ = (#[.bool (s), .int .u64 (wd (a) 0), .int .u64 (wd (a) 1), .int .u64 (wd (a) 2), .int .u64 (wd (a) 3)] : Array Value)[o]?) ∧ (∀ o, x.cell? ⟨w2.heap.size, o, none⟩ = (#[.bool (zs (val s a)), .int .u64 (wd (Int.natAbs (val s a)) 0), .int .u64 (wd (Int.natAbs (val s a)) 1), .int .u64 (wd (Int.natAbs (val s a)) 2), .int .u64 (wd (Int.natAbs (val s a)) 3)] : Array Value)[o]?) ∧ (∀ o, x.frozen? ⟨w.heap.size, o, none⟩ = false) ∧ (∀ o, x.frozen? ⟨w2.heap.size, o, none⟩ = false) ∧ w.heap.size < x.heap.size ∧ w2.heap.size < x.heap.size ∧ Below w.heap.size w x) ⟨fun o => by simp [go_sem, hc1, hf1, hz1_w_0, hc2, hf2, hz2_w_0], fun o => by simp [go_sem, hc1, hf1, hz1_w_0, hc2, hf2, hz2_w_0], fun o => by simp [go_sem, hc1, hf1, hz1_w_0, hc2, hf2, hz2_w_0], fun o => by simp [go_sem, hc1, hf1, hz1_w_0, hc2, hf2, hz2_w_0], by (first | omega | (simp [go_sem, hc1, hf1, hz1_w_0, hc2, hf2, hz2_w_0]; done) | (simp [go_sem, hc1, hf1, hz1_w_0, hc2, hf2, hz2_w_0]; omega)), by (first | omega | (simp [go_sem, hc1, hf1, hz1_w_0, hc2, hf2, hz2_w_0]; done) | (simp [go_sem, hc1, hf1, hz1_w_0, hc2, hf2, hz2_w_0]; omega)), by (repeat' (first | (with_reducible exact Below.refl _ _) | (with_reducible assumption) | (with_reducible refine below_alloc ?_ _) | (with_reducible refine Below.drew ?_) | (with_reducible refine Below.setCell ?_ ?_ _) | (with_reducible refine below_after ?_ (by assumption)) | go_size))⟩ ?_
  rintro A ⟨hAc0, hAc1, hAf0, hAf1, hAz0, hAz1, hAb⟩
  clear hc1 hf1 hc2 hf2
  refine wp_world (fun x => (∀ o, x.cell? ⟨w.heap.size, o, none⟩ = (#[.bool (s), .int .u64 (wd (a) 0), .int .u64 (wd (a) 1), .int .u64 (wd (a) 2), .int .u64 (wd (a) 3)] : Array Value)[o]?) ∧ (∀ o, x.cell? ⟨w2.heap.size, o, none⟩ = (#[.bool (zs (val s a)), .int .u64 (wd (Int.natAbs (val s a)) 0), .int .u64 (wd (Int.natAbs (val s a)) 1), .int .u64 (wd (Int.natAbs (val s a)) 2), .int .u64 (wd (Int.natAbs (val s a)) 3)] : Array Value)[o]?) ∧ w.heap.size < x.heap.size ∧ w2.heap.size < x.heap.size ∧ Below w.heap.size w x) ⟨fun o => by first | (simp [go_sem, hAc0, hAc1, hAz0, hAz1]; done) | (rcases o with _ | _ | _ | _ | _ | o <;> simp [go_sem, hAc0, hAc1, hAz0, hAz1]), fun o => by first | (simp [go_sem, hAc0, hAc1, hAz0, hAz1]; done) | (rcases o with _ | _ | _ | _ | _ | o <;> simp [go_sem, hAc0, hAc1, hAz0, hAz1]), by (first | omega | (simp [go_sem, hAc0, hAc1, hAz0, hAz1]; done) | (simp [go_sem, hAc0, hAc1, hAz0, hAz1]; omega)), by (first | omega | (simp [go_sem, hAc0, hAc1, hAz0, hAz1]; done) | (simp [go_sem, hAc0, hAc1, hAz0, hAz1]; omega)), by (repeat' (first | (with_reducible exact Below.refl _ _) | (with_reducible assumption) | (with_reducible refine below_alloc ?_ _) | (with_reducible refine Below.drew ?_) | (with_reducible refine Below.setCell ?_ ?_ _) | (with_reducible refine below_after ?_ (by assumption)) | go_size))⟩ ?_
  rintro B ⟨hBc0, hBc1, hBz0, hBz1, hBb⟩
  have hBK := Lib.hid (show ∀ x : World, Kp B.heap.size [] B x → ((∀ o, x.cell? ⟨w.heap.size, o, none⟩ = (#[.bool (s), .int .u64 (wd (a) 0), .int .u64 (wd (a) 1), .int .u64 (wd (a) 2), .int .u64 (wd (a) 3)] : Array Value)[o]?) ∧ (∀ o, x.cell? ⟨w2.heap.size, o, none⟩ = (#[.bool (zs (val s a)), .int .u64 (wd (Int.natAbs (val s a)) 0), .int .u64 (wd (Int.natAbs (val s a)) 1), .int .u64 (wd (Int.natAbs (val s a)) 2), .int .u64 (wd (Int.natAbs (val s a)) 3)] : Array Value)[o]?) ∧ w.heap.size < x.heap.size ∧ w2.heap.size < x.heap.size ∧ B.heap.size ≤ x.heap.size) from fun x k => ⟨fun o => (k.cell _ o hBz0 (by first | (simp; done) | (simp; omega))).trans (hBc0 o), fun o => (k.cell _ o hBz1 (by first | (simp; done) | (simp; omega))).trans (hBc1 o), Nat.lt_of_lt_of_le hBz0 k.size, Nat.lt_of_lt_of_le hBz1 k.size, k.size⟩)
  go_region_held3 (fun x => (∀ o, x.cell? ⟨w.heap.size, o, none⟩ = (#[.bool (s), .int .u64 (wd (a) 0), .int .u64 (wd (a) 1), .int .u64 (wd (a) 2), .int .u64 (wd (a) 3)] : Array Value)[o]?) ∧ (∀ o, x.cell? ⟨w2.heap.size, o, none⟩ = (#[.bool (zs (val s a)), .int .u64 (wd (Int.natAbs (val s a)) 0), .int .u64 (wd (Int.natAbs (val s a)) 1), .int .u64 (wd (Int.natAbs (val s a)) 2), .int .u64 (wd (Int.natAbs (val s a)) 3)] : Array Value)[o]?) ∧ w.heap.size < x.heap.size ∧ w2.heap.size < x.heap.size ∧ B.heap.size ≤ x.heap.size) ((refine hBK.out _ ?_; (repeat (first | (with_reducible assumption) | (with_reducible exact Kp.refl (Nat.le_refl _)) | (with_reducible refine Kp.drew ?_) | (with_reducible refine Kp.alloc ?_ _) | ((with_reducible refine Kp.put ?_ ?_ _); focus (first | (left; go_size; done) | (right; simp; done))) | ((with_reducible apply Kp.later); (with_reducible assumption)))))) ((first | (go_at_call 24; (with_reducible refine (KPa.out _).mono ?_); rintro e B_1 ⟨rfl, hbB_1⟩; have hkB_1 : Kp B.heap.size [] B B_1 := (by (repeat (first | (with_reducible assumption) | (with_reducible exact Kp.refl (Nat.le_refl _)) | (with_reducible refine Kp.drew ?_) | (with_reducible refine Kp.alloc ?_ _) | ((with_reducible refine Kp.put ?_ ?_ _); focus (first | (left; go_size; done) | (right; simp; done))) | ((with_reducible apply Kp.later); (with_reducible assumption))))))))
  go_upto_region 6 with (fail)
  refine wp_world (fun x => Below w.heap.size w x) (by (repeat' (first | (with_reducible exact Below.refl _ _) | (with_reducible assumption) | (with_reducible refine below_alloc ?_ _) | (with_reducible refine Below.drew ?_) | (with_reducible refine Below.setCell ?_ ?_ _) | (with_reducible refine below_after ?_ (by assumption)) | go_size))) ?_
  rintro C hCb
  rcases HE.out with ⟨he, rfl⟩ | ⟨rfl, he, hy⟩
  · have K3 := Lib.hid (show ∀ w, Calls Tryd.prog 20 #[.string ⟨l.toArray⟩] w fun e w' => e = .returned (.tuple #[.agg #[.bool false, .int .u64 0, .int .u64 0, .int .u64 0, .int .u64 0], .int .i64 ex]) ∧ Below w.heap.size w w' from fun w => by
      have h := K3.out w
      rw [z_zero] at h
      exact h)
    have q0 := eq_00
    go_wp2_with fail
    ((with_reducible refine (K3.out _).mono ?_); rintro e w3 ⟨rfl, hb3⟩)
    have hk3 : Kp C.heap.size [] C w3 := (by (repeat (first | (with_reducible assumption) | (with_reducible exact Kp.refl (Nat.le_refl _)) | (with_reducible refine Kp.drew ?_) | (with_reducible refine Kp.alloc ?_ _) | ((with_reducible refine Kp.put ?_ ?_ _); focus (first | (left; go_size; done) | (right; simp; done))) | ((with_reducible apply Kp.later); (with_reducible assumption)))))
    go_upto_region 7 with (fail)
    refine wp_world (fun x => (∀ o, x.cell? ⟨w3.heap.size, o, none⟩ = (#[.bool false, .int .u64 0, .int .u64 0, .int .u64 0, .int .u64 0] : Array Value)[o]?) ∧ (∀ o, x.frozen? ⟨w3.heap.size, o, none⟩ = false) ∧ w3.heap.size < x.heap.size ∧ Below w.heap.size w x) ⟨fun o => by simp [go_sem], fun o => by simp [go_sem], by (first | omega | (simp [go_sem]; done) | (simp [go_sem]; omega)), by (repeat' (first | (with_reducible exact Below.refl _ _) | (with_reducible assumption) | (with_reducible refine below_alloc ?_ _) | (with_reducible refine Below.drew ?_) | (with_reducible refine Below.setCell ?_ ?_ _) | (with_reducible refine below_after ?_ (by assumption)) | go_size))⟩ ?_
    rintro D ⟨hDc0, hDf0, hDz0, hDb⟩
    rcases he with rfl | rfl | rfl
    all_goals
      go_wp2_with fail
      ((with_reducible refine (K.out _ (HT.out.later (by (repeat' (first | (with_reducible exact Below.refl _ _) | (with_reducible assumption) | (with_reducible refine below_alloc ?_ _) | (with_reducible refine Below.drew ?_) | (with_reducible refine Below.setCell ?_ ?_ _) | (with_reducible refine below_after ?_ (by assumption)) | go_size))))).mono ?_); rintro e w4 ⟨rfl, hb4⟩)
      have hk4 : Kp D.heap.size [] D w4 := (by (repeat (first | (with_reducible assumption) | (with_reducible exact Kp.refl (Nat.le_refl _)) | (with_reducible refine Kp.drew ?_) | (with_reducible refine Kp.alloc ?_ _) | ((with_reducible refine Kp.put ?_ ?_ _); focus (first | (left; go_size; done) | (right; simp; done))) | ((with_reducible apply Kp.later); (with_reducible assumption)))))
      go_wp2
      go_ret
      exact ⟨rfl, by (repeat' (first | (with_reducible exact Below.refl _ _) | (with_reducible assumption) | (with_reducible refine below_alloc ?_ _) | (with_reducible refine Below.drew ?_) | (with_reducible refine Below.setCell ?_ ?_ _) | (with_reducible refine below_after ?_ (by assumption)) | go_size))⟩
  · have K4 := Lib.hid (show ∀ w, Tabs w → Calls Tryd.prog 22 #[(.agg #[.bool (zs (y)), .int .u64 (wd (Int.natAbs (y)) 0), .int .u64 (wd (Int.natAbs (y)) 1), .int .u64 (wd (Int.natAbs (y)) 2), .int .u64 (wd (Int.natAbs (y)) 3)])] w fun e w' => e = .returned (.string ⟨l.toArray⟩) ∧ Below w.heap.size w w' from fun w hT => by
      have h := text_any (zs y) y.natAbs hy w hT
      rw [he] at h
      exact h)
    have K5 := Lib.hid (show ∀ w, Calls Tryd.prog 25 #[(.agg #[.bool (zs (y)), .int .u64 (wd (Int.natAbs (y)) 0), .int .u64 (wd (Int.natAbs (y)) 1), .int .u64 (wd (Int.natAbs (y)) 2), .int .u64 (wd (Int.natAbs (y)) 3)])] w fun e w' => e = .returned (.bool true) ∧ Below w.heap.size w w' from fun w => by
      have h := valid_any (zs y) y.natAbs hy w
      rw [show (!(zs y && eqN y.natAbs 0)) = true by unfold zs eqN; by_cases h : y < 0 <;> simp [h]; omega] at h
      exact h)
    clear he hy
    go_wp2_with fail
    ((with_reducible refine (K3.out _).mono ?_); rintro e w3 ⟨rfl, hb3⟩)
    have hk3 : Kp C.heap.size [] C w3 := (by (repeat (first | (with_reducible assumption) | (with_reducible exact Kp.refl (Nat.le_refl _)) | (with_reducible refine Kp.drew ?_) | (with_reducible refine Kp.alloc ?_ _) | ((with_reducible refine Kp.put ?_ ?_ _); focus (first | (left; go_size; done) | (right; simp; done))) | ((with_reducible apply Kp.later); (with_reducible assumption)))))
    go_upto_region 9 with (fail)
    refine wp_world (fun x => (∀ o, x.cell? ⟨w3.heap.size, o, none⟩ = (#[.bool (zs (y)), .int .u64 (wd (Int.natAbs (y)) 0), .int .u64 (wd (Int.natAbs (y)) 1), .int .u64 (wd (Int.natAbs (y)) 2), .int .u64 (wd (Int.natAbs (y)) 3)] : Array Value)[o]?) ∧ (∀ o, x.frozen? ⟨w3.heap.size, o, none⟩ = false) ∧ w3.heap.size < x.heap.size ∧ Below w.heap.size w x) ⟨fun o => by simp [go_sem], fun o => by simp [go_sem], by (first | omega | (simp [go_sem]; done) | (simp [go_sem]; omega)), by (repeat' (first | (with_reducible exact Below.refl _ _) | (with_reducible assumption) | (with_reducible refine below_alloc ?_ _) | (with_reducible refine Below.drew ?_) | (with_reducible refine Below.setCell ?_ ?_ _) | (with_reducible refine below_after ?_ (by assumption)) | go_size))⟩ ?_
    rintro D ⟨hDc0, hDf0, hDz0, hDb⟩
    go_wp2_with fail
    ((with_reducible refine (K4.out _ (HT.out.later (by (repeat' (first | (with_reducible exact Below.refl _ _) | (with_reducible assumption) | (with_reducible refine below_alloc ?_ _) | (with_reducible refine Below.drew ?_) | (with_reducible refine Below.setCell ?_ ?_ _) | (with_reducible refine below_after ?_ (by assumption)) | go_size))))).mono ?_); rintro e w4 ⟨rfl, hb4⟩)
    have hk4 : Kp D.heap.size [] D w4 := (by (repeat (first | (with_reducible assumption) | (with_reducible exact Kp.refl (Nat.le_refl _)) | (with_reducible refine Kp.drew ?_) | (with_reducible refine Kp.alloc ?_ _) | ((with_reducible refine Kp.put ?_ ?_ _); focus (first | (left; go_size; done) | (right; simp; done))) | ((with_reducible apply Kp.later); (with_reducible assumption)))))
    have h4c0 := fun o => (hk4.cell _ o hDz0 (by simp)).trans (hDc0 o)
    have h4f0 := fun o => (hk4.froz _ o hDz0).trans (hDf0 o)
    have h4z0 := Nat.lt_of_lt_of_le hDz0 hk4.size
    go_wp2_with fail
    ((with_reducible refine (K5.out _).mono ?_); rintro e w5 ⟨rfl, hb5⟩)
    have hk5 : Kp D.heap.size [] D w5 := (by (repeat (first | (with_reducible assumption) | (with_reducible exact Kp.refl (Nat.le_refl _)) | (with_reducible refine Kp.drew ?_) | (with_reducible refine Kp.alloc ?_ _) | ((with_reducible refine Kp.put ?_ ?_ _); focus (first | (left; go_size; done) | (right; simp; done))) | ((with_reducible apply Kp.later); (with_reducible assumption)))))
    have h5c0 := fun o => (hk5.cell _ o hDz0 (by simp)).trans (hDc0 o)
    have h5f0 := fun o => (hk5.froz _ o hDz0).trans (hDf0 o)
    have h5z0 := Nat.lt_of_lt_of_le hDz0 hk5.size
    go_wp2_with fail
    ((with_reducible refine (K.out _ (HT.out.later (by (repeat' (first | (with_reducible exact Below.refl _ _) | (with_reducible assumption) | (with_reducible refine below_alloc ?_ _) | (with_reducible refine Below.drew ?_) | (with_reducible refine Below.setCell ?_ ?_ _) | (with_reducible refine below_after ?_ (by assumption)) | go_size))))).mono ?_); rintro e w6 ⟨rfl, hb6⟩)
    have hk6 : Kp D.heap.size [] D w6 := (by (repeat (first | (with_reducible assumption) | (with_reducible exact Kp.refl (Nat.le_refl _)) | (with_reducible refine Kp.drew ?_) | (with_reducible refine Kp.alloc ?_ _) | ((with_reducible refine Kp.put ?_ ?_ _); focus (first | (left; go_size; done) | (right; simp; done))) | ((with_reducible apply Kp.later); (with_reducible assumption)))))
    go_wp2
    go_ret
    exact ⟨rfl, by (repeat' (first | (with_reducible exact Below.refl _ _) | (with_reducible assumption) | (with_reducible refine below_alloc ?_ _) | (with_reducible refine Below.drew ?_) | (with_reducible refine Below.setCell ?_ ?_ _) | (with_reducible refine below_after ?_ (by assumption)) | go_size))⟩
theorem trip_walk (s : Bool) (a : Nat) (ha : a < 2 ^ 256) (l : List UInt8) (_hl : (l.length : Int) ≤ 9223372036854775807) (w : World) (hT : Tabs w) :
    Calls Tryd.prog 7 #[(.agg #[.bool (s), .int .u64 (wd (a) 0), .int .u64 (wd (a) 1), .int .u64 (wd (a) 2), .int .u64 (wd (a) 3)]), .string ⟨l.toArray⟩] w fun e w' => e = .returned (.bool true) ∧ Below w.heap.size w w' := by
  by_cases h : 300 < l.length
  · exact trip_long s a l h w hT
  · refine trip_core s a ha l h 0 (parseE l) (parseZ l) w hT (parse_any l (by omega)) ?_
    by_cases h0 : parseE l = 0
    · exact Or.inr ⟨h0, text_parse l h0⟩
    · refine Or.inl ⟨?_, parse_wrong l h0⟩
      unfold parseE at h0 ⊢
      split
      · simp
      · split
        · simp
        · split
          · simp_all
          · simp
end Go.Proofs.YtnbdccobfmlhbaaDoor
