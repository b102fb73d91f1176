/-
  The walk of shipyardlaw02.WideTexts: program and reference write and read numbers alike.
-/
import Derived.Test.YtnbdccobfmlhbaaDoorPlain
import Derived.Test.YtnbdccobfmlhbaaDoorRefT
import Derived.Test.YtnbdccobfmlhbaaDoorRefP
namespace Go.Proofs.YtnbdccobfmlhbaaDoor
set_option linter.all false
open Go Go.RowKit Wd
set_option maxRecDepth 100000
theorem texts_long (s : Bool) (a : Nat) (l : List UInt8) (hl : 300 < l.length) (w : World) (hT : Tabs w) :
    Calls Tryd.prog 5 #[(.agg #[.bool (s), .int .u64 (wd (a) 0), .int .u64 (wd (a) 1), .int .u64 (wd (a) 2), .int .u64 (wd (a) 3)]), .string ⟨l.toArray⟩] w fun e w' => e = .returned (.bool true) ∧ Below w.heap.size w w' := by
  have K := Lib.hid awake_any
  have HT := Lib.hid hT
  have hsz : ¬ (l.length : Int) ≤ 300 := by omega
  have hsy : (300 : Int) < (l.length : Int) := by omega
  clear hT hl
  go_enter Tryd.func5, Tryd.ntmps5
  go_wp2_with fail
  ((with_reducible refine (K.out _ (HT.out.later (by (repeat' (first | (with_reducible exact Below.refl _ _) | (with_reducible assumption) | (with_reducible refine below_alloc ?_ _) | (with_reducible refine Below.drew ?_) | (with_reducible refine Below.setCell ?_ ?_ _) | (with_reducible refine below_after ?_ (by assumption)) | go_size))))).mono ?_); rintro e w1 ⟨rfl, hb1⟩)
  obtain ⟨hc1, hf1⟩ := bcell hb1
  go_wp2
  go_ret
  exact ⟨rfl, by (repeat' (first | (with_reducible exact Below.refl _ _) | (with_reducible assumption) | (with_reducible refine below_alloc ?_ _) | (with_reducible refine Below.drew ?_) | (with_reducible refine Below.setCell ?_ ?_ _) | (with_reducible refine below_after ?_ (by assumption)) | go_size))⟩
theorem parse_bound (l : List UInt8) : (parseZ l).natAbs < 2 ^ 256 := by
  unfold parseZ
  split
  · exact Nat.pow_pos (by omega)
  · split
    · split <;> omega
    · exact Nat.pow_pos (by omega)
set_option maxHeartbeats 4000000 in
theorem texts_short (s : Bool) (a : Nat) (ha : a < 2 ^ 256) (l : List UInt8) (hl : ¬ 300 < l.length) (w : World) (hT : Tabs w) :
    Calls Tryd.prog 5 #[(.agg #[.bool (s), .int .u64 (wd (a) 0), .int .u64 (wd (a) 1), .int .u64 (wd (a) 2), .int .u64 (wd (a) 3)]), .string ⟨l.toArray⟩] w fun e w' => e = .returned (.bool true) ∧ Below w.heap.size w w' := by
  have k1 := parse_any l (by omega)
  have k2 := rparse_any l (by omega)
  have k3 := fun w hT => text_any s a ha w hT
  have k4 := rtext_any s a ha
  have q0 := eq_zz (parseZ l) (parse_bound l)
  generalize parseZ l = nz at k1 k2 q0
  generalize parseE l = ne at k1 k2
  generalize textOf s a = tx at k3 k4
  have K1 := Lib.hid k1
  have K2 := Lib.hid k2
  have K3 := Lib.hid k3
  have K4 := Lib.hid k4
  have K := Lib.hid awake_any
  have HT := Lib.hid hT
  have hsz : (l.length : Int) ≤ 300 := by omega
  clear hT ha hl k1 k2 k3 k4
  go_enter Tryd.func5, Tryd.ntmps5
  go_wp2_with fail
  ((with_reducible refine (K1.out _).mono ?_); rintro e w1 ⟨rfl, hb1⟩)
  obtain ⟨hc1, hf1⟩ := bcell hb1
  have hz1_w_0 : w.heap.size < w1.heap.size := by have h := hb1.size; (try simp at h); omega
  go_upto_region 4 with (fail)
  refine wp_world (fun x => (∀ o, x.cell? ⟨w.heap.size, o, none⟩ = (#[.bool (s), .int .u64 (wd (a) 0), .int .u64 (wd (a) 1), .int .u64 (wd (a) 2), .int .u64 (wd (a) 3)] : Array Value)[o]?) ∧ (∀ o, x.cell? ⟨w1.heap.size, o, none⟩ = (#[.bool (zs (nz)), .int .u64 (wd (Int.natAbs (nz)) 0), .int .u64 (wd (Int.natAbs (nz)) 1), .int .u64 (wd (Int.natAbs (nz)) 2), .int .u64 (wd (Int.natAbs (nz)) 3)] : Array Value)[o]?) ∧ (∀ o, x.frozen? ⟨w.heap.size, o, none⟩ = false) ∧ (∀ o, x.frozen? ⟨w1.heap.size, o, none⟩ = false) ∧ w.heap.size < x.heap.size ∧ w1.heap.size < x.heap.size ∧ Below w.heap.size w x) ⟨fun o => by simp [go_sem, hc1, hf1, hz1_w_0], fun o => by simp [go_sem, hc1, hf1, hz1_w_0], fun o => by simp [go_sem, hc1, hf1, hz1_w_0], fun o => by simp [go_sem, hc1, hf1, hz1_w_0], by (first | omega | (simp [go_sem, hc1, hf1, hz1_w_0]; done) | (simp [go_sem, hc1, hf1, hz1_w_0]; omega)), by (first | omega | (simp [go_sem, hc1, hf1, hz1_w_0]; done) | (simp [go_sem, hc1, hf1, hz1_w_0]; omega)), by (repeat' (first | (with_reducible exact Below.refl _ _) | (with_reducible assumption) | (with_reducible refine below_alloc ?_ _) | (with_reducible refine Below.drew ?_) | (with_reducible refine Below.setCell ?_ ?_ _) | (with_reducible refine below_after ?_ (by assumption)) | go_size))⟩ ?_
  rintro A ⟨hAc0, hAc1, hAf0, hAf1, hAz0, hAz1, hAb⟩
  clear hc1 hf1
  go_wp2_with fail
  ((with_reducible refine (K2.out _).mono ?_); rintro e w2 ⟨rfl, hb2⟩)
  have hk2 : Kp A.heap.size [] A w2 := (by (repeat (first | (with_reducible assumption) | (with_reducible exact Kp.refl (Nat.le_refl _)) | (with_reducible refine Kp.drew ?_) | (with_reducible refine Kp.alloc ?_ _) | ((with_reducible refine Kp.put ?_ ?_ _); focus (first | (left; go_size; done) | (right; simp; done))) | ((with_reducible apply Kp.later); (with_reducible assumption)))))
  have h2c0 := fun o => (hk2.cell _ o hAz0 (by simp)).trans (hAc0 o)
  have h2f0 := fun o => (hk2.froz _ o hAz0).trans (hAf0 o)
  have h2z0 := Nat.lt_of_lt_of_le hAz0 hk2.size
  have h2c1 := fun o => (hk2.cell _ o hAz1 (by simp)).trans (hAc1 o)
  have h2f1 := fun o => (hk2.froz _ o hAz1).trans (hAf1 o)
  have h2z1 := Nat.lt_of_lt_of_le hAz1 hk2.size
  go_upto_region 5 with (fail)
  refine wp_world (fun x => (∀ o, x.cell? ⟨w.heap.size, o, none⟩ = (#[.bool (s), .int .u64 (wd (a) 0), .int .u64 (wd (a) 1), .int .u64 (wd (a) 2), .int .u64 (wd (a) 3)] : Array Value)[o]?) ∧ (∀ o, x.cell? ⟨w1.heap.size, o, none⟩ = (#[.bool (zs (nz)), .int .u64 (wd (Int.natAbs (nz)) 0), .int .u64 (wd (Int.natAbs (nz)) 1), .int .u64 (wd (Int.natAbs (nz)) 2), .int .u64 (wd (Int.natAbs (nz)) 3)] : Array Value)[o]?) ∧ (∀ o, x.cell? ⟨w2.heap.size, o, none⟩ = (#[.bool (zs (nz)), .int .u64 (wd (Int.natAbs (nz)) 0), .int .u64 (wd (Int.natAbs (nz)) 1), .int .u64 (wd (Int.natAbs (nz)) 2), .int .u64 (wd (Int.natAbs (nz)) 3)] : Array Value)[o]?) ∧ (∀ o, x.frozen? ⟨w.heap.size, o, none⟩ = false) ∧ (∀ o, x.frozen? ⟨w1.heap.size, o, none⟩ = false) ∧ (∀ o, x.frozen? ⟨w2.heap.size, o, none⟩ = false) ∧ w.heap.size < x.heap.size ∧ w1.heap.size < x.heap.size ∧ w2.heap.size < x.heap.size ∧ Below w.heap.size w x) ⟨fun o => by simp [go_sem, h2c0, h2f0, h2z0, h2c1, h2f1, h2z1], fun o => by simp [go_sem, h2c0, h2f0, h2z0, h2c1, h2f1, h2z1], fun o => by simp [go_sem, h2c0, h2f0, h2z0, h2c1, h2f1, h2z1], fun o => by simp [go_sem, h2c0, h2f0, h2z0, h2c1, h2f1, h2z1], fun o => by simp [go_sem, h2c0, h2f0, h2z0, h2c1, h2f1, h2z1], fun o => by simp [go_sem, h2c0, h2f0, h2z0, h2c1, h2f1, h2z1], by (first | omega | (simp [go_sem, h2c0, h2f0, h2z0, h2c1, h2f1, h2z1]; done) | (simp [go_sem, h2c0, h2f0, h2z0, h2c1, h2f1, h2z1]; omega)), by (first | omega | (simp [go_sem, h2c0, h2f0, h2z0, h2c1, h2f1, h2z1]; done) | (simp [go_sem, h2c0, h2f0, h2z0, h2c1, h2f1, h2z1]; omega)), by (first | omega | (simp [go_sem, h2c0, h2f0, h2z0, h2c1, h2f1, h2z1]; done) | (simp [go_sem, h2c0, h2f0, h2z0, h2c1, h2f1, h2z1]; omega)), by (repeat' (first | (with_reducible exact Below.refl _ _) | (with_reducible assumption) | (with_reducible refine below_alloc ?_ _) | (with_reducible refine Below.drew ?_) | (with_reducible refine Below.setCell ?_ ?_ _) | (with_reducible refine below_after ?_ (by assumption)) | go_size))⟩ ?_
  rintro B ⟨hBc0, hBc1, hBc2, hBf0, hBf1, hBf2, hBz0, hBz1, hBz2, hBb⟩
  refine wp_world (fun x => (∀ o, x.cell? ⟨w.heap.size, o, none⟩ = (#[.bool (s), .int .u64 (wd (a) 0), .int .u64 (wd (a) 1), .int .u64 (wd (a) 2), .int .u64 (wd (a) 3)] : Array Value)[o]?) ∧ (∀ o, x.cell? ⟨w1.heap.size, o, none⟩ = (#[.bool (zs (nz)), .int .u64 (wd (Int.natAbs (nz)) 0), .int .u64 (wd (Int.natAbs (nz)) 1), .int .u64 (wd (Int.natAbs (nz)) 2), .int .u64 (wd (Int.natAbs (nz)) 3)] : Array Value)[o]?) ∧ (∀ o, x.cell? ⟨w2.heap.size, o, none⟩ = (#[.bool (zs (nz)), .int .u64 (wd (Int.natAbs (nz)) 0), .int .u64 (wd (Int.natAbs (nz)) 1), .int .u64 (wd (Int.natAbs (nz)) 2), .int .u64 (wd (Int.natAbs (nz)) 3)] : Array Value)[o]?) ∧ w.heap.size < x.heap.size ∧ w1.heap.size < x.heap.size ∧ w2.heap.size < x.heap.size ∧ Below w.heap.size w x) ⟨fun o => by first | (simp [go_sem, hBc0, hBf0, hBz0, hBc1, hBf1, hBz1, hBc2, hBf2, hBz2]; done) | (rcases o with _ | _ | _ | _ | _ | o <;> simp [go_sem, hBc0, hBf0, hBz0, hBc1, hBf1, hBz1, hBc2, hBf2, hBz2]), fun o => by first | (simp [go_sem, hBc0, hBf0, hBz0, hBc1, hBf1, hBz1, hBc2, hBf2, hBz2]; done) | (rcases o with _ | _ | _ | _ | _ | o <;> simp [go_sem, hBc0, hBf0, hBz0, hBc1, hBf1, hBz1, hBc2, hBf2, hBz2]), fun o => by first | (simp [go_sem, hBc0, hBf0, hBz0, hBc1, hBf1, hBz1, hBc2, hBf2, hBz2]; done) | (rcases o with _ | _ | _ | _ | _ | o <;> simp [go_sem, hBc0, hBf0, hBz0, hBc1, hBf1, hBz1, hBc2, hBf2, hBz2]), by (first | omega | (simp [go_sem, hBc0, hBf0, hBz0, hBc1, hBf1, hBz1, hBc2, hBf2, hBz2]; done) | (simp [go_sem, hBc0, hBf0, hBz0, hBc1, hBf1, hBz1, hBc2, hBf2, hBz2]; omega)), by (first | omega | (simp [go_sem, hBc0, hBf0, hBz0, hBc1, hBf1, hBz1, hBc2, hBf2, hBz2]; done) | (simp [go_sem, hBc0, hBf0, hBz0, hBc1, hBf1, hBz1, hBc2, hBf2, hBz2]; omega)), by (first | omega | (simp [go_sem, hBc0, hBf0, hBz0, hBc1, hBf1, hBz1, hBc2, hBf2, hBz2]; done) | (simp [go_sem, hBc0, hBf0, hBz0, hBc1, hBf1, hBz1, hBc2, hBf2, hBz2]; omega)), by (repeat' (first | (with_reducible exact Below.refl _ _) | (with_reducible assumption) | (with_reducible refine below_alloc ?_ _) | (with_reducible refine Below.drew ?_) | (with_reducible refine Below.setCell ?_ ?_ _) | (with_reducible refine below_after ?_ (by assumption)) | go_size))⟩ ?_
  rintro C ⟨hCc0, hCc1, hCc2, hCz0, hCz1, hCz2, hCb⟩
  have hCK := Lib.hid (show ∀ x : World, Kp C.heap.size [] C x → ((∀ o, x.cell? ⟨w.heap.size, o, none⟩ = (#[.bool (s), .int .u64 (wd (a) 0), .int .u64 (wd (a) 1), .int .u64 (wd (a) 2), .int .u64 (wd (a) 3)] : Array Value)[o]?) ∧ (∀ o, x.cell? ⟨w1.heap.size, o, none⟩ = (#[.bool (zs (nz)), .int .u64 (wd (Int.natAbs (nz)) 0), .int .u64 (wd (Int.natAbs (nz)) 1), .int .u64 (wd (Int.natAbs (nz)) 2), .int .u64 (wd (Int.natAbs (nz)) 3)] : Array Value)[o]?) ∧ (∀ o, x.cell? ⟨w2.heap.size, o, none⟩ = (#[.bool (zs (nz)), .int .u64 (wd (Int.natAbs (nz)) 0), .int .u64 (wd (Int.natAbs (nz)) 1), .int .u64 (wd (Int.natAbs (nz)) 2), .int .u64 (wd (Int.natAbs (nz)) 3)] : Array Value)[o]?) ∧ w.heap.size < x.heap.size ∧ w1.heap.size < x.heap.size ∧ w2.heap.size < x.heap.size ∧ C.heap.size ≤ x.heap.size) from fun x k => ⟨fun o => (k.cell _ o hCz0 (by first | (simp; done) | (simp; omega))).trans (hCc0 o), fun o => (k.cell _ o hCz1 (by first | (simp; done) | (simp; omega))).trans (hCc1 o), fun o => (k.cell _ o hCz2 (by first | (simp; done) | (simp; omega))).trans (hCc2 o), Nat.lt_of_lt_of_le hCz0 k.size, Nat.lt_of_lt_of_le hCz1 k.size, Nat.lt_of_lt_of_le hCz2 k.size, k.size⟩)
  go_region_held3 (fun x => (∀ o, x.cell? ⟨w.heap.size, o, none⟩ = (#[.bool (s), .int .u64 (wd (a) 0), .int .u64 (wd (a) 1), .int .u64 (wd (a) 2), .int .u64 (wd (a) 3)] : Array Value)[o]?) ∧ (∀ o, x.cell? ⟨w1.heap.size, o, none⟩ = (#[.bool (zs (nz)), .int .u64 (wd (Int.natAbs (nz)) 0), .int .u64 (wd (Int.natAbs (nz)) 1), .int .u64 (wd (Int.natAbs (nz)) 2), .int .u64 (wd (Int.natAbs (nz)) 3)] : Array Value)[o]?) ∧ (∀ o, x.cell? ⟨w2.heap.size, o, none⟩ = (#[.bool (zs (nz)), .int .u64 (wd (Int.natAbs (nz)) 0), .int .u64 (wd (Int.natAbs (nz)) 1), .int .u64 (wd (Int.natAbs (nz)) 2), .int .u64 (wd (Int.natAbs (nz)) 3)] : Array Value)[o]?) ∧ w.heap.size < x.heap.size ∧ w1.heap.size < x.heap.size ∧ w2.heap.size < x.heap.size ∧ C.heap.size ≤ x.heap.size) ((refine hCK.out _ ?_; (repeat (first | (with_reducible assumption) | (with_reducible exact Kp.refl (Nat.le_refl _)) | (with_reducible refine Kp.drew ?_) | (with_reducible refine Kp.alloc ?_ _) | ((with_reducible refine Kp.put ?_ ?_ _); focus (first | (left; go_size; done) | (right; simp; done))) | ((with_reducible apply Kp.later); (with_reducible assumption)))))) ((first | (go_at_call 22; (with_reducible refine (K3.out _ ?_).mono ?_); (focus (refine HT.out.later ?_; (repeat (first | (with_reducible exact Below.refl _ _) | (with_reducible assumption) | (with_reducible refine below_alloc ?_ _) | (with_reducible refine Below.drew ?_) | ((with_reducible apply below_later); (with_reducible assumption)))))); rintro e C_1 ⟨rfl, hbC_1⟩; have hkC_1 : Kp C.heap.size [] C C_1 := (by (repeat (first | (with_reducible assumption) | (with_reducible exact Kp.refl (Nat.le_refl _)) | (with_reducible refine Kp.drew ?_) | (with_reducible refine Kp.alloc ?_ _) | ((with_reducible refine Kp.put ?_ ?_ _); focus (first | (left; go_size; done) | (right; simp; done))) | ((with_reducible apply Kp.later); (with_reducible assumption)))))) | (go_at_call 23; (with_reducible refine (K4.out _).mono ?_); rintro e C_2 ⟨rfl, hbC_2⟩; have hkC_2 : Kp C.heap.size [] C C_2 := (by (repeat (first | (with_reducible assumption) | (with_reducible exact Kp.refl (Nat.le_refl _)) | (with_reducible refine Kp.drew ?_) | (with_reducible refine Kp.alloc ?_ _) | ((with_reducible refine Kp.put ?_ ?_ _); focus (first | (left; go_size; done) | (right; simp; done))) | ((with_reducible apply Kp.later); (with_reducible assumption)))))) | (go_at_call 15; (with_reducible refine (K.out _ ?_).mono ?_); (focus (refine HT.out.later ?_; (repeat (first | (with_reducible exact Below.refl _ _) | (with_reducible assumption) | (with_reducible refine below_alloc ?_ _) | (with_reducible refine Below.drew ?_) | ((with_reducible apply below_later); (with_reducible assumption)))))); rintro e C_3 ⟨rfl, hbC_3⟩; have hkC_3 : Kp C.heap.size [] C C_3 := (by (repeat (first | (with_reducible assumption) | (with_reducible exact Kp.refl (Nat.le_refl _)) | (with_reducible refine Kp.drew ?_) | (with_reducible refine Kp.alloc ?_ _) | ((with_reducible refine Kp.put ?_ ?_ _); focus (first | (left; go_size; done) | (right; simp; done))) | ((with_reducible apply Kp.later); (with_reducible assumption))))))))
  all_goals
    go_wp2
    go_ret
    exact ⟨rfl, by (repeat' (first | (with_reducible exact Below.refl _ _) | (with_reducible assumption) | (with_reducible refine below_alloc ?_ _) | (with_reducible refine Below.drew ?_) | (with_reducible refine Below.setCell ?_ ?_ _) | (with_reducible refine below_after ?_ (by assumption)) | go_size))⟩
theorem texts_walk (s : Bool) (a : Nat) (ha : a < 2 ^ 256) (l : List UInt8) (_hl : (l.length : Int) ≤ 9223372036854775807) (w : World) (hT : Tabs w) :
    Calls Tryd.prog 5 #[(.agg #[.bool (s), .int .u64 (wd (a) 0), .int .u64 (wd (a) 1), .int .u64 (wd (a) 2), .int .u64 (wd (a) 3)]), .string ⟨l.toArray⟩] w fun e w' => e = .returned (.bool true) ∧ Below w.heap.size w w' := by
  by_cases h : 300 < l.length
  · exact texts_long s a l h w hT
  · exact texts_short s a ha l h w hT
end Go.Proofs.YtnbdccobfmlhbaaDoor
