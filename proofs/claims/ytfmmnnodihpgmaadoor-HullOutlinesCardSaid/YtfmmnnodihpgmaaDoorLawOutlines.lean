/-
  HullOutlines: the walk of the law: for any form and height it returns true. (Written by wip/gen_lout.py.)
-/
import Derived.Test.YtfmmnnodihpgmaaDoorHAwD
import Derived.Test.YtfmmnnodihpgmaaDoorOutB
import Derived.Test.YtfmmnnodihpgmaaDoorROutB
namespace Go.Proofs.YtfmmnnodihpgmaaDoor
set_option linter.all false
open Go Go.RowKit Wd
set_option maxRecDepth 100000
theorem same_nil (w : World) : Calls Tryd.prog 19 #[.slice none 0 0, .slice none 0 0] w fun e w' => e = .returned (.bool true) ∧ Below w.heap.size w w' := by
  go_enter Tryd.func19, Tryd.ntmps19
  go_wp2
  go_loopw [5] (fun i wr => i = .int .i64 0 ∧ wr = w) (fun i _ => 0)
  case atStart => exact ⟨rfl, rfl⟩
  case round =>
    obtain ⟨rfl, rfl⟩ := hrel
    go_wp2
    go_returns
    exact ⟨rfl, by (repeat' (first | (with_reducible exact Below.refl _ _) | (with_reducible assumption) | (with_reducible refine below_alloc ?_ _) | (with_reducible refine Below.drew ?_) | (with_reducible refine Below.setCell ?_ ?_ _) | (with_reducible refine below_after ?_ (by assumption)) | go_size))⟩
/-- Fractions side by side. -/
@[irreducible] def rcs (L : List (Int × Int)) : List Value := L.flatMap fun p => rc p.1 p.2
theorem rc_len (n d : Int) : (rc n d).length = 10 := by unfold rc; rfl
theorem rcs_nil : rcs [] = [] := by unfold rcs; rfl
theorem rcs_cons (p : Int × Int) (L : List (Int × Int)) : rcs (p :: L) = rc p.1 p.2 ++ rcs L := by unfold rcs; rfl
theorem rcs_app (K L : List (Int × Int)) : rcs (K ++ L) = rcs K ++ rcs L := by unfold rcs; exact List.flatMap_append
theorem rcs_one (n d : Int) : rcs [(n, d)] = rc n d := by rw [rcs_cons, rcs_nil, List.append_nil]
theorem rcs_len : ∀ L : List (Int × Int), (rcs L).length = L.length * 10
  | [] => by rw [rcs_nil]; rfl
  | p :: L => by rw [rcs_cons, List.length_append, rc_len, rcs_len L, List.length_cons]; omega
def rP (L : List (Int × Int)) (j : Nat) : Int := rn (L.getD j (0, 0)).1 (L.getD j (0, 0)).2
def rQ (L : List (Int × Int)) (j : Nat) : Int := rd (L.getD j (0, 0)).1 (L.getD j (0, 0)).2
theorem rc_at (n d : Int) : ∀ o, o < 10 → (rc n d)[o]? = (#[.bool (zs (rn n d)), .int .u64 (wd (Int.natAbs (rn n d)) 0), .int .u64 (wd (Int.natAbs (rn n d)) 1), .int .u64 (wd (Int.natAbs (rn n d)) 2), .int .u64 (wd (Int.natAbs (rn n d)) 3), .bool (zs (rd n d)), .int .u64 (wd (Int.natAbs (rd n d)) 0), .int .u64 (wd (Int.natAbs (rd n d)) 1), .int .u64 (wd (Int.natAbs (rd n d)) 2), .int .u64 (wd (Int.natAbs (rd n d)) 3)] : Array Value)[o]? := by
  intro o ho
  unfold rc
  obtain rfl | rfl | rfl | rfl | rfl | rfl | rfl | rfl | rfl | rfl : o = 0 ∨ o = 1 ∨ o = 2 ∨ o = 3 ∨ o = 4 ∨ o = 5 ∨ o = 6 ∨ o = 7 ∨ o = 8 ∨ o = 9 := by omega
  all_goals rfl
theorem rcs_at : ∀ (L : List (Int × Int)) (j : Nat), j < L.length → ∀ o, o < 10 → (rcs L)[j * 10 + o]? = (#[.bool (zs (rP L j)), .int .u64 (wd (Int.natAbs (rP L j)) 0), .int .u64 (wd (Int.natAbs (rP L j)) 1), .int .u64 (wd (Int.natAbs (rP L j)) 2), .int .u64 (wd (Int.natAbs (rP L j)) 3), .bool (zs (rQ L j)), .int .u64 (wd (Int.natAbs (rQ L j)) 0), .int .u64 (wd (Int.natAbs (rQ L j)) 1), .int .u64 (wd (Int.natAbs (rQ L j)) 2), .int .u64 (wd (Int.natAbs (rQ L j)) 3)] : Array Value)[o]?
  | [], j, h, _, _ => absurd h (Nat.not_lt_zero _)
  | p :: L, 0, _, o, ho => by
    rw [rcs_cons, List.getElem?_append_left (by rw [rc_len]; omega), Nat.zero_mul, Nat.zero_add, rc_at p.1 p.2 o ho]
    unfold rP rQ
    rfl
  | p :: L, j + 1, h, o, ho => by
    rw [rcs_cons, List.getElem?_append_right (by rw [rc_len]; omega), rc_len, show (j + 1) * 10 + o - 10 = j * 10 + o by omega, rcs_at L j (by simpa using h) o ho]
    unfold rP rQ
    rfl
theorem olX_rcs (X Z : List Int) (z : Int) (k : Nat) : ∀ i, ∃ L : List (Int × Int), olX X Z z k i = rcs L ∧ i ≤ L.length ∧ L.length ≤ 2 * i
  | 0 => ⟨[], by rw [olX_zero, rcs_nil], by simp, by simp⟩
  | i + 1 => by
    obtain ⟨L, e, h1, h2⟩ := olX_rcs X Z z k i
    rw [olX_succ, e]
    by_cases hl : last X Z z k i = true
    · rw [if_pos hl, List.append_nil]
      exact ⟨L ++ [(ix X i, 1)], by rw [rcs_app, rcs_one], by simp; omega, by simp; omega⟩
    · rw [if_neg hl]
      exact ⟨L ++ ([(ix X i, 1)] ++ [(lvN Z z k (ix X i) (ix X (i + 1)), lvD Z k)]), by rw [rcs_app, rcs_app, rcs_one, rcs_one], by simp; omega, by simp; omega⟩
theorem olY_rcs (X Z : List Int) (H : List (List Int)) (z : Int) (k : Nat) : ∀ i, ∃ L : List (Int × Int), olY X Z H z k i = rcs L ∧ i ≤ L.length ∧ L.length ≤ 2 * i
  | 0 => ⟨[], by rw [olY_zero, rcs_nil], by simp, by simp⟩
  | i + 1 => by
    obtain ⟨L, e, h1, h2⟩ := olY_rcs X Z H z k i
    rw [olY_succ, e]
    by_cases hl : last X Z z k i = true
    · rw [if_pos hl, List.append_nil]
      exact ⟨L ++ [(hfN Z (row H i) z k, hfD Z z k)], by rw [rcs_app, rcs_one], by simp; omega, by simp; omega⟩
    · rw [if_neg hl]
      exact ⟨L ++ ([(hfN Z (row H i) z k, hfD Z z k)] ++ [(lvN Z z k (ix (row H i) k) (ix (row H (i + 1)) (k + 1)), lvD Z k)]), by rw [rcs_app, rcs_app, rcs_one, rcs_one], by simp; omega, by simp; omega⟩
theorem own_rcs {w : World} {base : Nat} {v : Value} {n : Nat} {L : List (Int × Int)} (h : w.ownsRow base 35 10 v n (rcs L)) (hx : 0 < L.length) :
    ∃ g cap, v = .slice (some ⟨g, 0, none⟩) L.length cap ∧ n = L.length ∧ g < w.heap.size ∧ RowR w g L.length (rP L) (rQ L) := by
  have hn := h.1
  rw [rcs_len] at hn
  obtain rfl : n = L.length := by omega
  obtain ⟨g, cp, rfl, hg, hl⟩ := h.form hx
  exact ⟨g, cp, rfl, rfl, hl, row_of h (rcs_at L)⟩
set_option maxHeartbeats 4000000 in
theorem outlines_any (ax az ah : Option Addr) (cx cz ch : Nat) (A : Nat → Option Addr) (C : Nat → Nat) (X Z : List Int) (H : List (List Int)) (hx : X.length ≤ 9223372036854775807) (_hz : Z.length ≤ 9223372036854775807) (z : Int) (_hz0 : -9223372036854775808 ≤ z) (_hz1 : z ≤ 9223372036854775807) (w : World) (hf : Frm w ax az ah A C X Z H) (hT : Tab64 w) :
    Calls Tryd.prog 5 #[.agg #[.slice ax X.length cx, .slice az Z.length cz, .slice ah H.length ch], .int .i64 z] w fun e w' => e = .returned (.bool true) ∧ Below w.heap.size w w' := by
  have HT := Lib.hid hT
  have HF := Lib.hid hf
  rcases (by cases lightB X Z H <;> simp : lightB X Z H = true ∨ lightB X Z H = false) with hl | hl
  · have HL := Lib.hid (show ∀ W : World, Frm W ax az ah A C X Z H → Calls Tryd.prog 9 #[.agg #[.slice ax X.length cx, .slice az Z.length cz, .slice ah H.length ch]] W fun e w' => e = .returned (.bool true) ∧ Below W.heap.size W w' from by rw [← hl]; exact fun W h => light_any ax az ah cx cz ch A C X Z H hx W h)
    by_cases hs : rgt X Z H z = 0
    · have MA := Lib.hid (fun W hF hT => Outline_ok ax az ah cx cz ch A C X Z H z hs W hF hT)
      have MB := Lib.hid (fun W hF => rOutline_ok ax az ah cx cz ch A C X Z H z hs W hF)
      have hv := chk_fine (rgt_fine hs).1
      have x2 := hv.x2
      have x24 := hv.x24
      obtain ⟨P, eP, p1, p2⟩ := olX_rcs X Z z (bandN Z z (Z.length - 1)) X.length
      obtain ⟨Q, eQ, q1, q2⟩ := olY_rcs X Z H z (bandN Z z (Z.length - 1)) X.length
      rw [eP, eQ] at MA MB
      have hP0 : 0 < P.length := by omega
      have hQ0 : 0 < Q.length := by omega
      have hP1 : P.length ≤ 1000 := by omega
      have hQ1 : Q.length ≤ 1000 := by omega
      clear hT hf hl hx hv x2 x24 hs eP eQ p1 p2 q1 q2
      go_enter Tryd.func5, Tryd.ntmps5
      go_wp2_with fail
      ((with_reducible refine (HL.out _ (HF.out.later (by (repeat' (first | (with_reducible exact Below.refl _ _) | (with_reducible assumption) | (with_reducible refine below_alloc ?_ _) | (with_reducible refine Below.drew ?_) | (with_reducible refine Below.setCell ?_ ?_ _) | (with_reducible refine below_after ?_ (by assumption)) | go_size))))).mono ?_); rintro e w1 ⟨rfl, hb1⟩)
      obtain ⟨hc1, hf1⟩ := bcell hb1
      have hz1_w_0 : w.heap.size < w1.heap.size := by have h := hb1.size; (try simp at h); omega
      go_upto_region 3 with (fail)
      refine wp_world (fun x => (∀ o, x.cell? ⟨w.heap.size, o, none⟩ = (#[.slice ax X.length cx, .slice az Z.length cz, .slice ah H.length ch] : Array Value)[o]?) ∧ (∀ o, x.frozen? ⟨w.heap.size, o, none⟩ = false) ∧ w.heap.size < x.heap.size ∧ Below w.heap.size w x) ⟨fun o => by simp [go_sem, hc1, hf1, hz1_w_0], fun o => by simp [go_sem, hc1, hf1, hz1_w_0], by (first | omega | (simp [go_sem, hc1, hf1, hz1_w_0]; done) | (simp [go_sem, hc1, hf1, hz1_w_0]; omega)), by (repeat' (first | (with_reducible exact Below.refl _ _) | (with_reducible assumption) | (with_reducible refine below_alloc ?_ _) | (with_reducible refine Below.drew ?_) | (with_reducible refine Below.setCell ?_ ?_ _) | (with_reducible refine below_after ?_ (by assumption)) | go_size))⟩ ?_
      rintro G ⟨hGc0, hGf0, hGz0, hGb⟩
      clear hb1 hc1 hf1
      go_wp2_with fail
      ((with_reducible refine (MA.out _ (HF.out.later (by (repeat' (first | (with_reducible exact Below.refl _ _) | (with_reducible assumption) | (with_reducible refine below_alloc ?_ _) | (with_reducible refine Below.drew ?_) | (with_reducible refine Below.setCell ?_ ?_ _) | (with_reducible refine below_after ?_ (by assumption)) | go_size)))) (HT.out.later (by (repeat' (first | (with_reducible exact Below.refl _ _) | (with_reducible assumption) | (with_reducible refine below_alloc ?_ _) | (with_reducible refine Below.drew ?_) | (with_reducible refine Below.setCell ?_ ?_ _) | (with_reducible refine below_after ?_ (by assumption)) | go_size))))).mono ?_); rintro e w2 ⟨xv, yv, nx, ny, rfl, hb2, o1, o2⟩)
      obtain ⟨g1, c1, rfl, -, l1, r1⟩ := own_rcs o1 hP0
      obtain ⟨g2, c2, rfl, -, l2, r2⟩ := own_rcs o2 hQ0
      have hGc : ∀ o, w2.cell? ⟨w.heap.size, o, none⟩ = (#[.slice ax X.length cx, .slice az Z.length cz, .slice ah H.length ch] : Array Value)[o]? := keep_cell hb2 hGz0 hGc0
      have hGz := keep_lt hb2 hGz0
      have hw2 := below_after hGb hb2
      have HF2 := Lib.hid (HF.out.later hw2)
      have R1 := Lib.hid r1
      have R2 := Lib.hid r2
      clear o1 o2 r1 r2 hGc0 hGf0 hGz0 hb2 hGb
      go_wp2_with fail
      ((with_reducible refine (MB.out _ (HF2.out.later (by (repeat' (first | (with_reducible exact Below.refl _ _) | (with_reducible assumption) | (with_reducible refine below_alloc ?_ _) | (with_reducible refine Below.drew ?_) | (with_reducible refine Below.setCell ?_ ?_ _) | (with_reducible refine below_after ?_ (by assumption)) | go_size))))).mono ?_); rintro e w3 ⟨xv, yv, nx, ny, rfl, hb3, o1, o2⟩)
      obtain ⟨g3, c3, rfl, -, l3, r3⟩ := own_rcs o1 hP0
      obtain ⟨g4, c4, rfl, -, l4, r4⟩ := own_rcs o2 hQ0
      have S1 := RowR.later R1.out l1 hb3
      have S2 := RowR.later R2.out l2 hb3
      have m1 := keep_lt hb3 l1
      have m2 := keep_lt hb3 l2
      have hw3 := below_after hw2 hb3
      have T1 := Lib.hid S1
      have T2 := Lib.hid S2
      have T3 := Lib.hid r3
      have T4 := Lib.hid r4
      clear o1 o2 r3 r4 S1 S2 R1 R2 hGc hGz HF2 hb3 hw2
      go_wp2_with fail
      ((with_reducible refine (same_true g1 g3 P.length c1 c3 _ _ (by omega) _ T1.out T3.out m1 l3).mono ?_); rintro e w4 ⟨rfl, hb4⟩)
      have U2 := Lib.hid (RowR.later T2.out m2 hb4)
      have U4 := Lib.hid (RowR.later T4.out l4 hb4)
      have n2 := keep_lt hb4 m2
      have n4 := keep_lt hb4 l4
      have hw4 := below_after hw3 hb4
      clear T1 T2 T3 T4 hw3 hb4
      go_wp2_with fail
      ((with_reducible refine (same_true g2 g4 Q.length c2 c4 _ _ (by omega) _ U2.out U4.out n2 n4).mono ?_); rintro e w5 ⟨rfl, hb5⟩)
      have hw5 := below_after hw4 hb5
      clear U2 U4 hw4 hb5
      go_wp2_with fail
      ((with_reducible refine (awake54 _ (HT.out.later (by (repeat' (first | (with_reducible exact Below.refl _ _) | (with_reducible assumption) | (with_reducible refine below_alloc ?_ _) | (with_reducible refine Below.drew ?_) | (with_reducible refine Below.setCell ?_ ?_ _) | (with_reducible refine below_after ?_ (by assumption)) | go_size))))).mono ?_); rintro e w6 ⟨rfl, hb6⟩)
      go_wp2
      go_returns
      exact ⟨rfl, by (repeat' (first | (with_reducible exact Below.refl _ _) | (with_reducible assumption) | (with_reducible refine below_alloc ?_ _) | (with_reducible refine Below.drew ?_) | (with_reducible refine Below.setCell ?_ ?_ _) | (with_reducible refine below_after ?_ (by assumption)) | go_size))⟩
    · have MA := Lib.hid (fun W hF => Outline_bad ax az ah cx cz ch A C X Z H z hs W hF)
      have MB := Lib.hid (fun W hF => rOutline_bad ax az ah cx cz ch A C X Z H z hs W hF)
      generalize rgt X Z H z = c at *
      clear hT hf hl hx hs
      go_enter Tryd.func5, Tryd.ntmps5
      go_wp2_with fail
      ((with_reducible refine (HL.out _ (HF.out.later (by (repeat' (first | (with_reducible exact Below.refl _ _) | (with_reducible assumption) | (with_reducible refine below_alloc ?_ _) | (with_reducible refine Below.drew ?_) | (with_reducible refine Below.setCell ?_ ?_ _) | (with_reducible refine below_after ?_ (by assumption)) | go_size))))).mono ?_); rintro e w1 ⟨rfl, hb1⟩)
      obtain ⟨hc1, hf1⟩ := bcell hb1
      have hz1_w_0 : w.heap.size < w1.heap.size := by have h := hb1.size; (try simp at h); omega
      go_upto_region 3 with (fail)
      refine wp_world (fun x => (∀ o, x.cell? ⟨w.heap.size, o, none⟩ = (#[.slice ax X.length cx, .slice az Z.length cz, .slice ah H.length ch] : Array Value)[o]?) ∧ (∀ o, x.frozen? ⟨w.heap.size, o, none⟩ = false) ∧ w.heap.size < x.heap.size ∧ Below w.heap.size w x) ⟨fun o => by simp [go_sem, hc1, hf1, hz1_w_0], fun o => by simp [go_sem, hc1, hf1, hz1_w_0], by (first | omega | (simp [go_sem, hc1, hf1, hz1_w_0]; done) | (simp [go_sem, hc1, hf1, hz1_w_0]; omega)), by (repeat' (first | (with_reducible exact Below.refl _ _) | (with_reducible assumption) | (with_reducible refine below_alloc ?_ _) | (with_reducible refine Below.drew ?_) | (with_reducible refine Below.setCell ?_ ?_ _) | (with_reducible refine below_after ?_ (by assumption)) | go_size))⟩ ?_
      rintro G ⟨hGc0, hGf0, hGz0, hGb⟩
      clear hb1 hc1 hf1
      go_wp2_with fail
      ((with_reducible refine (MA.out _ (HF.out.later (by (repeat' (first | (with_reducible exact Below.refl _ _) | (with_reducible assumption) | (with_reducible refine below_alloc ?_ _) | (with_reducible refine Below.drew ?_) | (with_reducible refine Below.setCell ?_ ?_ _) | (with_reducible refine below_after ?_ (by assumption)) | go_size))))).mono ?_); rintro e w2 ⟨rfl, hb2⟩)
      have hk2 : Kp G.heap.size [] G w2 := (by (repeat (first | (with_reducible assumption) | (with_reducible exact Kp.refl (Nat.le_refl _)) | (with_reducible refine Kp.drew ?_) | (with_reducible refine Kp.alloc ?_ _) | ((with_reducible refine Kp.put ?_ ?_ _); focus (first | (left; go_size; done) | (right; simp; done))) | ((with_reducible apply Kp.later); (with_reducible assumption)))))
      have h2c0 := fun o => (hk2.cell _ o hGz0 (by simp)).trans (hGc0 o)
      have h2f0 := fun o => (hk2.froz _ o hGz0).trans (hGf0 o)
      have h2z0 := Nat.lt_of_lt_of_le hGz0 hk2.size
      go_wp2_with fail
      ((with_reducible refine (MB.out _ (HF.out.later (by (repeat' (first | (with_reducible exact Below.refl _ _) | (with_reducible assumption) | (with_reducible refine below_alloc ?_ _) | (with_reducible refine Below.drew ?_) | (with_reducible refine Below.setCell ?_ ?_ _) | (with_reducible refine below_after ?_ (by assumption)) | go_size))))).mono ?_); rintro e w3 ⟨rfl, hb3⟩)
      have hk3 : Kp G.heap.size [] G w3 := (by (repeat (first | (with_reducible assumption) | (with_reducible exact Kp.refl (Nat.le_refl _)) | (with_reducible refine Kp.drew ?_) | (with_reducible refine Kp.alloc ?_ _) | ((with_reducible refine Kp.put ?_ ?_ _); focus (first | (left; go_size; done) | (right; simp; done))) | ((with_reducible apply Kp.later); (with_reducible assumption)))))
      have h3c0 := fun o => (hk3.cell _ o hGz0 (by simp)).trans (hGc0 o)
      have h3f0 := fun o => (hk3.froz _ o hGz0).trans (hGf0 o)
      have h3z0 := Nat.lt_of_lt_of_le hGz0 hk3.size
      go_wp2_with fail
      ((with_reducible refine (same_nil _).mono ?_); rintro e w4 ⟨rfl, hb4⟩)
      have hk4 : Kp G.heap.size [] G w4 := (by (repeat (first | (with_reducible assumption) | (with_reducible exact Kp.refl (Nat.le_refl _)) | (with_reducible refine Kp.drew ?_) | (with_reducible refine Kp.alloc ?_ _) | ((with_reducible refine Kp.put ?_ ?_ _); focus (first | (left; go_size; done) | (right; simp; done))) | ((with_reducible apply Kp.later); (with_reducible assumption)))))
      have h4c0 := fun o => (hk4.cell _ o hGz0 (by simp)).trans (hGc0 o)
      have h4f0 := fun o => (hk4.froz _ o hGz0).trans (hGf0 o)
      have h4z0 := Nat.lt_of_lt_of_le hGz0 hk4.size
      go_wp2_with fail
      ((with_reducible refine (same_nil _).mono ?_); rintro e w5 ⟨rfl, hb5⟩)
      have hk5 : Kp G.heap.size [] G w5 := (by (repeat (first | (with_reducible assumption) | (with_reducible exact Kp.refl (Nat.le_refl _)) | (with_reducible refine Kp.drew ?_) | (with_reducible refine Kp.alloc ?_ _) | ((with_reducible refine Kp.put ?_ ?_ _); focus (first | (left; go_size; done) | (right; simp; done))) | ((with_reducible apply Kp.later); (with_reducible assumption)))))
      have h5c0 := fun o => (hk5.cell _ o hGz0 (by simp)).trans (hGc0 o)
      have h5f0 := fun o => (hk5.froz _ o hGz0).trans (hGf0 o)
      have h5z0 := Nat.lt_of_lt_of_le hGz0 hk5.size
      go_wp2_with fail
      ((with_reducible refine (awake54 _ (HT.out.later (by (repeat' (first | (with_reducible exact Below.refl _ _) | (with_reducible assumption) | (with_reducible refine below_alloc ?_ _) | (with_reducible refine Below.drew ?_) | (with_reducible refine Below.setCell ?_ ?_ _) | (with_reducible refine below_after ?_ (by assumption)) | go_size))))).mono ?_); rintro e w6 ⟨rfl, hb6⟩)
      have hk6 : Kp G.heap.size [] G w6 := (by (repeat (first | (with_reducible assumption) | (with_reducible exact Kp.refl (Nat.le_refl _)) | (with_reducible refine Kp.drew ?_) | (with_reducible refine Kp.alloc ?_ _) | ((with_reducible refine Kp.put ?_ ?_ _); focus (first | (left; go_size; done) | (right; simp; done))) | ((with_reducible apply Kp.later); (with_reducible assumption)))))
      have h6c0 := fun o => (hk6.cell _ o hGz0 (by simp)).trans (hGc0 o)
      have h6f0 := fun o => (hk6.froz _ o hGz0).trans (hGf0 o)
      have h6z0 := Nat.lt_of_lt_of_le hGz0 hk6.size
      go_wp2
      go_returns
      exact ⟨rfl, by (repeat' (first | (with_reducible exact Below.refl _ _) | (with_reducible assumption) | (with_reducible refine below_alloc ?_ _) | (with_reducible refine Below.drew ?_) | (with_reducible refine Below.setCell ?_ ?_ _) | (with_reducible refine below_after ?_ (by assumption)) | go_size))⟩
  · have HL := Lib.hid (show ∀ W : World, Frm W ax az ah A C X Z H → Calls Tryd.prog 9 #[.agg #[.slice ax X.length cx, .slice az Z.length cz, .slice ah H.length ch]] W fun e w' => e = .returned (.bool false) ∧ Below W.heap.size W w' from by rw [← hl]; exact fun W h => light_any ax az ah cx cz ch A C X Z H hx W h)
    clear hT hf hl hx
    go_enter Tryd.func5, Tryd.ntmps5
    go_wp2_with fail
    ((with_reducible refine (HL.out _ (HF.out.later (by (repeat' (first | (with_reducible exact Below.refl _ _) | (with_reducible assumption) | (with_reducible refine below_alloc ?_ _) | (with_reducible refine Below.drew ?_) | (with_reducible refine Below.setCell ?_ ?_ _) | (with_reducible refine below_after ?_ (by assumption)) | go_size))))).mono ?_); rintro e w1 ⟨rfl, hb1⟩)
    obtain ⟨hc1, hf1⟩ := bcell hb1
    have hz1_w_0 : w.heap.size < w1.heap.size := by have h := hb1.size; (try simp at h); omega
    go_wp2_with fail
    ((with_reducible refine (awake54 _ (HT.out.later (by (repeat' (first | (with_reducible exact Below.refl _ _) | (with_reducible assumption) | (with_reducible refine below_alloc ?_ _) | (with_reducible refine Below.drew ?_) | (with_reducible refine Below.setCell ?_ ?_ _) | (with_reducible refine below_after ?_ (by assumption)) | go_size))))).mono ?_); rintro e w2 ⟨rfl, hb2⟩)
    obtain ⟨hc2, hf2⟩ := bcell hb2
    have hz2_w_0 : w.heap.size < w2.heap.size := by have h := hb2.size; (try simp at h); omega
    go_wp2
    go_returns
    exact ⟨rfl, by (repeat' (first | (with_reducible exact Below.refl _ _) | (with_reducible assumption) | (with_reducible refine below_alloc ?_ _) | (with_reducible refine Below.drew ?_) | (with_reducible refine Below.setCell ?_ ?_ _) | (with_reducible refine below_after ?_ (by assumption)) | go_size))⟩
end Go.Proofs.YtfmmnnodihpgmaaDoor
