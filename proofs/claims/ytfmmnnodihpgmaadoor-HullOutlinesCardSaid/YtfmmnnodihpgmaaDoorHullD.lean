/-
  What package hull's band, right, level, half, station and Half return, for all forms.
-/
import Derived.Test.YtfmmnnodihpgmaaDoorHullC
import Derived.Test.YtfmmnnodihpgmaaDoorRatA
namespace Go.Proofs.YtfmmnnodihpgmaaDoor
set_option linter.all false
open Go Go.RowKit Wd
set_option maxRecDepth 100000
/-- The greatest waterline up to k that is not above z. -/
@[irreducible] def bandN (Z : List Int) (z : Int) (k : Nat) : Nat := (List.range k).foldl (fun b i => if z < ix Z (i + 1) then b else i + 1) 0
theorem bandN_zero (Z : List Int) (z : Int) : bandN Z z 0 = 0 := by unfold bandN; rfl
theorem bandN_succ (Z : List Int) (z : Int) (k : Nat) : bandN Z z (k + 1) = if z < ix Z (k + 1) then bandN Z z k else k + 1 := by
  unfold bandN; rw [List.range_succ, List.foldl_append]; rfl
theorem bandN_le (Z : List Int) (z : Int) (k : Nat) : bandN Z z k ≤ k := by
  induction k with
  | zero => rw [bandN_zero]; omega
  | succ k ih => rw [bandN_succ]; split <;> omega
theorem bandN_low (Z : List Int) (z : Int) (h0 : ix Z 0 ≤ z) (k : Nat) : ix Z (bandN Z z k) ≤ z := by
  induction k with
  | zero => rw [bandN_zero]; exact h0
  | succ k ih => rw [bandN_succ]; split; exact ih; omega
theorem bandN_high (Z : List Int) (z : Int) (k : Nat) : ∀ j, bandN Z z k < j → j ≤ k → z < ix Z j := by
  induction k with
  | zero => intro j h1 h2; omega
  | succ k ih =>
    intro j h1 h2
    rw [bandN_succ] at h1
    split at h1
    · rename_i h3
      by_cases h : j = k + 1
      · subst h; exact h3
      · exact ih j h1 (by omega)
    · omega
/-- What right says. -/
@[irreducible] def rgt (X Z : List Int) (H : List (List Int)) (z : Int) : Int := if chk X Z H = 0 then (if out (ix Z (Z.length - 1)) z = true then 9 else 0) else chk X Z H
/-- What station says. -/
@[irreducible] def stn (X Z : List Int) (H : List (List Int)) (i z : Int) : Int := if rgt X Z H z = 0 then (if out (((X.length : Int)) - 1) i = true then 9 else 0) else rgt X Z H z
set_option maxHeartbeats 1000000 in
theorem band_any (ax az ah : Option Addr) (cx cz ch : Nat) (A : Nat → Option Addr) (C : Nat → Nat) (X Z : List Int) (H : List (List Int)) (z : Int) (hv : Fine X Z H) (h0 : 0 ≤ z) (w : World) (hf : Frm w ax az ah A C X Z H) :
    Calls Tryd.prog 43 #[.agg #[.slice ax X.length cx, .slice az Z.length cz, .slice ah H.length ch], .int .i64 z] w fun e w' => e = .returned (.int .i64 (bandN Z z (Z.length - 1) : Nat)) ∧ Below w.heap.size w w' := by
  obtain ⟨bz, oz, rfl, hz⟩ := hf.z (by have := hv.z2; omega)
  have hz0 := hv.z0
  have z2 := hv.z2
  have z16 := hv.z16
  obtain ⟨m, hm⟩ : ∃ m, m + 1 = Z.length := ⟨Z.length - 1, by omega⟩
  rw [show Z.length - 1 = m by omega]
  have HZ := Lib.hid hz
  have HM := Lib.hid hm
  have hlt := hz.lt
  obtain ⟨r, hr⟩ : ∃ r, r = bandN Z z m := ⟨_, rfl⟩
  rw [← hr]
  have HR := Lib.hid hr
  clear hz hf hr
  go_enter Tryd.func43, Tryd.ntmps43
  go_wp2
  go_loopw [5] (fun i wr => ∃ k : Nat, k ≤ m ∧ i = .int .i64 (k : Int) ∧ Hid (r = bandN Z z k) ∧ Hid (Below w.heap.size w wr) ∧ (∀ o, wr.cell? ⟨w.heap.size, o, none⟩ = (#[.slice ax X.length cx, .slice (some ⟨bz, oz, none⟩) Z.length cz, .slice ah H.length ch] : Array Value)[o]?) ∧ w.heap.size < wr.heap.size) (fun i _ => (intOf i).toNat)
  case atStart => exact ⟨m, by omega, by go_num, HR, Lib.hid (by go_grown), fun o => by simp [go_sem], by simp⟩
  case round =>
    obtain ⟨k, hk, rfl, hK, hB, hc, hs⟩ := hrel
    have hcell : wr.cell? ⟨bz, oz + k, none⟩ = some (.int .i64 (ix Z k)) := (HZ.out.later hB.out).cell k (by have := HM.out; omega)
    by_cases hlow : z < ix Z k
    · obtain ⟨j, rfl⟩ : ∃ j, k = j + 1 := ⟨k - 1, by
        have : k ≠ 0 := by rintro rfl; omega
        omega⟩
      have hn := hK.out
      rw [bandN_succ, if_pos hlow] at hn
      have HN := Lib.hid hn
      clear hn hK
      go_wp2
      go_roundw
      case rel => exact ⟨j, by omega, by go_num, HN, hB, hc, hs⟩
      case measure => simp [intOf]
    · have hr : r = k := by
        have := hK.out
        cases k with
        | zero => rw [this, bandN_zero]
        | succ k => rw [this, bandN_succ, if_neg hlow]
      have hB' := hB.out
      subst hr
      go_wp2
      go_returns
      exact ⟨rfl, hB'⟩
set_option maxHeartbeats 1000000 in
theorem right_any (ax az ah : Option Addr) (cx cz ch : Nat) (A : Nat → Option Addr) (C : Nat → Nat) (X Z : List Int) (H : List (List Int)) (z : Int) (w : World) (hf : Frm w ax az ah A C X Z H) :
    Calls Tryd.prog 48 #[.agg #[.slice ax X.length cx, .slice az Z.length cz, .slice ah H.length ch], .int .i64 z] w fun e w' => e = .returned (.int .i64 (rgt X Z H z)) ∧ Below w.heap.size w w' := by
  have K := Lib.hid (fun W hF => check_any ax az ah cx cz ch A C X Z H W hF)
  by_cases hc : chk X Z H = 0
  · have hv := chk_fine hc
    have K' := K.out
    rw [hc] at K'
    have K2 := Lib.hid K'
    have E : rgt X Z H z = if out (ix Z (Z.length - 1)) z = true then 9 else 0 := by unfold rgt; rw [if_pos hc]
    rw [E]
    have I := fun W => within_any z (ix Z (Z.length - 1)) W
    have HF := Lib.hid hf
    obtain ⟨bz, oz, rfl, hz⟩ := hf.z (by have := hv.z2; omega)
    have z2 := hv.z2
    have z16 := hv.z16
    have HZ := Lib.hid hz
    have hlt := hz.lt
    have hcw := hz.cell (Z.length - 1) (by omega)
    generalize ix Z (Z.length - 1) = top at *
    generalize out top z = b at *
    have I' := Lib.hid I
    clear K K' hc hv hf hz E I
    cases b
    all_goals
      go_enter Tryd.func48, Tryd.ntmps48
      go_wp2_with fail
      ((with_reducible refine (K2.out _ (HF.out.later (by (repeat' (first | (with_reducible exact Below.refl _ _) | (with_reducible assumption) | (with_reducible refine below_alloc ?_ _) | (with_reducible refine Below.drew ?_) | (with_reducible refine Below.setCell ?_ ?_ _) | (with_reducible refine below_after ?_ (by assumption)) | go_size))))).mono ?_); rintro e w1 ⟨rfl, hb1⟩)
      obtain ⟨hc1, hf1⟩ := bcell hb1
      have hz1_w_0 : w.heap.size < w1.heap.size := by have h := hb1.size; (try simp at h); omega
      go_wp2_with fail
      ((with_reducible refine (I'.out _).mono ?_); rintro e w2 ⟨rfl, rfl⟩)
      go_wp2_with ((with_reducible show bodyPost _ _ _ _ _ _); refine bodyPost_ret (by simp [results, Tryd.results48, go_sem, ]; try rfl) rfl ?_; exact ⟨rfl, by (repeat' (first | (with_reducible exact Below.refl _ _) | (with_reducible assumption) | (with_reducible refine below_alloc ?_ _) | (with_reducible refine Below.drew ?_) | (with_reducible refine Below.setCell ?_ ?_ _) | (with_reducible refine below_after ?_ (by assumption)) | go_size))⟩)
  · have E : rgt X Z H z = chk X Z H := by unfold rgt; rw [if_neg hc]
    rw [E]
    generalize chk X Z H = r at *
    have HF := Lib.hid hf
    clear E hf
    go_enter Tryd.func48, Tryd.ntmps48
    go_wp2_with fail
    ((with_reducible refine (K.out _ (HF.out.later (by (repeat' (first | (with_reducible exact Below.refl _ _) | (with_reducible assumption) | (with_reducible refine below_alloc ?_ _) | (with_reducible refine Below.drew ?_) | (with_reducible refine Below.setCell ?_ ?_ _) | (with_reducible refine below_after ?_ (by assumption)) | go_size))))).mono ?_); rintro e w1 ⟨rfl, hb1⟩)
    obtain ⟨hc1, hf1⟩ := bcell hb1
    have hz1_w_0 : w.heap.size < w1.heap.size := by have h := hb1.size; (try simp at h); omega
    go_wp2_with ((with_reducible show bodyPost _ _ _ _ _ _); refine bodyPost_ret (by simp [results, Tryd.results48, go_sem, ]; try rfl) rfl ?_; exact ⟨rfl, by (repeat' (first | (with_reducible exact Below.refl _ _) | (with_reducible assumption) | (with_reducible refine below_alloc ?_ _) | (with_reducible refine Below.drew ?_) | (with_reducible refine Below.setCell ?_ ?_ _) | (with_reducible refine below_after ?_ (by assumption)) | go_size))⟩)
theorem Tab64.kp {w x : World} (h : Tab64 w) (k : Kp w.heap.size [] w x) : Tab64 x := ⟨Nat.lt_of_lt_of_le h.1 k.size, fun j hj => (k.cell _ _ h.1 (by simp)).trans (h.2 j hj)⟩
theorem zs_nn {x : Int} (h : 0 ≤ x) : zs x = false := by unfold zs; simpa using h
set_option maxHeartbeats 1000000 in
theorem station_any (ax az ah : Option Addr) (cx cz ch : Nat) (A : Nat → Option Addr) (C : Nat → Nat) (X Z : List Int) (H : List (List Int)) (i z : Int) (w : World) (hf : Frm w ax az ah A C X Z H) :
    Calls Tryd.prog 38 #[.agg #[.slice ax X.length cx, .slice az Z.length cz, .slice ah H.length ch], .int .i64 i, .int .i64 z] w fun e w' => e = .returned (.int .i64 (stn X Z H i z)) ∧ Below w.heap.size w w' := by
  have K := Lib.hid (fun W hF => right_any ax az ah cx cz ch A C X Z H z W hF)
  by_cases hc : rgt X Z H z = 0
  · have K' := K.out
    rw [hc] at K'
    have K2 := Lib.hid K'
    have hv := chk_fine (show chk X Z H = 0 by unfold rgt at hc; split at hc; assumption; exact hc)
    have x2 := hv.x2
    have x24 := hv.x24
    have E : stn X Z H i z = if out ((X.length : Int) - 1) i = true then 9 else 0 := by unfold stn; rw [if_pos hc]
    rw [E]
    have I := fun W => within_any i ((X.length : Int) - 1) W
    have HF := Lib.hid hf
    generalize out ((X.length : Int) - 1) i = b at *
    have I' := Lib.hid I
    clear K K' hc hv hf E I
    cases b
    all_goals
      go_enter Tryd.func38, Tryd.ntmps38
      go_wp2_with fail
      ((with_reducible refine (K2.out _ (HF.out.later (by (repeat' (first | (with_reducible exact Below.refl _ _) | (with_reducible assumption) | (with_reducible refine below_alloc ?_ _) | (with_reducible refine Below.drew ?_) | (with_reducible refine Below.setCell ?_ ?_ _) | (with_reducible refine below_after ?_ (by assumption)) | go_size))))).mono ?_); rintro e w1 ⟨rfl, hb1⟩)
      obtain ⟨hc1, hf1⟩ := bcell hb1
      have hz1_w_0 : w.heap.size < w1.heap.size := by have h := hb1.size; (try simp at h); omega
      go_wp2_with fail
      ((with_reducible refine (I'.out _).mono ?_); rintro e w2 ⟨rfl, rfl⟩)
      go_wp2_with ((with_reducible show bodyPost _ _ _ _ _ _); refine bodyPost_ret (by simp [results, Tryd.results38, go_sem, ]; try rfl) rfl ?_; exact ⟨rfl, by (repeat' (first | (with_reducible exact Below.refl _ _) | (with_reducible assumption) | (with_reducible refine below_alloc ?_ _) | (with_reducible refine Below.drew ?_) | (with_reducible refine Below.setCell ?_ ?_ _) | (with_reducible refine below_after ?_ (by assumption)) | go_size))⟩)
  · have E : stn X Z H i z = rgt X Z H z := by unfold stn; rw [if_neg hc]
    rw [E]
    generalize rgt X Z H z = r at *
    have HF := Lib.hid hf
    clear E hf
    go_enter Tryd.func38, Tryd.ntmps38
    go_wp2_with fail
    ((with_reducible refine (K.out _ (HF.out.later (by (repeat' (first | (with_reducible exact Below.refl _ _) | (with_reducible assumption) | (with_reducible refine below_alloc ?_ _) | (with_reducible refine Below.drew ?_) | (with_reducible refine Below.setCell ?_ ?_ _) | (with_reducible refine below_after ?_ (by assumption)) | go_size))))).mono ?_); rintro e w1 ⟨rfl, hb1⟩)
    obtain ⟨hc1, hf1⟩ := bcell hb1
    have hz1_w_0 : w.heap.size < w1.heap.size := by have h := hb1.size; (try simp at h); omega
    go_wp2_with ((with_reducible show bodyPost _ _ _ _ _ _); refine bodyPost_ret (by simp [results, Tryd.results38, go_sem, ]; try rfl) rfl ?_; exact ⟨rfl, by (repeat' (first | (with_reducible exact Below.refl _ _) | (with_reducible assumption) | (with_reducible refine below_alloc ?_ _) | (with_reducible refine Below.drew ?_) | (with_reducible refine Below.setCell ?_ ?_ _) | (with_reducible refine below_after ?_ (by assumption)) | go_size))⟩)
set_option maxHeartbeats 2000000 in
/-- level: what lies between two numbers, at a height. -/
theorem level_any (ax ah : Option Addr) (bz oz : Nat) (cx cz ch : Nat) (nx nz nh k : Nat) (z a b z0 z1 : Int) (h0 : 0 ≤ z0) (h01 : z0 < z1) (h1 : z1 ≤ 4096) (hz : z0 ≤ z) (hz' : z ≤ z1) (ha : 0 ≤ a) (ha' : a ≤ 32768) (hb : 0 ≤ b) (hb' : b ≤ 32768) (hk : k + 1 < nz) (hn : nz ≤ 16)
    (w : World) (hbz : bz < w.heap.size) (c0 : w.cell? ⟨bz, oz + k, none⟩ = some (.int .i64 z0)) (c1 : w.cell? ⟨bz, oz + (k + 1), none⟩ = some (.int .i64 z1)) (hT : Tab64 w) :
    Calls Tryd.prog 49 #[.agg #[.slice ax nx cx, .slice (some ⟨bz, oz, none⟩) nz cz, .slice ah nh ch], .int .i64 (k : Int), .int .i64 z, .int .i64 a, .int .i64 b] w fun e w' => e = .returned (.agg #[.bool (zs (rn (a * (z1 - z0) + (b - a) * (z - z0)) (z1 - z0))), .int .u64 (wd (Int.natAbs (rn (a * (z1 - z0) + (b - a) * (z - z0)) (z1 - z0))) 0), .int .u64 (wd (Int.natAbs (rn (a * (z1 - z0) + (b - a) * (z - z0)) (z1 - z0))) 1), .int .u64 (wd (Int.natAbs (rn (a * (z1 - z0) + (b - a) * (z - z0)) (z1 - z0))) 2), .int .u64 (wd (Int.natAbs (rn (a * (z1 - z0) + (b - a) * (z - z0)) (z1 - z0))) 3), .bool (zs (rd (a * (z1 - z0) + (b - a) * (z - z0)) (z1 - z0))), .int .u64 (wd (Int.natAbs (rd (a * (z1 - z0) + (b - a) * (z - z0)) (z1 - z0))) 0), .int .u64 (wd (Int.natAbs (rd (a * (z1 - z0) + (b - a) * (z - z0)) (z1 - z0))) 1), .int .u64 (wd (Int.natAbs (rd (a * (z1 - z0) + (b - a) * (z - z0)) (z1 - z0))) 2), .int .u64 (wd (Int.natAbs (rd (a * (z1 - z0) + (b - a) * (z - z0)) (z1 - z0))) 3)]) ∧ Below w.heap.size w w' := by
  obtain ⟨d, hd⟩ : ∃ d, d = z1 - z0 := ⟨_, rfl⟩
  obtain ⟨p, hp⟩ : ∃ p, p = a * d := ⟨_, rfl⟩
  obtain ⟨q, hq⟩ : ∃ q, q = (b - a) * (z - z0) := ⟨_, rfl⟩
  have b1 : 0 ≤ a * d := Int.mul_nonneg ha (by omega)
  have b2 : a * d ≤ 32768 * 4096 := Int.mul_le_mul ha' (by omega) (by omega) (by omega)
  have b3 : (b - a) * (z - z0) ≤ 32768 * 4096 := by
    rcases Int.le_total 0 (b - a) with h | h
    · exact Int.mul_le_mul (by omega) (by omega) (by omega) (by omega)
    · have := Int.mul_nonneg (show 0 ≤ -(b - a) by omega) (show 0 ≤ z - z0 by omega)
      rw [Int.neg_mul] at this; omega
  have b4 : -(32768 * 4096) ≤ (b - a) * (z - z0) := by
    rcases Int.le_total 0 (b - a) with h | h
    · have := Int.mul_nonneg h (show 0 ≤ z - z0 by omega); omega
    · have := Int.mul_le_mul (show -(b - a) ≤ 32768 by omega) (show z - z0 ≤ 4096 by omega) (by omega) (by omega)
      rw [Int.neg_mul] at this; omega
  have O := Lib.hid (fun w hT => hof_any (p + q) d (by omega) (by omega) (by omega) (by omega) w hT)
  rw [← hd, ← hp, ← hq]
  have hw : IntKind.i64.wrap (z1 - z0) = d := by rw [IntKind.wrap_i64]; omega
  have hk1 : IntKind.i64.wrap ((k : Int) + 1) = ((k + 1 : Nat) : Int) := by rw [IntKind.wrap_i64]; omega
  rw [← hp] at b1 b2
  rw [← hq] at b3 b4
  have HT := Lib.hid hT
  have hlt : ((k + 1 : Nat) : Int) < (nz : Int) := by omega
  have hlt0 : (k : Int) < (nz : Int) := by omega
  have m1 : a * d = p := hp.symm
  have m2 : (b - a) * (z - z0) = q := hq.symm
  clear hT hp hq hd
  generalize rn (p + q) d = x' at *
  generalize rd (p + q) d = y' at *
  go_enter Tryd.func49, Tryd.ntmps49
  go_upto_region 1 with (fail)
  go_region
  go_wp2_with fail
  ((with_reducible refine (O.out _ (HT.out.later (by (repeat' (first | (with_reducible exact Below.refl _ _) | (with_reducible assumption) | (with_reducible refine below_alloc ?_ _) | (with_reducible refine Below.drew ?_) | (with_reducible refine Below.setCell ?_ ?_ _) | (with_reducible refine below_after ?_ (by assumption)) | go_size))))).mono ?_); rintro e w1 ⟨rfl, hb1⟩)
  obtain ⟨hc1, hf1⟩ := bcell hb1
  have hz1 : w.heap.size + 1 < w1.heap.size := by have h := hb1.size; simp at h; omega
  go_wp2_with ((with_reducible show bodyPost _ _ _ _ _ _); refine bodyPost_ret (by simp [results, Tryd.results49, go_sem, hc1, hf1, hz1]; try rfl) rfl ?_; exact ⟨rfl, by (repeat' (first | (with_reducible exact Below.refl _ _) | (with_reducible assumption) | (with_reducible refine below_alloc ?_ _) | (with_reducible refine Below.drew ?_) | (with_reducible refine Below.setCell ?_ ?_ _) | (with_reducible refine below_after ?_ (by assumption)) | go_size))⟩)
/-- The half-breadth at a station and a height: numerator and denominator before they are reduced. -/
@[irreducible] def hfN (Z : List Int) (l : List Int) (z : Int) (k : Nat) : Int := if ix Z k = z then ix l k else ix l k * (ix Z (k + 1) - ix Z k) + (ix l (k + 1) - ix l k) * (z - ix Z k)
@[irreducible] def hfD (Z : List Int) (z : Int) (k : Nat) : Int := if ix Z k = z then 1 else ix Z (k + 1) - ix Z k
set_option maxHeartbeats 2000000 in
/-- half: the half-breadth at a station and a right height. -/
theorem half_any (ax az ah : Option Addr) (cx cz ch : Nat) (A : Nat → Option Addr) (C : Nat → Nat) (X Z : List Int) (H : List (List Int)) (i : Nat) (z : Int) (hv : Fine X Z H) (hi : i < X.length) (h0 : 0 ≤ z) (hz : z ≤ ix Z (Z.length - 1)) (w : World) (hf : Frm w ax az ah A C X Z H) (hT : Tab64 w) :
    Calls Tryd.prog 39 #[.agg #[.slice ax X.length cx, .slice az Z.length cz, .slice ah H.length ch], .int .i64 (i : Int), .int .i64 z] w fun e w' => e = .returned (.agg #[.bool (zs (rn (hfN Z (row H i) z (bandN Z z (Z.length - 1))) (hfD Z z (bandN Z z (Z.length - 1))))), .int .u64 (wd (Int.natAbs (rn (hfN Z (row H i) z (bandN Z z (Z.length - 1))) (hfD Z z (bandN Z z (Z.length - 1))))) 0), .int .u64 (wd (Int.natAbs (rn (hfN Z (row H i) z (bandN Z z (Z.length - 1))) (hfD Z z (bandN Z z (Z.length - 1))))) 1), .int .u64 (wd (Int.natAbs (rn (hfN Z (row H i) z (bandN Z z (Z.length - 1))) (hfD Z z (bandN Z z (Z.length - 1))))) 2), .int .u64 (wd (Int.natAbs (rn (hfN Z (row H i) z (bandN Z z (Z.length - 1))) (hfD Z z (bandN Z z (Z.length - 1))))) 3), .bool (zs (rd (hfN Z (row H i) z (bandN Z z (Z.length - 1))) (hfD Z z (bandN Z z (Z.length - 1))))), .int .u64 (wd (Int.natAbs (rd (hfN Z (row H i) z (bandN Z z (Z.length - 1))) (hfD Z z (bandN Z z (Z.length - 1))))) 0), .int .u64 (wd (Int.natAbs (rd (hfN Z (row H i) z (bandN Z z (Z.length - 1))) (hfD Z z (bandN Z z (Z.length - 1))))) 1), .int .u64 (wd (Int.natAbs (rd (hfN Z (row H i) z (bandN Z z (Z.length - 1))) (hfD Z z (bandN Z z (Z.length - 1))))) 2), .int .u64 (wd (Int.natAbs (rd (hfN Z (row H i) z (bandN Z z (Z.length - 1))) (hfD Z z (bandN Z z (Z.length - 1))))) 3)]) ∧ Below w.heap.size w w' := by
  have z2 := hv.z2
  have z16 := hv.z16
  have hl := hv.hl
  have hrl := hv.hr i (by omega)
  have B := Lib.hid (fun W hF => band_any ax az ah cx cz ch A C X Z H z hv h0 W hF)
  have k1 := bandN_le Z z (Z.length - 1)
  have k2 := bandN_low Z z (by rw [hv.z0]; exact h0) (Z.length - 1)
  have k3 := bandN_high Z z (Z.length - 1)
  obtain ⟨bz, oz, rfl, hzi⟩ := hf.z (by omega)
  obtain ⟨bh, oh, rfl, hri⟩ := hf.h (by omega)
  have hrc := hri.cell i (by omega)
  obtain ⟨rb, ro, ea, hrow⟩ := hri.row i (by omega) (by omega)
  rw [ea, hrl] at hrc
  have HF := Lib.hid hf
  generalize bandN Z z (Z.length - 1) = k at *
  have hkz : k < Z.length := by omega
  have r0 := hv.hv i (by omega) k hkz
  have cz0 := hzi.cell k hkz
  have ch0 := hrow.cell k (by omega)
  have lz := hzi.lt
  have lh := hri.lt
  have lr := hrow.lt
  have HT := Lib.hid hT
  by_cases he : ix Z k = z
  · have e1 : hfN Z (row H i) z k = ix (row H i) k := by unfold hfN; rw [if_pos he]
    have e2 : hfD Z z k = 1 := by unfold hfD; rw [if_pos he]
    rw [e1, e2]
    have O := Lib.hid (fun w hT => hof_any (ix (row H i) k) 1 (by omega) (by omega) (by omega) (by omega) w hT)
    rw [he] at cz0
    have hiH : (i : Int) < (H.length : Int) := by omega
    have hkZ : (k : Int) < (Z.length : Int) := by omega
    generalize rn (ix (row H i) k) 1 = x' at *
    generalize rd (ix (row H i) k) 1 = y' at *
    generalize ix (row H i) k = v at *
    clear e1 e2 he hf hzi hri hrow hT k3 hv hl hrl ea r0
    go_enter Tryd.func39, Tryd.ntmps39
    go_wp2_with fail
    ((with_reducible refine (B.out _ (HF.out.later (by (repeat' (first | (with_reducible exact Below.refl _ _) | (with_reducible assumption) | (with_reducible refine below_alloc ?_ _) | (with_reducible refine Below.drew ?_) | (with_reducible refine Below.setCell ?_ ?_ _) | (with_reducible refine below_after ?_ (by assumption)) | go_size))))).mono ?_); rintro e w1 ⟨rfl, hb1⟩)
    obtain ⟨hc1, hf1⟩ := bcell hb1
    have hz1_w_0 : w.heap.size < w1.heap.size := by have h := hb1.size; (try simp at h); omega
    have hz1_w_1 : w.heap.size + 1 < w1.heap.size := by have h := hb1.size; (try simp at h); omega
    have hB1 : Below w.heap.size w w1 := by (repeat' (first | (with_reducible exact Below.refl _ _) | (with_reducible assumption) | (with_reducible refine below_alloc ?_ _) | (with_reducible refine Below.drew ?_) | (with_reducible refine Below.setCell ?_ ?_ _) | (with_reducible refine below_after ?_ (by assumption)) | go_size))
    have d0 := (hB1.cell (p := ⟨bz, oz + k, none⟩) lz).trans cz0
    have d1 := (hB1.cell (p := ⟨bh, oh + i, none⟩) lh).trans hrc
    have d2 := (hB1.cell (p := ⟨rb, ro + k, none⟩) lr).trans ch0
    go_wp2_with fail
    ((with_reducible refine (O.out _ (HT.out.later (by (repeat' (first | (with_reducible exact Below.refl _ _) | (with_reducible assumption) | (with_reducible refine below_alloc ?_ _) | (with_reducible refine Below.drew ?_) | (with_reducible refine Below.setCell ?_ ?_ _) | (with_reducible refine below_after ?_ (by assumption)) | go_size))))).mono ?_); rintro e w2 ⟨rfl, hb2⟩)
    obtain ⟨hc2, hf2⟩ := bcell hb2
    have hz2_w_0 : w.heap.size < w2.heap.size := by have h := hb2.size; (try simp at h); omega
    have hz2_w_1 : w.heap.size + 1 < w2.heap.size := by have h := hb2.size; (try simp at h); omega
    go_wp2_with ((with_reducible show bodyPost _ _ _ _ _ _); refine bodyPost_ret (by simp [results, Tryd.results39, go_sem, hc1, hf1, hz1_w_0, hz1_w_1, hc2, hf2, hz2_w_0, hz2_w_1]; try rfl) rfl ?_; exact ⟨rfl, by (repeat' (first | (with_reducible exact Below.refl _ _) | (with_reducible assumption) | (with_reducible refine below_alloc ?_ _) | (with_reducible refine Below.drew ?_) | (with_reducible refine Below.setCell ?_ ?_ _) | (with_reducible refine below_after ?_ (by assumption)) | go_size))⟩)
  · have hk1 : k + 1 < Z.length := by
      rcases Nat.lt_or_ge (k + 1) Z.length with h | h
      · exact h
      · have : k = Z.length - 1 := by omega
        subst this; omega
    have z3 := k3 (k + 1) (by omega) (by omega)
    have r1 := hv.hv i (by omega) (k + 1) hk1
    have q0 := hv.zr k hkz
    have q1 := hv.zr (k + 1) hk1
    have q2 := hv.za k hk1
    have cz1 := hzi.cell (k + 1) hk1
    have ch1 := hrow.cell (k + 1) (by omega)
    have e1 : hfN Z (row H i) z k = ix (row H i) k * (ix Z (k + 1) - ix Z k) + (ix (row H i) (k + 1) - ix (row H i) k) * (z - ix Z k) := by unfold hfN; rw [if_neg he]
    have e2 : hfD Z z k = ix Z (k + 1) - ix Z k := by unfold hfD; rw [if_neg he]
    have L := Lib.hid (fun w h1 h2 h3 hT => level_any ax (some ⟨bh, oh, none⟩) bz oz cx cz ch X.length Z.length H.length k z (ix (row H i) k) (ix (row H i) (k + 1)) (ix Z k) (ix Z (k + 1)) q0.1 q2 q1.2 k2 (by omega) r0.1 (by omega) r1.1 (by omega) hk1 z16 w h1 h2 h3 hT)
    rw [← e1, ← e2] at L
    have LK := Lib.hid (fun (W : World) (h1 : bz < W.heap.size) h2 h3 (hT : Tab64 W) (x : World) (kk : Kp W.heap.size [] W x) => L.out x (Nat.lt_of_lt_of_le h1 kk.size) ((kk.cell _ _ h1 (by simp)).trans h2) ((kk.cell _ _ h1 (by simp)).trans h3) (hT.kp kk))
    clear L
    have hiH : (i : Int) < (H.length : Int) := by omega
    have hkZ : ((k + 1 : Nat) : Int) < (Z.length : Int) := by omega
    have hkZ0 : (k : Int) < (Z.length : Int) := by omega
    have hkZ1 : (k : Int) + 1 < (Z.length : Int) := by omega
    have hkZ2 : (0 : Int) ≤ (k : Int) + 1 := by omega
    have hkZ3 : ((k : Int) + 1).toNat = k + 1 := by omega
    have hk1w : IntKind.i64.wrap ((k : Int) + 1) = ((k + 1 : Nat) : Int) := by rw [IntKind.wrap_i64]; omega
    generalize rn (hfN Z (row H i) z k) (hfD Z z k) = x' at *
    generalize rd (hfN Z (row H i) z k) (hfD Z z k) = y' at *
    generalize ix (row H i) k = v0 at *
    generalize ix (row H i) (k + 1) = v1 at *
    generalize ix Z k = u0 at *
    generalize ix Z (k + 1) = u1 at *
    have hne : ¬ u0 = z := he
    clear e1 e2 he hf hzi hri hrow hT k3 hv hl hrl ea r0 r1
    go_enter Tryd.func39, Tryd.ntmps39
    go_wp2_with fail
    ((with_reducible refine (B.out _ (HF.out.later (by (repeat' (first | (with_reducible exact Below.refl _ _) | (with_reducible assumption) | (with_reducible refine below_alloc ?_ _) | (with_reducible refine Below.drew ?_) | (with_reducible refine Below.setCell ?_ ?_ _) | (with_reducible refine below_after ?_ (by assumption)) | go_size))))).mono ?_); rintro e w1 ⟨rfl, hb1⟩)
    obtain ⟨hc1, hf1⟩ := bcell hb1
    have hz1_w_0 : w.heap.size < w1.heap.size := by have h := hb1.size; (try simp at h); omega
    have hz1_w_1 : w.heap.size + 1 < w1.heap.size := by have h := hb1.size; (try simp at h); omega
    have hB1 : Below w.heap.size w w1 := by (repeat' (first | (with_reducible exact Below.refl _ _) | (with_reducible assumption) | (with_reducible refine below_alloc ?_ _) | (with_reducible refine Below.drew ?_) | (with_reducible refine Below.setCell ?_ ?_ _) | (with_reducible refine below_after ?_ (by assumption)) | go_size))
    have d0 := (hB1.cell (p := ⟨bz, oz + k, none⟩) lz).trans cz0
    have d1 := (hB1.cell (p := ⟨bh, oh + i, none⟩) lh).trans hrc
    have d2 := (hB1.cell (p := ⟨rb, ro + k, none⟩) lr).trans ch0
    have d3 := (hB1.cell (p := ⟨bz, oz + (k + 1), none⟩) lz).trans cz1
    have d4 := (hB1.cell (p := ⟨rb, ro + (k + 1), none⟩) lr).trans ch1
    have lz1 := keep_lt hB1 lz
    go_upto_region 4 with (fail)
    refine wp_world (fun x => (∀ o, x.cell? ⟨w.heap.size, o, none⟩ = (#[.slice ax X.length cx, .slice (some ⟨bz, oz, none⟩) Z.length cz, .slice (some ⟨bh, oh, none⟩) H.length ch] : Array Value)[o]?) ∧ (∀ o, x.cell? ⟨w.heap.size + 1, o, none⟩ = (#[.bool false, .int .u64 0, .int .u64 0, .int .u64 0, .int .u64 0, .bool false, .int .u64 0, .int .u64 0, .int .u64 0, .int .u64 0] : Array Value)[o]?) ∧ (∀ o, x.frozen? ⟨w.heap.size, o, none⟩ = false) ∧ (∀ o, x.frozen? ⟨w.heap.size + 1, o, none⟩ = false) ∧ w.heap.size < x.heap.size ∧ w.heap.size + 1 < x.heap.size ∧ Below w1.heap.size w1 x) ⟨fun o => by simp [go_sem, hc1, hf1, hz1_w_0, hz1_w_1], fun o => by simp [go_sem, hc1, hf1, hz1_w_0, hz1_w_1], fun o => by simp [go_sem, hc1, hf1, hz1_w_0, hz1_w_1], fun o => by simp [go_sem, hc1, hf1, hz1_w_0, hz1_w_1], by (first | omega | (simp [go_sem, hc1, hf1, hz1_w_0, hz1_w_1]; done) | (simp [go_sem, hc1, hf1, hz1_w_0, hz1_w_1]; omega)), by (first | omega | (simp [go_sem, hc1, hf1, hz1_w_0, hz1_w_1]; done) | (simp [go_sem, hc1, hf1, hz1_w_0, hz1_w_1]; omega)), by (repeat' (first | (with_reducible exact Below.refl _ _) | (with_reducible assumption) | (with_reducible refine below_alloc ?_ _) | (with_reducible refine Below.drew ?_) | (with_reducible refine Below.setCell ?_ ?_ _) | (with_reducible refine below_after ?_ (by assumption)) | go_size))⟩ ?_
    rintro G ⟨hGc0, hGc1, hGf0, hGf1, hGz0, hGz1, hGb⟩
    have hGw := below_after hB1 hGb
    have p1 := (hGb.cell (p := ⟨bh, oh + i, none⟩) (keep_lt hB1 lh)).trans d1
    have p2 := (hGb.cell (p := ⟨rb, ro + k, none⟩) (keep_lt hB1 lr)).trans d2
    have p3 := (hGb.cell (p := ⟨rb, ro + (k + 1), none⟩) (keep_lt hB1 lr)).trans d4
    have p4 := (hGb.cell (p := ⟨bz, oz + k, none⟩) lz1).trans d0
    have p5 := (hGb.cell (p := ⟨bz, oz + (k + 1), none⟩) lz1).trans d3
    have y0 := keep_lt hGw lz
    have y1 := keep_lt hGw lh
    have y2 := keep_lt hGw lr
    clear hb1 hc1 hf1 d0 d1 d2 d3 d4 hB1 lz1 cz0 hrc ch0 cz1 ch1 hGb
    refine wp_world (fun x => (∀ o, x.cell? ⟨w.heap.size, o, none⟩ = (#[.slice ax X.length cx, .slice (some ⟨bz, oz, none⟩) Z.length cz, .slice (some ⟨bh, oh, none⟩) H.length ch] : Array Value)[o]?) ∧ (x.cell? ⟨bh, oh + i, none⟩ = some (.slice (some ⟨rb, ro, none⟩) Z.length (C i))) ∧ (x.cell? ⟨rb, ro + k, none⟩ = some (.int .i64 v0)) ∧ (x.cell? ⟨rb, ro + (k + 1), none⟩ = some (.int .i64 v1)) ∧ (x.cell? ⟨bz, oz + k, none⟩ = some (.int .i64 u0)) ∧ (x.cell? ⟨bz, oz + (k + 1), none⟩ = some (.int .i64 u1)) ∧ (∀ o, x.cell? ⟨w.heap.size + 1, o, none⟩ = (#[.bool false, .int .u64 0, .int .u64 0, .int .u64 0, .int .u64 0, .bool false, .int .u64 0, .int .u64 0, .int .u64 0, .int .u64 0] : Array Value)[o]?) ∧ (∀ o, x.frozen? ⟨w.heap.size + 1, o, none⟩ = false) ∧ w.heap.size < x.heap.size ∧ bh < x.heap.size ∧ rb < x.heap.size ∧ bz < x.heap.size ∧ w.heap.size + 1 < x.heap.size ∧ Below w.heap.size w x) ⟨fun o => by first | (simp [go_sem, hGc0, hGc1, hGf1, hGz0, hGz1, p1, p2, p3, p4, p5, y0, y1, y2]; done) | (rcases o with _ | _ | _ | _ | _ | o <;> simp [go_sem, hGc0, hGc1, hGf1, hGz0, hGz1, p1, p2, p3, p4, p5, y0, y1, y2]), by simp [go_sem, hGc0, hGc1, hGf1, hGz0, hGz1, p1, p2, p3, p4, p5, y0, y1, y2], by simp [go_sem, hGc0, hGc1, hGf1, hGz0, hGz1, p1, p2, p3, p4, p5, y0, y1, y2], by simp [go_sem, hGc0, hGc1, hGf1, hGz0, hGz1, p1, p2, p3, p4, p5, y0, y1, y2], by simp [go_sem, hGc0, hGc1, hGf1, hGz0, hGz1, p1, p2, p3, p4, p5, y0, y1, y2], by simp [go_sem, hGc0, hGc1, hGf1, hGz0, hGz1, p1, p2, p3, p4, p5, y0, y1, y2], fun o => by first | (simp [go_sem, hGc0, hGc1, hGf1, hGz0, hGz1, p1, p2, p3, p4, p5, y0, y1, y2]; done) | (rcases o with _ | _ | _ | _ | _ | o <;> simp [go_sem, hGc0, hGc1, hGf1, hGz0, hGz1, p1, p2, p3, p4, p5, y0, y1, y2]), fun o => by simp [go_sem, hGc0, hGc1, hGf1, hGz0, hGz1, p1, p2, p3, p4, p5, y0, y1, y2], by (first | omega | (simp [go_sem, hGc0, hGc1, hGf1, hGz0, hGz1, p1, p2, p3, p4, p5, y0, y1, y2]; done) | (simp [go_sem, hGc0, hGc1, hGf1, hGz0, hGz1, p1, p2, p3, p4, p5, y0, y1, y2]; omega)), by (first | omega | (simp [go_sem, hGc0, hGc1, hGf1, hGz0, hGz1, p1, p2, p3, p4, p5, y0, y1, y2]; done) | (simp [go_sem, hGc0, hGc1, hGf1, hGz0, hGz1, p1, p2, p3, p4, p5, y0, y1, y2]; omega)), by (first | omega | (simp [go_sem, hGc0, hGc1, hGf1, hGz0, hGz1, p1, p2, p3, p4, p5, y0, y1, y2]; done) | (simp [go_sem, hGc0, hGc1, hGf1, hGz0, hGz1, p1, p2, p3, p4, p5, y0, y1, y2]; omega)), by (first | omega | (simp [go_sem, hGc0, hGc1, hGf1, hGz0, hGz1, p1, p2, p3, p4, p5, y0, y1, y2]; done) | (simp [go_sem, hGc0, hGc1, hGf1, hGz0, hGz1, p1, p2, p3, p4, p5, y0, y1, y2]; omega)), by (first | omega | (simp [go_sem, hGc0, hGc1, hGf1, hGz0, hGz1, p1, p2, p3, p4, p5, y0, y1, y2]; done) | (simp [go_sem, hGc0, hGc1, hGf1, hGz0, hGz1, p1, p2, p3, p4, p5, y0, y1, y2]; omega)), by (repeat' (first | (with_reducible exact Below.refl _ _) | (with_reducible assumption) | (with_reducible refine below_alloc ?_ _) | (with_reducible refine Below.drew ?_) | (with_reducible refine Below.setCell ?_ ?_ _) | (with_reducible refine below_after ?_ (by assumption)) | go_size))⟩ ?_
    rintro W ⟨hWc0, hWc1, hWc2, hWc3, hWc4, hWc5, hWc6, hWf0, hWz0, hWz1, hWz2, hWz3, hWz4, hWb⟩
    have hWK := Lib.hid (show ∀ x : World, Kp W.heap.size [w.heap.size + 1] W x → ((∀ o, x.cell? ⟨w.heap.size, o, none⟩ = (#[.slice ax X.length cx, .slice (some ⟨bz, oz, none⟩) Z.length cz, .slice (some ⟨bh, oh, none⟩) H.length ch] : Array Value)[o]?) ∧ (x.cell? ⟨bh, oh + i, none⟩ = some (.slice (some ⟨rb, ro, none⟩) Z.length (C i))) ∧ (x.cell? ⟨rb, ro + k, none⟩ = some (.int .i64 v0)) ∧ (x.cell? ⟨rb, ro + (k + 1), none⟩ = some (.int .i64 v1)) ∧ (x.cell? ⟨bz, oz + k, none⟩ = some (.int .i64 u0)) ∧ (x.cell? ⟨bz, oz + (k + 1), none⟩ = some (.int .i64 u1)) ∧ (∀ o, x.frozen? ⟨w.heap.size + 1, o, none⟩ = false) ∧ w.heap.size < x.heap.size ∧ bh < x.heap.size ∧ rb < x.heap.size ∧ bz < x.heap.size ∧ w.heap.size + 1 < x.heap.size ∧ W.heap.size ≤ x.heap.size) from fun x k => ⟨fun o => (k.cell _ o hWz0 (by first | (simp; done) | (simp; omega))).trans (hWc0 o), (k.cell _ _ hWz1 (by first | (simp; done) | (simp; omega))).trans hWc1, (k.cell _ _ hWz2 (by first | (simp; done) | (simp; omega))).trans hWc2, (k.cell _ _ hWz2 (by first | (simp; done) | (simp; omega))).trans hWc3, (k.cell _ _ hWz3 (by first | (simp; done) | (simp; omega))).trans hWc4, (k.cell _ _ hWz3 (by first | (simp; done) | (simp; omega))).trans hWc5, fun o => (k.froz _ o hWz4).trans (hWf0 o), Nat.lt_of_lt_of_le hWz0 k.size, Nat.lt_of_lt_of_le hWz1 k.size, Nat.lt_of_lt_of_le hWz2 k.size, Nat.lt_of_lt_of_le hWz3 k.size, Nat.lt_of_lt_of_le hWz4 k.size, k.size⟩)
    go_region_held3 (fun x => (∀ o, x.cell? ⟨w.heap.size, o, none⟩ = (#[.slice ax X.length cx, .slice (some ⟨bz, oz, none⟩) Z.length cz, .slice (some ⟨bh, oh, none⟩) H.length ch] : Array Value)[o]?) ∧ (x.cell? ⟨bh, oh + i, none⟩ = some (.slice (some ⟨rb, ro, none⟩) Z.length (C i))) ∧ (x.cell? ⟨rb, ro + k, none⟩ = some (.int .i64 v0)) ∧ (x.cell? ⟨rb, ro + (k + 1), none⟩ = some (.int .i64 v1)) ∧ (x.cell? ⟨bz, oz + k, none⟩ = some (.int .i64 u0)) ∧ (x.cell? ⟨bz, oz + (k + 1), none⟩ = some (.int .i64 u1)) ∧ (∀ o, x.frozen? ⟨w.heap.size + 1, o, none⟩ = false) ∧ w.heap.size < x.heap.size ∧ bh < x.heap.size ∧ rb < x.heap.size ∧ bz < x.heap.size ∧ w.heap.size + 1 < x.heap.size ∧ W.heap.size ≤ x.heap.size) ((refine hWK.out _ ?_; (repeat (first | (with_reducible assumption) | (with_reducible exact Kp.refl (Nat.le_refl _)) | (with_reducible refine Kp.drew ?_) | (with_reducible refine Kp.alloc ?_ _) | ((with_reducible refine Kp.put ?_ ?_ _); focus (first | (left; go_size; done) | (right; simp; done))) | ((with_reducible apply Kp.later); (with_reducible assumption)))))) ((first | (go_at_call 49; (with_reducible refine (LK.out W hWz3 hWc4 hWc5 (HT.out.later hWb) _ (by (repeat (first | (with_reducible assumption) | (with_reducible exact Kp.refl (Nat.le_refl _)) | (with_reducible refine Kp.drew ?_) | (with_reducible refine Kp.alloc ?_ _) | ((with_reducible refine Kp.put ?_ ?_ _); focus (first | (left; go_size; done) | (right; simp; done))) | ((with_reducible apply Kp.later); (with_reducible assumption)))))).mono ?_); rintro e W_1 ⟨rfl, hbW_1⟩; have hkW_1 : Kp W.heap.size [] W W_1 := (by (repeat (first | (with_reducible assumption) | (with_reducible exact Kp.refl (Nat.le_refl _)) | (with_reducible refine Kp.drew ?_) | (with_reducible refine Kp.alloc ?_ _) | ((with_reducible refine Kp.put ?_ ?_ _); focus (first | (left; go_size; done) | (right; simp; done))) | ((with_reducible apply Kp.later); (with_reducible assumption))))); have hW_1c6 := fun o => (hkW_1.cell _ o hWz4 (by simp)).trans (hWc6 o); have hW_1f0 := fun o => (hkW_1.froz _ o hWz4).trans (hWf0 o); have hW_1z4 := Nat.lt_of_lt_of_le hWz4 hkW_1.size)))
    go_wp2_with ((with_reducible show bodyPost _ _ _ _ _ _); refine bodyPost_ret (by simp [results, Tryd.results39, go_sem, hW_1c6, hW_1z4]; try rfl) rfl ?_; exact ⟨rfl, by (repeat' (first | (with_reducible exact Below.refl _ _) | (with_reducible assumption) | (with_reducible refine below_alloc ?_ _) | (with_reducible refine Below.drew ?_) | (with_reducible refine Below.setCell ?_ ?_ _) | (with_reducible refine below_after ?_ (by assumption)) | go_size))⟩)
end Go.Proofs.YtfmmnnodihpgmaaDoor
