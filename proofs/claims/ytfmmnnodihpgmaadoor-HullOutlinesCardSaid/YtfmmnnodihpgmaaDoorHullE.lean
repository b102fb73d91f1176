/-
  What package hull's Half and Section2 return, for all forms.
-/
import Derived.Test.YtfmmnnodihpgmaaDoorHullD

namespace Go.Proofs.YtfmmnnodihpgmaaDoor
set_option linter.all false
open Go Go.RowKit Wd
set_option maxRecDepth 100000
theorem stn_rgt {X Z : List Int} {H : List (List Int)} {i z : Int} (h : stn X Z H i z = 0) : rgt X Z H z = 0 ∧ 0 ≤ i ∧ i < X.length := by
  unfold stn at h
  split at h
  · rename_i h1
    split at h
    · omega
    · rename_i h2
      have := in_of (by simpa using h2)
      exact ⟨h1, this.1, by omega⟩
  · omega
theorem rgt_fine {X Z : List Int} {H : List (List Int)} {z : Int} (h : rgt X Z H z = 0) : chk X Z H = 0 ∧ 0 ≤ z ∧ z ≤ ix Z (Z.length - 1) := by
  unfold rgt at h
  split at h
  · rename_i h1
    split at h
    · omega
    · rename_i h2
      have := in_of (by simpa using h2)
      exact ⟨h1, this.1, this.2⟩
  · omega
set_option maxHeartbeats 1000000 in
/-- Half: the error. -/
theorem Half_bad (ax az ah : Option Addr) (cx cz ch : Nat) (A : Nat → Option Addr) (C : Nat → Nat) (X Z : List Int) (H : List (List Int)) (i z : Int) (hs : stn X Z H i z ≠ 0) (w : World) (hf : Frm w ax az ah A C X Z H) :
    Calls Tryd.prog 13 #[.agg #[.slice ax X.length cx, .slice az Z.length cz, .slice ah H.length ch], .int .i64 i, .int .i64 z] w fun e w' => e = .returned (.tuple #[.agg #[.bool false, .int .u64 0, .int .u64 0, .int .u64 0, .int .u64 0, .bool false, .int .u64 0, .int .u64 0, .int .u64 0, .int .u64 0], .int .i64 (stn X Z H i z)]) ∧ Below w.heap.size w w' := by
  have K := Lib.hid (fun W hF => station_any ax az ah cx cz ch A C X Z H i z W hF)
  generalize stn X Z H i z = r at *
  have HF := Lib.hid hf
  clear hf
  go_enter Tryd.func13, Tryd.ntmps13
  go_wp2_with fail
  ((with_reducible refine (K.out _ (HF.out.later (by (repeat' (first | (with_reducible exact Below.refl _ _) | (with_reducible assumption) | (with_reducible refine below_alloc ?_ _) | (with_reducible refine Below.drew ?_) | (with_reducible refine Below.setCell ?_ ?_ _) | (with_reducible refine below_after ?_ (by assumption)) | go_size))))).mono ?_); rintro e w1 ⟨rfl, hb1⟩)
  obtain ⟨hc1, hf1⟩ := bcell hb1
  have hz1_w_0 : w.heap.size < w1.heap.size := by have h := hb1.size; (try simp at h); omega
  have hz1_w_1 : w.heap.size + 1 < w1.heap.size := by have h := hb1.size; (try simp at h); omega
  go_wp2_with ((with_reducible show bodyPost _ _ _ _ _ _); refine bodyPost_ret (by simp [results, Tryd.results13, go_sem, hc1, hf1, hz1_w_0, hz1_w_1]; try rfl) rfl ?_; exact ⟨rfl, by (repeat' (first | (with_reducible exact Below.refl _ _) | (with_reducible assumption) | (with_reducible refine below_alloc ?_ _) | (with_reducible refine Below.drew ?_) | (with_reducible refine Below.setCell ?_ ?_ _) | (with_reducible refine below_after ?_ (by assumption)) | go_size))⟩)
set_option maxHeartbeats 1000000 in
/-- Half: the half-breadth. -/
theorem Half_ok (ax az ah : Option Addr) (cx cz ch : Nat) (A : Nat → Option Addr) (C : Nat → Nat) (X Z : List Int) (H : List (List Int)) (i : Nat) (z : Int) (hs : stn X Z H i z = 0) (w : World) (hf : Frm w ax az ah A C X Z H) (hT : Tab64 w) :
    Calls Tryd.prog 13 #[.agg #[.slice ax X.length cx, .slice az Z.length cz, .slice ah H.length ch], .int .i64 (i : Int), .int .i64 z] w fun e w' => e = .returned (.tuple #[(.agg #[.bool (zs (rn (hfN Z (row H i) z (bandN Z z (Z.length - 1))) (hfD Z z (bandN Z z (Z.length - 1))))), .int .u64 (wd (Int.natAbs (rn (hfN Z (row H i) z (bandN Z z (Z.length - 1))) (hfD Z z (bandN Z z (Z.length - 1))))) 0), .int .u64 (wd (Int.natAbs (rn (hfN Z (row H i) z (bandN Z z (Z.length - 1))) (hfD Z z (bandN Z z (Z.length - 1))))) 1), .int .u64 (wd (Int.natAbs (rn (hfN Z (row H i) z (bandN Z z (Z.length - 1))) (hfD Z z (bandN Z z (Z.length - 1))))) 2), .int .u64 (wd (Int.natAbs (rn (hfN Z (row H i) z (bandN Z z (Z.length - 1))) (hfD Z z (bandN Z z (Z.length - 1))))) 3), .bool (zs (rd (hfN Z (row H i) z (bandN Z z (Z.length - 1))) (hfD Z z (bandN Z z (Z.length - 1))))), .int .u64 (wd (Int.natAbs (rd (hfN Z (row H i) z (bandN Z z (Z.length - 1))) (hfD Z z (bandN Z z (Z.length - 1))))) 0), .int .u64 (wd (Int.natAbs (rd (hfN Z (row H i) z (bandN Z z (Z.length - 1))) (hfD Z z (bandN Z z (Z.length - 1))))) 1), .int .u64 (wd (Int.natAbs (rd (hfN Z (row H i) z (bandN Z z (Z.length - 1))) (hfD Z z (bandN Z z (Z.length - 1))))) 2), .int .u64 (wd (Int.natAbs (rd (hfN Z (row H i) z (bandN Z z (Z.length - 1))) (hfD Z z (bandN Z z (Z.length - 1))))) 3)]), .int .i64 0]) ∧ Below w.heap.size w w' := by
  have K1 := fun W hF => station_any ax az ah cx cz ch A C X Z H i z W hF
  rw [hs] at K1
  have K := Lib.hid K1
  obtain ⟨h1, -, h2⟩ := stn_rgt hs
  obtain ⟨h3, h4, h5⟩ := rgt_fine h1
  have L := Lib.hid (fun W hF hT => half_any ax az ah cx cz ch A C X Z H i z (chk_fine h3) (by omega) h4 h5 W hF hT)
  generalize rn (hfN Z (row H i) z (bandN Z z (Z.length - 1))) (hfD Z z (bandN Z z (Z.length - 1))) = x' at *
  generalize rd (hfN Z (row H i) z (bandN Z z (Z.length - 1))) (hfD Z z (bandN Z z (Z.length - 1))) = y' at *
  have HF := Lib.hid hf
  have HT := Lib.hid hT
  clear hf hT K1 hs h1 h2 h3 h4 h5
  go_enter Tryd.func13, Tryd.ntmps13
  go_wp2_with fail
  ((with_reducible refine (K.out _ (HF.out.later (by (repeat' (first | (with_reducible exact Below.refl _ _) | (with_reducible assumption) | (with_reducible refine below_alloc ?_ _) | (with_reducible refine Below.drew ?_) | (with_reducible refine Below.setCell ?_ ?_ _) | (with_reducible refine below_after ?_ (by assumption)) | go_size))))).mono ?_); rintro e w1 ⟨rfl, hb1⟩)
  obtain ⟨hc1, hf1⟩ := bcell hb1
  have hz1_w_0 : w.heap.size < w1.heap.size := by have h := hb1.size; (try simp at h); omega
  have hz1_w_1 : w.heap.size + 1 < w1.heap.size := by have h := hb1.size; (try simp at h); omega
  go_wp2_with fail
  ((with_reducible refine (L.out _ (HF.out.later (by (repeat' (first | (with_reducible exact Below.refl _ _) | (with_reducible assumption) | (with_reducible refine below_alloc ?_ _) | (with_reducible refine Below.drew ?_) | (with_reducible refine Below.setCell ?_ ?_ _) | (with_reducible refine below_after ?_ (by assumption)) | go_size)))) (HT.out.later (by (repeat' (first | (with_reducible exact Below.refl _ _) | (with_reducible assumption) | (with_reducible refine below_alloc ?_ _) | (with_reducible refine Below.drew ?_) | (with_reducible refine Below.setCell ?_ ?_ _) | (with_reducible refine below_after ?_ (by assumption)) | go_size))))).mono ?_); rintro e w2 ⟨rfl, hb2⟩)
  obtain ⟨hc2, hf2⟩ := bcell hb2
  have hz2_w_0 : w.heap.size < w2.heap.size := by have h := hb2.size; (try simp at h); omega
  have hz2_w_1 : w.heap.size + 1 < w2.heap.size := by have h := hb2.size; (try simp at h); omega
  go_wp2_with ((with_reducible show bodyPost _ _ _ _ _ _); refine bodyPost_ret (by simp [results, Tryd.results13, go_sem, hc1, hf1, hz1_w_0, hz1_w_1, hc2, hf2, hz2_w_0, hz2_w_1]; try rfl) rfl ?_; exact ⟨rfl, by (repeat' (first | (with_reducible exact Below.refl _ _) | (with_reducible assumption) | (with_reducible refine below_alloc ?_ _) | (with_reducible refine Below.drew ?_) | (with_reducible refine Below.setCell ?_ ?_ _) | (with_reducible refine below_after ?_ (by assumption)) | go_size))⟩)
end Go.Proofs.YtfmmnnodihpgmaaDoor
