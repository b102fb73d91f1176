/-
  mesh.Check of a closed surface that encloses something.
-/
import Derived.Test.YtkpochkfijplaaaQMeshW
import Derived.Test.YtkpochkfijplaaaQMeshK

namespace Go.Proofs.Ytkpochkfijplaaa
set_option linter.all false
open Go Go.RowKit Wd
set_option maxRecDepth 100000
theorem cmp_pos (x : Int) (hx : 0 < x) (hn : x.natAbs < 2 ^ 200) (w : World) :
    Calls Try.prog 15 #[(.agg #[.bool (zs (x)), .int .u64 (wd (Int.natAbs (x)) 0), .int .u64 (wd (Int.natAbs (x)) 1), .int .u64 (wd (Int.natAbs (x)) 2), .int .u64 (wd (Int.natAbs (x)) 3)]), .agg #[.bool false, .int .u64 0, .int .u64 0, .int .u64 0, .int .u64 0]] w fun e w' => e = .returned (.int .i64 1) ∧ Below w.heap.size w w' := by
  have h := cmp_any (zs x) false x.natAbs 0 (by omega) (by omega) w
  rw [val_zs, show val false 0 = 0 by unfold val; rfl, cmpZ_pos hx] at h
  simp only [wd_zero] at h
  exact h
set_option maxHeartbeats 4000000 in
theorem mcheck_in (g h np nf c d : Nat) (P F : Nat → Int) (hF : ∀ j, j < nf * 3 → 0 ≤ F j ∧ F j < np) (hn : np ≤ 1024) (hnf : nf ≤ 2048) (hP : ∀ j, j < np * 3 → -32768 ≤ P j ∧ P j ≤ 32768) (hS : Shutd F nf) (hv : 0 < ps (detF P F) (fun _ => 1) nf)
    (w : World) (hr : RowI w g (np * 3) P) (lg : g < w.heap.size) (hq : RowI w h (nf * 3) F) (lh : h < w.heap.size) :
    Calls Try.prog 13 #[.agg #[.slice (some ⟨g, 0, none⟩) np c, .slice (some ⟨h, 0, none⟩) nf d]] w fun e w' => e = .returned (.int .i64 0) ∧ Below w.heap.size w w' := by
  have pb := ps_abs (detF P F) (fun _ => 1) nf (detF_abs hF hP) (fun _ _ => by omega) nf (Nat.le_refl _)
  have K1 := Lib.hid (fun (W : World) (hb : Below w.heap.size w W) => contains_in g np c P (by omega) (fun j hj => by have := hP j hj; omega) W (fun q hq' => (hb.cell (p := ⟨g, q, none⟩) lg).trans (hr q hq')) (keep_lt hb lg))
  have K2 := Lib.hid (fun (W : World) (hb : Below w.heap.size w W) => closed_any g h np nf c d F (by omega) hS W (fun q hq' => (hb.cell (p := ⟨h, q, none⟩) lh).trans (hq q hq')) (keep_lt hb lh))
  have K3 := Lib.hid (fun (W : World) (hb : Below w.heap.size w W) => vol_any g h np nf c d P F hF (by omega) (by omega) hP W (fun q hq' => (hb.cell (p := ⟨g, q, none⟩) lg).trans (hr q hq')) (keep_lt hb lg) (fun q hq' => (hb.cell (p := ⟨h, q, none⟩) lh).trans (hq q hq')) (keep_lt hb lh))
  have K4 := Lib.hid (cmp_pos _ hv (by omega))
  have HF := Lib.hid hF
  have HQ := Lib.hid hq
  clear hP hS hr hv hF hq pb
  generalize ps (detF P F) (fun _ => 1) nf = t at *
  go_enter Try.func13, Try.ntmps13
  go_wp2_with fail
  ((with_reducible refine (K1.out _ (by (repeat' (first | (with_reducible exact Below.refl _ _) | (with_reducible assumption) | (with_reducible refine below_alloc ?_ _) | (with_reducible refine Below.drew ?_) | (with_reducible refine Below.setCell ?_ ?_ _) | (with_reducible refine below_after ?_ (by assumption)) | go_size)))).mono ?_); rintro e w1 ⟨rfl, hb1⟩)
  obtain ⟨hc1, hf1⟩ := bcell hb1
  have hz1_w_0 : w.heap.size < w1.heap.size := by have h := hb1.size; (try simp at h); omega
  go_upto_region 5 with (fail)
  refine wp_world (fun x => (∀ o, x.cell? ⟨w.heap.size, o, none⟩ = (#[.slice (some ⟨g, 0, none⟩) np c, .slice (some ⟨h, 0, none⟩) nf d] : Array Value)[o]?) ∧ (∀ o, x.frozen? ⟨w.heap.size, o, none⟩ = false) ∧ w.heap.size < x.heap.size ∧ Below w.heap.size w x) ⟨fun o => by simp [go_sem, hc1, hf1, hz1_w_0], fun o => by simp [go_sem, hc1, hf1, hz1_w_0], by (first | omega | (simp [go_sem, hc1, hf1, hz1_w_0]; done) | (simp [go_sem, hc1, hf1, hz1_w_0]; omega)), by (repeat' (first | (with_reducible exact Below.refl _ _) | (with_reducible assumption) | (with_reducible refine below_alloc ?_ _) | (with_reducible refine Below.drew ?_) | (with_reducible refine Below.setCell ?_ ?_ _) | (with_reducible refine below_after ?_ (by assumption)) | go_size))⟩ ?_
  rintro G ⟨hGc0, hGf0, hGz0, hGb⟩
  clear hb1 hc1 hf1
  have HG := Lib.hid hGb
  go_wp2
  go_loopg [21] nf (fun gg v wr => ∃ j : Nat, j ≤ nf ∧ nf - j ≤ gg ∧ v = .int .i64 (j : Int) ∧ Hid ((∀ o, wr.cell? ⟨w.heap.size, o, none⟩ = (#[.slice (some ⟨g, 0, none⟩) np c, .slice (some ⟨h, 0, none⟩) nf d] : Array Value)[o]?) ∧ w.heap.size < wr.heap.size ∧ Below w.heap.size w wr))
  case atStart => exact ⟨0, by omega, by omega, rfl, Lib.hid ⟨hGc0, hGz0, hGb⟩⟩
  case round =>
    obtain ⟨j, hj, hgj, rfl, HI⟩ := hrel
    obtain ⟨hc, hz, hb⟩ := HI.out
    clear hGc0 hGf0 hGz0 hGb HI
    by_cases hlt : j < nf
    · have hjn : (j : Int) < (nf : Int) := by omega
      have hlr := keep_lt hb lh
      have f0 := (hb.cell (p := ⟨h, j * 3, none⟩) lh).trans (HQ.out (j * 3) (by omega))
      have f1 := (hb.cell (p := ⟨h, j * 3 + 1, none⟩) lh).trans (HQ.out (j * 3 + 1) (by omega))
      have f2 := (hb.cell (p := ⟨h, j * 3 + 2, none⟩) lh).trans (HQ.out (j * 3 + 2) (by omega))
      have b0 := HF.out (j * 3) (by omega)
      have b1 := HF.out (j * 3 + 1) (by omega)
      have b2 := HF.out (j * 3 + 2) (by omega)
      generalize F (j * 3) = a0 at *
      generalize F (j * 3 + 1) = a1 at *
      generalize F (j * 3 + 2) = a2 at *
      have m1 : ¬ min a0 (min a1 a2) < 0 := by omega
      have m2 : ¬ min (min a0 a1) a2 < 0 := by omega
      go_wp2
      all_goals
        go_roundg (nf - (j + 1))
        case rel => exact ⟨j + 1, by omega, by omega, by go_num, Lib.hid ⟨fun o => by simp [go_sem, hc, hz], by simp; omega, by (repeat' (first | (with_reducible exact Below.refl _ _) | (with_reducible assumption) | (with_reducible refine below_alloc ?_ _) | (with_reducible refine Below.drew ?_) | (with_reducible refine Below.setCell ?_ ?_ _) | (with_reducible refine below_after ?_ (by assumption)) | go_size))⟩⟩
        case measure => omega
    · obtain rfl : j = nf := by omega
      have hjn : ¬ (j : Int) < (j : Int) := by omega
      go_wp2_with (first
        | (go_at_call 32; (with_reducible refine (K2.out _ (by (repeat' (first | (with_reducible exact Below.refl _ _) | (with_reducible assumption) | (with_reducible refine below_alloc ?_ _) | (with_reducible refine Below.drew ?_) | (with_reducible refine Below.setCell ?_ ?_ _) | (with_reducible refine below_after ?_ (by assumption)) | go_size)))).mono ?_); rintro e w1 ⟨rfl, hb1⟩; have hc1 := keep_cell hb1 hz hc; have hz1 := keep_lt hb1 hz)
        | (go_at_call 26; (with_reducible refine (K3.out _ (by (repeat' (first | (with_reducible exact Below.refl _ _) | (with_reducible assumption) | (with_reducible refine below_alloc ?_ _) | (with_reducible refine Below.drew ?_) | (with_reducible refine Below.setCell ?_ ?_ _) | (with_reducible refine below_after ?_ (by assumption)) | go_size)))).mono ?_); rintro e w2 ⟨rfl, hb2⟩)
        | (go_at_call 15; (with_reducible refine (K4.out _).mono ?_); rintro e w3 ⟨rfl, hb3⟩))
      go_returns
      exact ⟨rfl, by (repeat' (first | (with_reducible exact Below.refl _ _) | (with_reducible assumption) | (with_reducible refine below_alloc ?_ _) | (with_reducible refine Below.drew ?_) | (with_reducible refine Below.setCell ?_ ?_ _) | (with_reducible refine below_after ?_ (by assumption)) | go_size))⟩
end Go.Proofs.Ytkpochkfijplaaa
