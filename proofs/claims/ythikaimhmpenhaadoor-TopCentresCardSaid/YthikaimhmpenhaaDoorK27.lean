/-
  What the maker's flats and ends do. (Written by wip/gen_mesh.py.)
  (Written by wip/pack.py out of XFMeshC.)
-/
import Derived.Test.YthikaimhmpenhaaDoorK26

namespace Go.Proofs.YthikaimhmpenhaaDoor
set_option linter.all false
open Go Go.RowKit Wd
set_option maxRecDepth 100000
@[irreducible] def flatsF1 (n m : Nat) (i : Nat) : List Value := [.int .i64 (sI n m (i : Int) 0), .int .i64 (pI m (i : Int) 0), .int .i64 (pI m ((i : Int) + 1) 0), .int .i64 (sI n m (i : Int) 0), .int .i64 (pI m ((i : Int) + 1) 0), .int .i64 (sI n m ((i : Int) + 1) 0)] ++ [.int .i64 (sI n m (i : Int) ((m : Int) - 1)), .int .i64 (pI m ((i : Int) + 1) ((m : Int) - 1)), .int .i64 (pI m (i : Int) ((m : Int) - 1)), .int .i64 (sI n m (i : Int) ((m : Int) - 1)), .int .i64 (sI n m ((i : Int) + 1) ((m : Int) - 1)), .int .i64 (pI m ((i : Int) + 1) ((m : Int) - 1))]
@[irreducible] def flatsF (n m i : Nat) : List Value := (List.range i).flatMap fun a : Nat => flatsF1 n m a
theorem flatsF_zero (n m : Nat) : flatsF n m 0 = [] := by unfold flatsF; rfl
theorem flatsF_succ (n m i : Nat) : flatsF n m (i + 1) = flatsF n m i ++ flatsF1 n m i := by unfold flatsF; rw [List.range_succ, List.flatMap_append]; simp
set_option maxHeartbeats 4000000 in
theorem flats_any {b0 : Nat} {w0 w : World} {B n m : Nat} {pv fv : Value} {np nf : Nat} {ps fs : List Value} (h : Mk b0 w0 w B n m pv fv np nf ps fs) (hn : n ≤ 24) (hm : m ≤ 16) (hn2 : 2 ≤ n) (hm2 : 2 ≤ m) (hnf : nf ≤ 100000) :
    Calls Tryd.prog 15 #[.pointer (some ⟨B, 0, none⟩)] w fun e w' => e = .returned (.tuple #[]) ∧ ∃ fv' nf', nf' ≤ nf + 4 * 24 ∧ Mk b0 w0 w' B n m pv fv' np nf' ps (fs ++ flatsF n m (n - 1)) := by
  have H := Lib.hid h
  have hc := h.cell
  have hi := h.hi
  clear h
  go_enter Tryd.func15, Tryd.ntmps15
  go_wp2
  go_loopg [9] n (fun gg v wr => ∃ i : Nat, i ≤ n - 1 ∧ n - i ≤ gg ∧ v = .int .i64 (i : Int) ∧ ∃ fv' nf', nf' ≤ nf + 4 * i ∧ Hid (Mk b0 w0 wr B n m pv fv' np nf' ps (fs ++ flatsF n m i)))
  case atStart => exact ⟨0, by omega, by omega, rfl, fv, nf, by omega, Lib.hid (by rw [flatsF_zero, List.append_nil]; exact H.out)⟩
  case round =>
    obtain ⟨i, hin, hgi, rfl, fv2, nf2, hnf2, HK⟩ := hrel
    by_cases hlt : i < n - 1
    · have d1 := HK.out.cell
      have d1z := HK.out.hi
      have hin' : (i : Int) < (n : Int) - 1 := by omega
      clear hc hi H
      go_wp2_with (first | (go_at_call 35; (with_reducible refine (p_any B n m pv fv2 _ _ hm ?_ ?_ ?_ ?_ _ ?_).mono ?_); (focus omega); (focus omega); (focus omega); (focus omega); (focus (exact d1)); rintro e w1 ⟨rfl, rfl⟩) | (go_at_call 36; (with_reducible refine (s_any B n m pv fv2 _ _ hn hm ?_ ?_ ?_ ?_ _ ?_).mono ?_); (focus omega); (focus omega); (focus omega); (focus omega); (focus (exact d1)); rintro e w1 ⟨rfl, rfl⟩))
      ((with_reducible refine (face_any (b0 := b0) (w0 := w0) (B := B) (n := n) (m := m) (pv := pv) (fv := fv2) (np := np) (nf := nf2) (ps := ps) (fs := fs ++ flatsF n m i) (by repeat (first | (with_reducible exact HK.out) | (with_reducible refine Mk.alloc ?_ _) | (with_reducible refine Mk.drew ?_))) _ 2 (sI n m (i : Int) 0) (pI m (i : Int) 0) (pI m ((i : Int) + 1) 0) (sI n m (i : Int) 0) (pI m ((i : Int) + 1) 0) (sI n m ((i : Int) + 1) 0) (by omega) ?_).mono ?_); (focus (exact fun o => World.cell?_alloc_new _ _ _ _)); rintro e w2 ⟨rfl, fv3, hM3⟩)
      have HM3 := Lib.hid hM3
      have d3 := hM3.cell
      have d3z := hM3.hi
      clear hM3 d1 d1z HK
      go_wp2_with (first | (go_at_call 35; (with_reducible refine (p_any B n m pv fv3 _ _ hm ?_ ?_ ?_ ?_ _ ?_).mono ?_); (focus omega); (focus omega); (focus omega); (focus omega); (focus (exact d3)); rintro e w1 ⟨rfl, rfl⟩) | (go_at_call 36; (with_reducible refine (s_any B n m pv fv3 _ _ hn hm ?_ ?_ ?_ ?_ _ ?_).mono ?_); (focus omega); (focus omega); (focus omega); (focus omega); (focus (exact d3)); rintro e w1 ⟨rfl, rfl⟩))
      ((with_reducible refine (face_any (b0 := b0) (w0 := w0) (B := B) (n := n) (m := m) (pv := pv) (fv := fv3) (np := np) (nf := nf2 + 2) (ps := ps) (fs := (fs ++ flatsF n m i) ++ [.int .i64 (sI n m (i : Int) 0), .int .i64 (pI m (i : Int) 0), .int .i64 (pI m ((i : Int) + 1) 0), .int .i64 (sI n m (i : Int) 0), .int .i64 (pI m ((i : Int) + 1) 0), .int .i64 (sI n m ((i : Int) + 1) 0)]) (by repeat (first | (with_reducible exact HM3.out) | (with_reducible refine Mk.alloc ?_ _) | (with_reducible refine Mk.drew ?_))) _ 2 (sI n m (i : Int) ((m : Int) - 1)) (pI m ((i : Int) + 1) ((m : Int) - 1)) (pI m (i : Int) ((m : Int) - 1)) (sI n m (i : Int) ((m : Int) - 1)) (sI n m ((i : Int) + 1) ((m : Int) - 1)) (pI m ((i : Int) + 1) ((m : Int) - 1)) (by omega) ?_).mono ?_); (focus (exact fun o => World.cell?_alloc_new _ _ _ _)); rintro e w4 ⟨rfl, fv5, hM5⟩)
      have HM5 := Lib.hid hM5
      clear hM5 d3 d3z HM3
      go_wp2
      go_roundg (n - (i + 1))
      case rel =>
        refine ⟨i + 1, by omega, by omega, by go_num, fv5, nf2 + 2 + 2, by omega, Lib.hid ?_⟩
        rw [flatsF_succ]
        have e : fs ++ (flatsF n m i ++ flatsF1 n m i) = ((fs ++ flatsF n m i) ++ [.int .i64 (sI n m (i : Int) 0), .int .i64 (pI m (i : Int) 0), .int .i64 (pI m ((i : Int) + 1) 0), .int .i64 (sI n m (i : Int) 0), .int .i64 (pI m ((i : Int) + 1) 0), .int .i64 (sI n m ((i : Int) + 1) 0)]) ++ [.int .i64 (sI n m (i : Int) ((m : Int) - 1)), .int .i64 (pI m ((i : Int) + 1) ((m : Int) - 1)), .int .i64 (pI m (i : Int) ((m : Int) - 1)), .int .i64 (sI n m (i : Int) ((m : Int) - 1)), .int .i64 (sI n m ((i : Int) + 1) ((m : Int) - 1)), .int .i64 (pI m ((i : Int) + 1) ((m : Int) - 1))] := by
          unfold flatsF1
          simp
        rw [e]
        exact HM5.out
      case measure => omega
    · obtain rfl : i = n - 1 := by omega
      have hin' : ¬ ((n - 1 : Nat) : Int) < (n : Int) - 1 := by omega
      go_wp2
      refine bodyPost_end (by simp [results, Tryd.results15, go_sem]; try rfl) rfl ?_
      exact ⟨rfl, fv2, nf2, by omega, HK.out⟩
@[irreducible] def endsF1 (n m : Nat) (i : Nat) : List Value := [.int .i64 (sI n m 0 (i : Int)), .int .i64 (sI n m 0 ((i : Int) + 1)), .int .i64 (pI m 0 ((i : Int) + 1)), .int .i64 (sI n m 0 (i : Int)), .int .i64 (pI m 0 ((i : Int) + 1)), .int .i64 (pI m 0 (i : Int))] ++ [.int .i64 (sI n m ((n : Int) - 1) (i : Int)), .int .i64 (pI m ((n : Int) - 1) (i : Int)), .int .i64 (pI m ((n : Int) - 1) ((i : Int) + 1)), .int .i64 (sI n m ((n : Int) - 1) (i : Int)), .int .i64 (pI m ((n : Int) - 1) ((i : Int) + 1)), .int .i64 (sI n m ((n : Int) - 1) ((i : Int) + 1))]
@[irreducible] def endsF (n m i : Nat) : List Value := (List.range i).flatMap fun a : Nat => endsF1 n m a
theorem endsF_zero (n m : Nat) : endsF n m 0 = [] := by unfold endsF; rfl
theorem endsF_succ (n m i : Nat) : endsF n m (i + 1) = endsF n m i ++ endsF1 n m i := by unfold endsF; rw [List.range_succ, List.flatMap_append]; simp
set_option maxHeartbeats 4000000 in
theorem ends_any {b0 : Nat} {w0 w : World} {B n m : Nat} {pv fv : Value} {np nf : Nat} {ps fs : List Value} (h : Mk b0 w0 w B n m pv fv np nf ps fs) (hn : n ≤ 24) (hm : m ≤ 16) (hn2 : 2 ≤ n) (hm2 : 2 ≤ m) (hnf : nf ≤ 100000) :
    Calls Tryd.prog 16 #[.pointer (some ⟨B, 0, none⟩)] w fun e w' => e = .returned (.tuple #[]) ∧ ∃ fv' nf', nf' ≤ nf + 4 * 24 ∧ Mk b0 w0 w' B n m pv fv' np nf' ps (fs ++ endsF n m (m - 1)) := by
  have H := Lib.hid h
  have hc := h.cell
  have hi := h.hi
  clear h
  go_enter Tryd.func16, Tryd.ntmps16
  go_wp2
  go_loopg [9] m (fun gg v wr => ∃ i : Nat, i ≤ m - 1 ∧ m - i ≤ gg ∧ v = .int .i64 (i : Int) ∧ ∃ fv' nf', nf' ≤ nf + 4 * i ∧ Hid (Mk b0 w0 wr B n m pv fv' np nf' ps (fs ++ endsF n m i)))
  case atStart => exact ⟨0, by omega, by omega, rfl, fv, nf, by omega, Lib.hid (by rw [endsF_zero, List.append_nil]; exact H.out)⟩
  case round =>
    obtain ⟨i, hin, hgi, rfl, fv2, nf2, hnf2, HK⟩ := hrel
    by_cases hlt : i < m - 1
    · have d1 := HK.out.cell
      have d1z := HK.out.hi
      have hin' : (i : Int) < (m : Int) - 1 := by omega
      clear hc hi H
      go_wp2_with (first | (go_at_call 35; (with_reducible refine (p_any B n m pv fv2 _ _ hm ?_ ?_ ?_ ?_ _ ?_).mono ?_); (focus omega); (focus omega); (focus omega); (focus omega); (focus (exact d1)); rintro e w1 ⟨rfl, rfl⟩) | (go_at_call 36; (with_reducible refine (s_any B n m pv fv2 _ _ hn hm ?_ ?_ ?_ ?_ _ ?_).mono ?_); (focus omega); (focus omega); (focus omega); (focus omega); (focus (exact d1)); rintro e w1 ⟨rfl, rfl⟩))
      ((with_reducible refine (face_any (b0 := b0) (w0 := w0) (B := B) (n := n) (m := m) (pv := pv) (fv := fv2) (np := np) (nf := nf2) (ps := ps) (fs := fs ++ endsF n m i) (by repeat (first | (with_reducible exact HK.out) | (with_reducible refine Mk.alloc ?_ _) | (with_reducible refine Mk.drew ?_))) _ 2 (sI n m 0 (i : Int)) (sI n m 0 ((i : Int) + 1)) (pI m 0 ((i : Int) + 1)) (sI n m 0 (i : Int)) (pI m 0 ((i : Int) + 1)) (pI m 0 (i : Int)) (by omega) ?_).mono ?_); (focus (exact fun o => World.cell?_alloc_new _ _ _ _)); rintro e w2 ⟨rfl, fv3, hM3⟩)
      have HM3 := Lib.hid hM3
      have d3 := hM3.cell
      have d3z := hM3.hi
      clear hM3 d1 d1z HK
      go_wp2_with (first | (go_at_call 35; (with_reducible refine (p_any B n m pv fv3 _ _ hm ?_ ?_ ?_ ?_ _ ?_).mono ?_); (focus omega); (focus omega); (focus omega); (focus omega); (focus (exact d3)); rintro e w1 ⟨rfl, rfl⟩) | (go_at_call 36; (with_reducible refine (s_any B n m pv fv3 _ _ hn hm ?_ ?_ ?_ ?_ _ ?_).mono ?_); (focus omega); (focus omega); (focus omega); (focus omega); (focus (exact d3)); rintro e w1 ⟨rfl, rfl⟩))
      ((with_reducible refine (face_any (b0 := b0) (w0 := w0) (B := B) (n := n) (m := m) (pv := pv) (fv := fv3) (np := np) (nf := nf2 + 2) (ps := ps) (fs := (fs ++ endsF n m i) ++ [.int .i64 (sI n m 0 (i : Int)), .int .i64 (sI n m 0 ((i : Int) + 1)), .int .i64 (pI m 0 ((i : Int) + 1)), .int .i64 (sI n m 0 (i : Int)), .int .i64 (pI m 0 ((i : Int) + 1)), .int .i64 (pI m 0 (i : Int))]) (by repeat (first | (with_reducible exact HM3.out) | (with_reducible refine Mk.alloc ?_ _) | (with_reducible refine Mk.drew ?_))) _ 2 (sI n m ((n : Int) - 1) (i : Int)) (pI m ((n : Int) - 1) (i : Int)) (pI m ((n : Int) - 1) ((i : Int) + 1)) (sI n m ((n : Int) - 1) (i : Int)) (pI m ((n : Int) - 1) ((i : Int) + 1)) (sI n m ((n : Int) - 1) ((i : Int) + 1)) (by omega) ?_).mono ?_); (focus (exact fun o => World.cell?_alloc_new _ _ _ _)); rintro e w4 ⟨rfl, fv5, hM5⟩)
      have HM5 := Lib.hid hM5
      clear hM5 d3 d3z HM3
      go_wp2
      go_roundg (m - (i + 1))
      case rel =>
        refine ⟨i + 1, by omega, by omega, by go_num, fv5, nf2 + 2 + 2, by omega, Lib.hid ?_⟩
        rw [endsF_succ]
        have e : fs ++ (endsF n m i ++ endsF1 n m i) = ((fs ++ endsF n m i) ++ [.int .i64 (sI n m 0 (i : Int)), .int .i64 (sI n m 0 ((i : Int) + 1)), .int .i64 (pI m 0 ((i : Int) + 1)), .int .i64 (sI n m 0 (i : Int)), .int .i64 (pI m 0 ((i : Int) + 1)), .int .i64 (pI m 0 (i : Int))]) ++ [.int .i64 (sI n m ((n : Int) - 1) (i : Int)), .int .i64 (pI m ((n : Int) - 1) (i : Int)), .int .i64 (pI m ((n : Int) - 1) ((i : Int) + 1)), .int .i64 (sI n m ((n : Int) - 1) (i : Int)), .int .i64 (pI m ((n : Int) - 1) ((i : Int) + 1)), .int .i64 (sI n m ((n : Int) - 1) ((i : Int) + 1))] := by
          unfold endsF1
          simp
        rw [e]
        exact HM5.out
      case measure => omega
    · obtain rfl : i = m - 1 := by omega
      have hin' : ¬ ((m - 1 : Nat) : Int) < (m : Int) - 1 := by omega
      go_wp2
      refine bodyPost_end (by simp [results, Tryd.results16, go_sem]; try rfl) rfl ?_
      exact ⟨rfl, fv2, nf2, by omega, HK.out⟩
end Go.Proofs.YthikaimhmpenhaaDoor
