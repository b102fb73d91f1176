/-
  What the maker's sides does.
-/
import Derived.Test.YtfmmnnodihpgmaaDoorMeshA
namespace Go.Proofs.YtfmmnnodihpgmaaDoor
set_option linter.all false
open Go Go.RowKit Wd
set_option maxRecDepth 100000
def iv (l : List Int) : List Value := l.map (fun x => Value.int .i64 x)
@[irreducible] def face4 (n m : Nat) (i k : Int) : List Value := iv [pI m i k, pI m (i + 1) (k + 1), pI m (i + 1) k, pI m i k, pI m i (k + 1), pI m (i + 1) (k + 1)] ++ iv [sI n m i k, sI n m (i + 1) k, sI n m (i + 1) (k + 1), sI n m i k, sI n m (i + 1) (k + 1), sI n m i (k + 1)]
@[irreducible] def innerF (n m i k : Nat) : List Value := (List.range k).flatMap fun j : Nat => face4 n m (i : Int) (j : Int)
@[irreducible] def sidesF (n m i : Nat) : List Value := (List.range i).flatMap fun a => innerF n m a (m - 1)
theorem innerF_zero (n m i : Nat) : innerF n m i 0 = [] := by unfold innerF; rfl
theorem innerF_succ (n m i k : Nat) : innerF n m i (k + 1) = innerF n m i k ++ face4 n m (i : Int) (k : Int) := by unfold innerF; rw [List.range_succ, List.flatMap_append]; simp
theorem sidesF_zero (n m : Nat) : sidesF n m 0 = [] := by unfold sidesF; rfl
theorem sidesF_succ (n m i : Nat) : sidesF n m (i + 1) = sidesF n m i ++ innerF n m i (m - 1) := by unfold sidesF; rw [List.range_succ, List.flatMap_append]; simp
set_option maxHeartbeats 4000000 in
theorem sides_any {b0 : Nat} {w0 w : World} {B n m : Nat} {pv fv : Value} {np nf : Nat} {ps fs : List Value} (h : Mk b0 w0 w B n m pv fv np nf ps fs) (hn : n ≤ 24) (hm : m ≤ 16) (hn2 : 2 ≤ n) (hm2 : 2 ≤ m) (hnf : nf ≤ 100000) :
    Calls Tryd.prog 50 #[.pointer (some ⟨B, 0, none⟩)] w fun e w' => e = .returned (.tuple #[]) ∧ ∃ fv' nf', nf' ≤ nf + 64 * 24 ∧ Mk b0 w0 w' B n m pv fv' np nf' ps (fs ++ sidesF n m (n - 1)) := by
  have H := Lib.hid h
  have hc := h.cell
  have hi := h.hi
  clear h
  go_enter Tryd.func50, Tryd.ntmps50
  go_wp2
  go_loopg [9] n (fun gg v wr => ∃ i : Nat, i ≤ n - 1 ∧ n - i ≤ gg ∧ v = .int .i64 (i : Int) ∧ ∃ fv' nf', nf' ≤ nf + 64 * i ∧ Hid (Mk b0 w0 wr B n m pv fv' np nf' ps (fs ++ sidesF n m i)))
  case atStart => exact ⟨0, by omega, by omega, rfl, fv, nf, by omega, Lib.hid (by rw [sidesF_zero, List.append_nil]; exact H.out)⟩
  case round =>
    obtain ⟨i, hin, hgi, rfl, fv1, nf1, hnf1, HM⟩ := hrel
    by_cases hlt : i < n - 1
    · have c1 := HM.out.cell
      have c1z := HM.out.hi
      have hin' : (i : Int) < (n : Int) - 1 := by omega
      clear hc hi H
      go_wp2
      go_loopg [17] m (fun gg v wi => ∃ k : Nat, k ≤ m - 1 ∧ m - k ≤ gg ∧ v = .int .i64 (k : Int) ∧ ∃ fv' nf', nf' ≤ nf + 64 * i + 4 * k ∧ Hid (Mk b0 w0 wi B n m pv fv' np nf' ps (fs ++ (sidesF n m i ++ innerF n m i k))))
      case atStart => exact ⟨0, by omega, by omega, rfl, fv1, nf1, by omega, Lib.hid (by rw [innerF_zero, List.append_nil]; exact HM.out)⟩
      case round =>
        obtain ⟨k, hkm, hgk, rfl, fv2, nf2, hnf2, HK⟩ := hrel
        clear c1 c1z HM
        by_cases hltk : k < m - 1
        · have d1 := HK.out.cell
          have d1z := HK.out.hi
          have hkm' : (k : Int) < (m : Int) - 1 := by omega
          go_wp2_with (first | (go_at_call 82; (with_reducible refine (p_any B n m pv fv2 _ _ hm ?_ ?_ ?_ ?_ _ d1).mono ?_); (focus omega); (focus omega); (focus omega); (focus omega); rintro e w1 ⟨rfl, rfl⟩))
          ((with_reducible refine (face_any (b0 := b0) (w0 := w0) (B := B) (n := n) (m := m) (pv := pv) (fv := fv2) (np := np) (nf := nf2) (ps := ps) (fs := fs ++ (sidesF n m i ++ innerF n m i k)) (by repeat (first | (with_reducible exact HK.out) | (with_reducible refine Mk.alloc ?_ _) | (with_reducible refine Mk.drew ?_))) _ 2 (pI m i k) (pI m (i + 1) (k + 1)) (pI m (i + 1) k) (pI m i k) (pI m i (k + 1)) (pI m (i + 1) (k + 1)) (by omega) ?_).mono ?_); (focus (exact fun o => World.cell?_alloc_new _ _ _ _)); rintro e w2 ⟨rfl, fv3, hM3⟩)
          have HM3 := Lib.hid hM3
          have d3 := hM3.cell
          have d3z := hM3.hi
          clear hM3 d1 d1z HK
          go_wp2_with (first | (go_at_call 83; (with_reducible refine (s_any B n m pv fv3 _ _ hn hm ?_ ?_ ?_ ?_ _ ?_).mono ?_); (focus omega); (focus omega); (focus omega); (focus omega); (focus (exact d3)); rintro e w1 ⟨rfl, rfl⟩))
          ((with_reducible refine (face_any (b0 := b0) (w0 := w0) (B := B) (n := n) (m := m) (pv := pv) (fv := fv3) (np := np) (nf := nf2 + 2) (ps := ps) (fs := (fs ++ (sidesF n m i ++ innerF n m i k)) ++ [.int .i64 (pI m i k), .int .i64 (pI m (i + 1) (k + 1)), .int .i64 (pI m (i + 1) k), .int .i64 (pI m i k), .int .i64 (pI m i (k + 1)), .int .i64 (pI m (i + 1) (k + 1))]) (by repeat (first | (with_reducible exact HM3.out) | (with_reducible refine Mk.alloc ?_ _) | (with_reducible refine Mk.drew ?_))) _ 2 (sI n m i k) (sI n m (i + 1) k) (sI n m (i + 1) (k + 1)) (sI n m i k) (sI n m (i + 1) (k + 1)) (sI n m i (k + 1)) (by omega) ?_).mono ?_); (focus (exact fun o => World.cell?_alloc_new _ _ _ _)); rintro e w4 ⟨rfl, fv5, hM5⟩)
          have HM5 := Lib.hid hM5
          clear hM5 d3 d3z HM3
          go_wp2
          go_roundg (m - (k + 1))
          case rel =>
            refine ⟨k + 1, by omega, by omega, by go_num, fv5, nf2 + 2 + 2, by omega, Lib.hid ?_⟩
            rw [innerF_succ]
            have e : fs ++ (sidesF n m i ++ (innerF n m i k ++ face4 n m (i : Int) (k : Int))) = ((fs ++ (sidesF n m i ++ innerF n m i k)) ++ [.int .i64 (pI m i k), .int .i64 (pI m (i + 1) (k + 1)), .int .i64 (pI m (i + 1) k), .int .i64 (pI m i k), .int .i64 (pI m i (k + 1)), .int .i64 (pI m (i + 1) (k + 1))]) ++ [.int .i64 (sI n m i k), .int .i64 (sI n m (i + 1) k), .int .i64 (sI n m (i + 1) (k + 1)), .int .i64 (sI n m i k), .int .i64 (sI n m (i + 1) (k + 1)), .int .i64 (sI n m i (k + 1))] := by
              unfold face4 iv
              simp
            rw [e]
            exact HM5.out
          case measure => omega
        · obtain rfl : k = m - 1 := by omega
          have hkm' : ¬ ((m - 1 : Nat) : Int) < (m : Int) - 1 := by omega
          go_wp2
          go_roundg (n - (i + 1))
          case rel =>
            refine ⟨i + 1, by omega, by omega, by go_num, fv2, nf2, by omega, Lib.hid ?_⟩
            rw [sidesF_succ]
            exact HK.out
          case measure => omega
    · obtain rfl : i = n - 1 := by omega
      have hin' : ¬ ((n - 1 : Nat) : Int) < (n : Int) - 1 := by omega
      go_wp2
      refine bodyPost_end (by simp [results, Tryd.results50, go_sem]; try rfl) rfl ?_
      exact ⟨rfl, fv1, nf1, by omega, HM.out⟩
end Go.Proofs.YtfmmnnodihpgmaaDoor
