/-
  What the reference's small functions on hull forms return: ranged, ascending, rows, Light.
-/
import Derived.Test.YtfmmnnodihpgmaaDoorHullC
namespace Go.Proofs.YtfmmnnodihpgmaaDoor
set_option linter.all false
open Go Go.RowKit Wd
set_option maxRecDepth 100000
@[irreducible] def anyTo (m : Int) (l : List Int) (k : Nat) : Bool := (l.take k).any (out m)
theorem anyTo_zero (m : Int) (l : List Int) : anyTo m l 0 = false := by unfold anyTo; rfl
theorem anyTo_succ {m : Int} {l : List Int} {k : Nat} (hk : k < l.length) : anyTo m l (k + 1) = (anyTo m l k || out m (ix l k)) := by
  unfold anyTo; rw [List.take_succ_eq_append_getElem hk, List.any_append, ix_get hk]; simp
theorem anyTo_all (m : Int) (l : List Int) : anyTo m l l.length = anyOut m l := by unfold anyTo anyOut; rw [List.take_length]
theorem anyOut_of {m : Int} {l : List Int} {k : Nat} (hk : k < l.length) (h : out m (ix l k) = true) : anyOut m l = true := by
  unfold anyOut
  rw [List.any_eq_true]
  exact ⟨l[k], List.getElem_mem hk, by rw [← ix_get hk]; exact h⟩
set_option maxHeartbeats 1000000 in
/-- ranged: whether all numbers are from 0 to m. -/
theorem ranged_any (m : Int) (l : List Int) (a : Option Addr) (c : Nat) (hl : l.length ≤ 1000000) (w : World) (h : Has w a l) :
    Calls Tryd.prog 36 #[.slice a l.length c, .int .i64 m] w fun e w' => e = .returned (.bool (!anyOut m l)) ∧ Below w.heap.size w w' := by
  obtain ⟨r, hr⟩ : ∃ r, r = anyOut m l := ⟨_, rfl⟩
  rw [← hr]
  have HR := Lib.hid hr
  have HH := Lib.hid h
  clear h hr
  have S1 := Lib.hid (fun k (hk : k < l.length) => anyTo_succ (m := m) hk)
  have S2 := Lib.hid (fun k (hk : k < l.length) (h : out m (ix l k) = true) => HR.out.trans (anyOut_of hk h))
  have S3 := Lib.hid (anyTo_all m l)
  have hat : 0 < l.length → ∃ b o, a = some ⟨b, o, none⟩ := fun h0 => by obtain ⟨b, o, e, _⟩ := HH.out h0; exact ⟨b, o, e⟩
  by_cases hlen : 0 < l.length
  · obtain ⟨b, o, rfl, hi⟩ := HH.out hlen
    have HC := Lib.hid hi.cell
    clear hat hi HH
    generalize hn : l.length = n at *
    clear hn
    go_enter Tryd.func36, Tryd.ntmps36
    go_wp2
    go_loopw [5] (fun i wr => ∃ k : Nat, k ≤ n ∧ i = .int .i64 (k : Int) ∧ Hid (anyTo m l k = false) ∧ wr = w) (fun i _ => n - (intOf i).toNat)
    case atStart => exact ⟨0, by omega, rfl, Lib.hid (anyTo_zero _ _), rfl⟩
    case round =>
      obtain ⟨k, hk, rfl, hA, rfl⟩ := hrel
      by_cases hlt : k < n
      · have c1 := HC.out k hlt
        have s1 := S1.out k hlt
        have s2 := S2.out k hlt
        rw [hA.out] at s1
        generalize ix l k = x at *
        rcases (by omega : x < 0 ∨ (0 ≤ x ∧ m < x) ∨ (0 ≤ x ∧ x ≤ m)) with h | ⟨h, h'⟩ | ⟨h, h'⟩
        · have e1 := s2 (out_neg h)
          subst e1
          clear s1 s2
          go_wp2
          go_returns
          exact ⟨rfl, by go_grown⟩
        · have e1 := s2 (out_big h')
          subst e1
          clear s1 s2
          go_wp2
          go_returns
          exact ⟨rfl, by go_grown⟩
        · rw [out_in h h'] at s1
          have SS := Lib.hid s1
          clear s1 s2
          go_wp2
          go_roundw
          case rel => exact ⟨k + 1, by omega, by go_num, Lib.hid (by rw [SS.out]; rfl), by first | rfl | trivial⟩
          case measure => simp [intOf]; omega
      · obtain rfl : k = n := by omega
        have e1 : r = false := by rw [HR.out, ← S3.out]; exact hA.out
        subst e1
        go_wp2
        go_returns
        exact ⟨rfl, by go_grown⟩
  · have e0 : l = [] := List.length_eq_zero_iff.1 (by omega)
    subst e0
    have e1 : r = false := by rw [HR.out]; unfold anyOut; rfl
    subst e1
    go_enter Tryd.func36, Tryd.ntmps36
    go_wp2
    go_loopw [5] (fun i wr => i = .int .i64 0 ∧ wr = w) (fun i _ => 0)
    case atStart => exact ⟨rfl, rfl⟩
    case round =>
      obtain ⟨rfl, rfl⟩ := hrel
      go_wp2
      go_returns
      exact ⟨rfl, by go_grown⟩
set_option maxHeartbeats 1000000 in
/-- ascending: whether a list is strictly ascending. -/
theorem rasc_any (l : List Int) (a : Option Addr) (c : Nat) (hl : l.length ≤ 1000000) (w : World) (h : Has w a l) :
    Calls Tryd.prog 37 #[.slice a l.length c] w fun e w' => e = .returned (.bool (asc l)) ∧ Below w.heap.size w w' := by
  by_cases h0 : 0 < l.length
  · obtain ⟨b, o, rfl, hi⟩ := h h0
    have hcl := Lib.hid hi.cell
    have hlt := hi.lt
    clear hi h
    generalize hn : l.length = n at *
    have HN := Lib.hid hn
    clear hn
    go_enter Tryd.func37, Tryd.ntmps37
    go_wp2
    go_loopw [3] (fun i wr => ∃ k : Nat, 1 ≤ k ∧ k ≤ n ∧ i = .int .i64 (k : Int) ∧ Hid (ascTo l (k - 1) = true) ∧ Hid (Below w.heap.size w wr)) (fun i _ => n - (intOf i).toNat)
    case atStart => exact ⟨1, by omega, by omega, rfl, Lib.hid (ascTo_zero l), Lib.hid (by go_grown)⟩
    case round =>
      obtain ⟨k, hk1, hk, rfl, hA, hW⟩ := hrel
      obtain ⟨k, rfl⟩ : ∃ j, k = j + 1 := ⟨k - 1, by omega⟩
      by_cases hlt2 : k + 1 < n
      · have c1 : wr.cell? ⟨b, o + k, none⟩ = some (.int .i64 (ix l k)) := (hW.out.cell (p := ⟨b, o + k, none⟩) hlt).trans (hcl.out k (by omega))
        have c2 : wr.cell? ⟨b, o + (k + 1), none⟩ = some (.int .i64 (ix l (k + 1))) := (hW.out.cell (p := ⟨b, o + (k + 1), none⟩) hlt).trans (hcl.out (k + 1) hlt2)
        have H1 : ix l (k + 1) ≤ ix l k → false = asc l := fun h => (asc_not (by rw [HN.out]; exact hlt2) h).symm
        have h1 := Lib.hid H1
        have H2 : ix l k < ix l (k + 1) → ascTo l (k + 1) = true := fun h => by rw [ascTo_succ, show ascTo l k = true from hA.out]; simpa using h
        have h2 := Lib.hid H2
        clear H1 H2
        generalize ix l k = x at *
        generalize ix l (k + 1) = y at *
        go_wp2
        go_region
        go_wp2
        · go_returns
          exact ⟨ret_bool (h1.out (by assumption)), by have := hW.out; (repeat' (first | (with_reducible exact Below.refl _ _) | (with_reducible assumption) | (with_reducible refine below_alloc ?_ _) | (with_reducible refine Below.drew ?_) | (with_reducible refine Below.setCell ?_ ?_ _) | (with_reducible refine below_after ?_ (by assumption)) | go_size))⟩
        · go_roundw
          case rel => exact ⟨k + 1 + 1, by omega, by omega, by go_num, Lib.hid (h2.out (by assumption)), Lib.hid (by have := hW.out; (repeat' (first | (with_reducible exact Below.refl _ _) | (with_reducible assumption) | (with_reducible refine below_alloc ?_ _) | (with_reducible refine Below.drew ?_) | (with_reducible refine Below.setCell ?_ ?_ _) | (with_reducible refine below_after ?_ (by assumption)) | go_size)))⟩
          case measure => simp [intOf]; omega
      · have e1 : k + 1 = n := by omega
        have hA' : ascTo l k = true := hA.out
        go_wp2
        go_returns
        exact ⟨ret_bool (asc_all (by rw [HN.out, ← e1]; exact hA')).symm, hW.out⟩
  · have e0 : l = [] := List.length_eq_zero_iff.1 (by omega)
    subst e0
    have h1 : asc [] = true := by unfold asc ascTo; rfl
    rw [h1]
    go_enter Tryd.func37, Tryd.ntmps37
    go_wp2
    go_loopw [3] (fun i wr => i = .int .i64 1 ∧ wr = w) (fun i _ => 0)
    case atStart => exact ⟨rfl, rfl⟩
    case round =>
      obtain ⟨rfl, rfl⟩ := hrel
      go_wp2
      go_returns
      exact ⟨rfl, by go_grown⟩
@[irreducible] def badTo (m : Nat) (H : List (List Int)) (k : Nat) : Bool := (H.take k).any fun l => !decide (l.length = m)
theorem badTo_zero (m : Nat) (H : List (List Int)) : badTo m H 0 = false := by unfold badTo; rfl
theorem badTo_succ {m : Nat} {H : List (List Int)} {k : Nat} (hk : k < H.length) : badTo m H (k + 1) = (badTo m H k || !decide ((row H k).length = m)) := by
  unfold badTo; rw [List.take_succ_eq_append_getElem hk, List.any_append, row_get hk]; simp
theorem badTo_all (m : Nat) (H : List (List Int)) : badTo m H H.length = badRows m H := by unfold badTo badRows; rw [List.take_length]
theorem badRows_of {m : Nat} {H : List (List Int)} {k : Nat} (hk : k < H.length) (h : (row H k).length ≠ m) : badRows m H = true := by
  unfold badRows
  rw [List.any_eq_true]
  exact ⟨H[k], List.getElem_mem hk, by rw [← row_get hk]; simpa using h⟩
set_option maxHeartbeats 1000000 in
/-- rows: whether there is a half-breadth for each station and waterline. -/
theorem rows_any (ax az ah : Option Addr) (cx cz ch : Nat) (A : Nat → Option Addr) (C : Nat → Nat) (X Z : List Int) (H : List (List Int)) (hx : X.length ≤ 1000) (w : World) (hf : Frm w ax az ah A C X Z H) :
    Calls Tryd.prog 35 #[.agg #[.slice ax X.length cx, .slice az Z.length cz, .slice ah H.length ch]] w fun e w' => e = .returned (.bool (decide (H.length = X.length) && !badRows Z.length H)) ∧ Below w.heap.size w w' := by
  by_cases hl : H.length = X.length
  · obtain ⟨r, hr⟩ : ∃ r, r = badRows Z.length H := ⟨_, rfl⟩
    rw [← hr, show decide (H.length = X.length) = true by simpa using hl, Bool.true_and]
    have HR := Lib.hid hr
    clear hr
    have hl' : (H.length : Int) = (X.length : Int) := by omega
    have S1 := Lib.hid (fun k (hk : k < H.length) => badTo_succ (m := Z.length) hk)
    have S2 := Lib.hid (fun k (hk : k < H.length) (h : (row H k).length ≠ Z.length) => HR.out.trans (badRows_of hk h))
    have S3 := Lib.hid (badTo_all Z.length H)
    have HL := Lib.hid hl
    clear hl
    by_cases h0 : 0 < H.length
    · obtain ⟨bh, oh, rfl, hri⟩ := hf.h h0
      have HC := Lib.hid hri.cell
      have lh := hri.lt
      clear hri
      have HF := Lib.hid hf
      clear hf
      go_enter Tryd.func35, Tryd.ntmps35
      go_wp2
      go_loopw [3] (fun i wr => ∃ k : Nat, k ≤ H.length ∧ i = .int .i64 (k : Int) ∧ Hid (badTo Z.length H k = false) ∧ Hid (Below w.heap.size w wr) ∧ (∀ o, wr.cell? ⟨w.heap.size, o, none⟩ = (#[.slice ax X.length cx, .slice az Z.length cz, .slice (some ⟨bh, oh, none⟩) H.length ch] : Array Value)[o]?) ∧ w.heap.size < wr.heap.size) (fun i _ => H.length - (intOf i).toNat)
      case atStart => exact ⟨0, by omega, rfl, Lib.hid (badTo_zero _ _), Lib.hid (by go_grown), fun o => by simp [go_sem], by simp⟩
      case round =>
        obtain ⟨k, hk, rfl, hA, hB, hc, hz⟩ := hrel
        by_cases hlt : k < H.length
        · have c1 : wr.cell? ⟨bh, oh + k, none⟩ = some (.slice (A k) (row H k).length (C k)) := (hB.out.cell (p := ⟨bh, oh + k, none⟩) lh).trans (HC.out k hlt)
          have s1 := S1.out k hlt
          have s2 := S2.out k hlt
          have hltX : k < X.length := by have := HL.out; omega
          have hzr : bh < wr.heap.size := keep_lt hB.out lh
          rw [hA.out] at s1
          generalize (row H k).length = ln at *
          by_cases he : ln = Z.length
          · have SS := Lib.hid (s1.trans (show (false || !decide (ln = Z.length)) = false by simp [he]))
            have he' : (ln : Int) = (Z.length : Int) := by omega
            clear s1 s2 he
            go_wp2
            go_region
            go_wp2
            go_roundw
            case rel => exact ⟨k + 1, by omega, by go_num, Lib.hid SS.out, Lib.hid (by have := hB.out; (repeat' (first | (with_reducible exact Below.refl _ _) | (with_reducible assumption) | (with_reducible refine below_alloc ?_ _) | (with_reducible refine Below.drew ?_) | (with_reducible refine Below.setCell ?_ ?_ _) | (with_reducible refine below_after ?_ (by assumption)) | go_size))), hc, hz⟩
            case measure => simp [intOf]; omega
          · have e1 := s2 he
            subst e1
            have he' : ¬ ((ln : Int) = (Z.length : Int)) := by omega
            clear s1 s2 he
            go_wp2
            go_region
            go_wp2
            go_returns
            exact ⟨rfl, by have := hB.out; (repeat' (first | (with_reducible exact Below.refl _ _) | (with_reducible assumption) | (with_reducible refine below_alloc ?_ _) | (with_reducible refine Below.drew ?_) | (with_reducible refine Below.setCell ?_ ?_ _) | (with_reducible refine below_after ?_ (by assumption)) | go_size))⟩
        · obtain rfl : k = H.length := by omega
          have hgX : ¬ H.length < X.length := by have := HL.out; omega
          have e1 : r = false := by rw [HR.out, ← S3.out]; exact hA.out
          subst e1
          go_wp2
          go_returns
          exact ⟨rfl, hB.out⟩
    · have e0 : H = [] := List.length_eq_zero_iff.1 (by omega)
      subst e0
      have e1 : r = false := by rw [HR.out]; unfold badRows; rfl
      subst e1
      have hX0 : X.length = 0 := by simpa using HL.out.symm
      have HF := Lib.hid hf
      clear hf
      go_enter Tryd.func35, Tryd.ntmps35
      go_wp2
      go_loopw [3] (fun i wr => i = .int .i64 0 ∧ Hid (Below w.heap.size w wr) ∧ (∀ o, wr.cell? ⟨w.heap.size, o, none⟩ = (#[.slice ax X.length cx, .slice az Z.length cz, .slice ah 0 ch] : Array Value)[o]?) ∧ w.heap.size < wr.heap.size) (fun i _ => 0)
      case atStart => exact ⟨rfl, Lib.hid (by go_grown), fun o => by simp [go_sem, hX0], by simp⟩
      case round =>
        obtain ⟨rfl, hB, hc, hz⟩ := hrel
        go_wp2
        go_returns
        exact ⟨rfl, hB.out⟩
  · rw [show decide (H.length = X.length) = false by simpa using hl, Bool.false_and]
    have hl' : ¬ ((H.length : Int) = (X.length : Int)) := by omega
    clear hl
    have HF := Lib.hid hf
    clear hf
    go_enter Tryd.func35, Tryd.ntmps35
    go_wp2_with ((with_reducible show bodyPost _ _ _ _ _ _); refine bodyPost_ret (by simp [results, Tryd.results35, go_sem, ]; try rfl) rfl ?_; exact ⟨rfl, by (repeat' (first | (with_reducible exact Below.refl _ _) | (with_reducible assumption) | (with_reducible refine below_alloc ?_ _) | (with_reducible refine Below.drew ?_) | (with_reducible refine Below.setCell ?_ ?_ _) | (with_reducible refine below_after ?_ (by assumption)) | go_size))⟩)
end Go.Proofs.YtfmmnnodihpgmaaDoor
