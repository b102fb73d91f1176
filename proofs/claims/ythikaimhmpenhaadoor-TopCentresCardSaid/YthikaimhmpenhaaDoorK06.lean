/-
  What package ratio's functions on long integers return, of natural numbers that fit in a word: zero, product (of any), plus, short.
  What package ratio's plus and short return, of natural numbers that fit in a word.
  (Written by wip/pack.py out of XFLong, XFLongB.)
-/
import Derived.Test.YthikaimhmpenhaaDoorK02

namespace Go.Proofs.YthikaimhmpenhaaDoor
set_option linter.all false
open Go Go.RowKit Wd
set_option maxRecDepth 100000
theorem long_words {S : Nat} (h : S < 18446744073709551616) : wd S 0 = S ∧ wd S 1 = 0 ∧ wd S 2 = 0 ∧ wd S 3 = 0 ∧ wd S 4 = 0 ∧ wd S 5 = 0 ∧ wd S 6 = 0 ∧ wd S 7 = 0 ∧ wd S 8 = 0 := by
  have z : ∀ i, 0 < i → wd S i = 0 := fun i hi => by
    unfold wd
    rw [Nat.div_eq_of_lt (Nat.lt_of_lt_of_le h (by rw [show 18446744073709551616 = 2 ^ 64 from rfl]; exact Nat.pow_le_pow_right (by omega) (by omega)))]
    rfl
  refine ⟨?_, z 1 (by omega), z 2 (by omega), z 3 (by omega), z 4 (by omega), z 5 (by omega), z 6 (by omega), z 7 (by omega), z 8 (by omega)⟩
  unfold wd
  simp only [Nat.mul_zero, Nat.pow_zero, Nat.div_one]
  omega
theorem eq_long (S : Nat) (w : World) : (Op.equalIn 10000 116 (.agg #[.int .u64 (S : Int), .int .u64 0, .int .u64 0, .int .u64 0, .int .u64 0, .int .u64 0, .int .u64 0, .int .u64 0, .int .u64 0]) (.agg #[.int .u64 0, .int .u64 0, .int .u64 0, .int .u64 0, .int .u64 0, .int .u64 0, .int .u64 0, .int .u64 0, .int .u64 0])).run Tryd.prog w = .ok (eqN S 0) w := by
  have h := run_equalIn_array (P := Tryd.prog) w 9999 #[.int .u64 (S : Int), .int .u64 0, .int .u64 0, .int .u64 0, .int .u64 0, .int .u64 0, .int .u64 0, .int .u64 0, .int .u64 0] #[.int .u64 0, .int .u64 0, .int .u64 0, .int .u64 0, .int .u64 0, .int .u64 0, .int .u64 0, .int .u64 0, .int .u64 0] (i := _) Tryd.underlying116 (by rfl)
  rw [h, cells_u64]
  simp [List.range, List.range.loop, Op.eqItems, go_sem]
  by_cases h0 : S = 0 <;> simp [h0, eqN]
theorem get_words9 (b j : Nat) (hj : j < 9) : (#[.bool false, .int .u64 (wd (b) 0), .int .u64 (wd (b) 1), .int .u64 (wd (b) 2), .int .u64 (wd (b) 3), .int .u64 (wd (b) 4), .int .u64 (wd (b) 5), .int .u64 (wd (b) 6), .int .u64 (wd (b) 7), .int .u64 (wd (b) 8)] : Array Value)[1 + j]? = some (.int .u64 (wd b j)) := by
  match j, hj with
  | 0, _ | 1, _ | 2, _ | 3, _ | 4, _ | 5, _ | 6, _ | 7, _ | 8, _ => rfl
theorem set_long {w : World} {B T s v : Nat} (hs : s < 9) (hv : v < 18446744073709551616) (h : ∀ o, w.cell? ⟨B, o, none⟩ = (#[.bool false, .int .u64 (wd (T) 0), .int .u64 (wd (T) 1), .int .u64 (wd (T) 2), .int .u64 (wd (T) 3), .int .u64 (wd (T) 4), .int .u64 (wd (T) 5), .int .u64 (wd (T) 6), .int .u64 (wd (T) 7), .int .u64 (wd (T) 8)] : Array Value)[o]?) :
    ∀ o, (w.setCell ⟨B, 1 + s, none⟩ (.int .u64 (v : Int))).cell? ⟨B, o, none⟩ = (#[.bool false, .int .u64 (wd (setw T s v) 0), .int .u64 (wd (setw T s v) 1), .int .u64 (wd (setw T s v) 2), .int .u64 (wd (setw T s v) 3), .int .u64 (wd (setw T s v) 4), .int .u64 (wd (setw T s v) 5), .int .u64 (wd (setw T s v) 6), .int .u64 (wd (setw T s v) 7), .int .u64 (wd (setw T s v) 8)] : Array Value)[o]? := by
  intro o
  by_cases ho : o = 1 + s
  · subst ho
    rw [World.cell?_setCell_same _ _ _ (u := .int .u64 (wd T s)) (by rw [h, get_words9 T s hs]), get_words9 _ s hs, wd_set_same T s v hv]
  · rw [World.cell?_setCell_other _ _ _ _ (by intro e; exact ho (congrArg Addr.off e).symm), h]
    by_cases h0 : o = 0
    · subst h0; rfl
    · obtain ⟨j, rfl⟩ : ∃ j, o = 1 + j := ⟨o - 1, by omega⟩
      by_cases h8 : j < 9
      · rw [get_words9 T j h8, get_words9 _ j h8]
        rcases Nat.lt_or_gt_of_ne (show j ≠ s by omega) with h1 | h1
        · rw [wd_set_low T s v j h1]
        · rw [wd_set_high T s v j hv h1]
      · rw [Array.getElem?_eq_none (by simp; omega), Array.getElem?_eq_none (by simp; omega)]
end Go.Proofs.YthikaimhmpenhaaDoor

namespace Go.Proofs.YthikaimhmpenhaaDoor
set_option linter.all false
open Go Go.RowKit Wd
set_option maxRecDepth 100000
theorem array_at9 (b o : Nat) (w : World) : (Instr.arrayAt 35 (.slice (some ⟨b, o, none⟩) 4 9)).run Tryd.prog w = .ok (.pointer (some ⟨b, o, none⟩)) w := by kernel_rfl
end Go.Proofs.YthikaimhmpenhaaDoor
