/-
  What a text denotes: plain words on lists of bytes; no program in sight.
-/
import Derived.Test.YtnbdccobfmlhbaaDoorDec
import Derived.Lib.SlTrimSet
import Derived.Lib.Strings
namespace Go.Proofs.YtnbdccobfmlhbaaDoor.Wd
set_option linter.all false
open Go.Lib
def isDig (b : UInt8) : Bool := decide (48 ≤ b.toNat) && decide (b.toNat ≤ 57)
/-- the value of digits, the first one first -/
def decVal (l : List UInt8) : Nat := l.foldl (fun n c => 10 * n + (c.toNat - 48)) 0
def negOf (l : List UInt8) : Bool := hasPrefix l [45]
def digOfS (l : List UInt8) : List UInt8 := trimPrefix l [45]
/-- Whether a text that is not empty is no number: no digits, another sign, a 0 in front. -/
def badS (l : List UInt8) : Bool := (digOfS l).isEmpty || !(digOfS l).all isDig || ((digOfS l).head? == some 48 && !(l == [48]))
/-- What Parse returns: the number and the error. -/
@[irreducible] def parseZ (l : List UInt8) : Int := if l.isEmpty || badS l then 0 else if decVal (digOfS l) < 2 ^ 256 then (if negOf l then -(decVal (digOfS l) : Int) else (decVal (digOfS l) : Int)) else 0
@[irreducible] def parseE (l : List UInt8) : Int := if l.isEmpty then 3 else if badS l then 5 else if decVal (digOfS l) < 2 ^ 256 then 0 else 21
def digits10 : List UInt8 := [48, 49, 50, 51, 52, 53, 54, 55, 56, 57]
theorem contains_dig (b : UInt8) : digits10.contains b = isDig b := by
  have h : ∀ n : Fin 256, digits10.contains (UInt8.ofNat n.val) = isDig (UInt8.ofNat n.val) := by decide +kernel
  have := h ⟨b.toNat, b.toNat_lt⟩
  simpa using this
theorem drop_nil {p : UInt8 → Bool} : ∀ l : List UInt8, l.dropWhile p = [] ↔ l.all p = true
  | [] => by simp
  | c :: t => by
    rw [List.dropWhile_cons]
    cases h : p c
    · simp [h]
    · simp only [if_true, List.all_cons, h, Bool.true_and]
      exact drop_nil t
theorem drop_head {p : UInt8 → Bool} : ∀ l : List UInt8, l.dropWhile p ≠ [] → ∃ c t, l.dropWhile p = c :: t ∧ p c = false
  | [], h => absurd rfl h
  | c :: t, h => by
    rw [List.dropWhile_cons] at h ⊢
    cases hc : p c
    · exact ⟨c, t, by simp, hc⟩
    · rw [hc] at h
      simp only [if_true] at h ⊢
      exact drop_head t h
theorem trim_all (l : List UInt8) : (trimS l digits10).isEmpty = l.all isDig := by
  have e : (fun b => digits10.contains b) = isDig := funext contains_dig
  unfold trimS trimLeftS trimRightS
  rw [e]
  cases h : l.all isDig
  · have h1 : l.reverse.dropWhile isDig ≠ [] := by
      intro h2
      rw [drop_nil, List.all_reverse, h] at h2
      exact absurd h2 (by simp)
    obtain ⟨c, t, h3, h4⟩ := drop_head _ h1
    rw [h3]
    have h5 : ((c :: t).reverse.dropWhile isDig) ≠ [] := by
      intro h6
      rw [drop_nil, List.all_reverse] at h6
      simp [h4] at h6
    cases h7 : (c :: t).reverse.dropWhile isDig with
    | nil => exact absurd h7 h5
    | cons x y => rfl
  · have h1 : l.reverse.dropWhile isDig = [] := by rw [drop_nil, List.all_reverse, h]
    rw [h1]; rfl
theorem decVal_snoc (l : List UInt8) (c : UInt8) : decVal (l ++ [c]) = 10 * decVal l + (c.toNat - 48) := by
  unfold decVal; rw [List.foldl_append]; rfl
theorem decVal_mono : ∀ (l m : List UInt8), decVal l ≤ decVal (l ++ m)
  | l, [] => by simp
  | l, c :: m => by
    have h := decVal_mono (l ++ [c]) m
    rw [decVal_snoc] at h
    rw [List.append_assoc] at h
    exact Nat.le_trans (by omega) h
theorem dig_bounds8 {b : UInt8} (h : isDig b = true) : 48 ≤ b.toNat ∧ b.toNat ≤ 57 := by
  unfold isDig at h
  simpa using h
/-- one digit more of the first i -/
theorem decVal_take (l : List UInt8) (i : Nat) (h : i < l.length) : decVal (l.take (i + 1)) = 10 * decVal (l.take i) + ((l[i]).toNat - 48) := by
  rw [List.take_succ_eq_append_getElem h, decVal_snoc]
theorem decVal_part (l : List UInt8) (i : Nat) : decVal (l.take i) ≤ decVal l := by
  conv => rhs; rw [← List.take_append_drop i l]
  exact decVal_mono _ _
theorem all_at {l : List UInt8} (h : l.all isDig = true) (i : Nat) (hi : i < l.length) : 48 ≤ (l[i]).toNat ∧ (l[i]).toNat ≤ 57 := dig_bounds8 (List.all_eq_true.1 h _ (List.getElem_mem hi))
end Go.Proofs.YtnbdccobfmlhbaaDoor.Wd
