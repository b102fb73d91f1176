/-
  The text of a number denotes this number, and what denotes a number is its text: plain words on lists of bytes.
-/
import Derived.Test.YtnbdccobfmlhbaaDoorPlain
namespace Go.Proofs.YtnbdccobfmlhbaaDoor
set_option linter.all false
open Go Go.RowKit Go.Lib Wd
set_option maxRecDepth 100000
theorem decVal_dec : ∀ n : Nat, decVal (decDigits n) = n
  | n => by
    by_cases h : n < 10
    · rw [dec_small h]
      have : (UInt8.ofNat (48 + n)).toNat = 48 + n := by simp; omega
      unfold decVal
      simp only [List.foldl_cons, List.foldl_nil, this]
      omega
    · rw [dec_big h, decVal_snoc, decVal_dec (n / 10)]
      have : (UInt8.ofNat (48 + n % 10)).toNat = 48 + n % 10 := by simp; omega
      rw [this]
      omega
termination_by n => n
decreasing_by omega
theorem all_dec : ∀ n : Nat, (decDigits n).all isDig = true
  | n => by
    have one : ∀ k, k < 10 → isDig (UInt8.ofNat (48 + k)) = true := fun k hk => by
      have : (UInt8.ofNat (48 + k)).toNat = 48 + k := by simp; omega
      unfold isDig
      rw [this]
      simp; omega
    by_cases h : n < 10
    · rw [dec_small h, List.all_cons, one n h]; rfl
    · rw [dec_big h, List.all_append, all_dec (n / 10), List.all_cons, one (n % 10) (by omega)]; rfl
termination_by n => n
decreasing_by omega
theorem dig_back (c : UInt8) (h : isDig c = true) : UInt8.ofNat (48 + (c.toNat - 48)) = c := by
  have h1 := dig_bounds8 h
  rw [show 48 + (c.toNat - 48) = c.toNat by omega]
  simp
/-- Digits without a 0 in front are the numeral of their value. -/
theorem dec_decVal : ∀ (k : Nat) (l : List UInt8), l.length = k → l ≠ [] → l.all isDig = true → l.head? ≠ some 48 → decDigits (decVal l) = l ∧ decVal l ≠ 0
  | 0, l, h, h1, _, _ => absurd (List.length_eq_zero_iff.1 h) h1
  | k + 1, l, h, h1, h2, h3 => by
    obtain ⟨m, c, rfl⟩ : ∃ m c, l = m ++ [c] := ⟨l.dropLast, l.getLast h1, (List.dropLast_concat_getLast h1).symm⟩
    have hc : isDig c = true := by simp at h2; exact h2.2
    have hb := dig_bounds8 hc
    rw [decVal_snoc]
    by_cases hm : m = []
    · subst hm
      have h4 : c ≠ 48 := by simpa using h3
      have h5 : c.toNat ≠ 48 := fun e => h4 (by rw [← UInt8.toNat_inj]; exact e)
      have e : 10 * decVal [] + (c.toNat - 48) = c.toNat - 48 := by unfold decVal; simp
      rw [e, dec_small (by omega), dig_back c hc]
      exact ⟨rfl, by omega⟩
    · have ih := dec_decVal k m (by simp at h; exact h) hm (by simp at h2; simpa using h2.1) (by
        cases m with
        | nil => exact absurd rfl hm
        | cons x y => simpa using h3)
      have e1 : (10 * decVal m + (c.toNat - 48)) / 10 = decVal m := by omega
      have e2 : (10 * decVal m + (c.toNat - 48)) % 10 = c.toNat - 48 := by omega
      rw [dec_big (by omega), e1, e2, ih.1, dig_back c hc]
      exact ⟨rfl, by omega⟩
theorem prefix_minus (d : List UInt8) : hasPrefix (45 :: d) [45] = true := by simp [hasPrefix]
theorem prefix_dig (d : List UInt8) (h : d.all isDig = true) : hasPrefix d [45] = false := by
  cases d with
  | nil => rfl
  | cons c t =>
    have hc : isDig c = true := by simp at h; exact h.1
    have hb := dig_bounds8 hc
    have : (45 : UInt8) ≠ c := fun e => by subst e; simp at hb
    simp [hasPrefix, List.isPrefixOf, this]
/-- The text of a number denotes this number. -/
theorem parse_text (s : Bool) (a : Nat) (ha : a < 2 ^ 256) : parseZ (textOf s a) = val s a ∧ parseE (textOf s a) = 0 := by
  by_cases h0 : a = 0
  · subst h0
    have e : textOf s 0 = [48] := by unfold textOf; rw [if_pos rfl]
    rw [e, show val s 0 = 0 by unfold val; cases s <;> simp]
    constructor
    · unfold parseZ; decide +kernel
    · unfold parseE; decide +kernel
  · obtain ⟨c, t, hct, hc⟩ := dec_head a (by omega)
    have hall := all_dec a
    have hval := decVal_dec a
    have hne : (decDigits a).isEmpty = false := by rw [hct]; rfl
    have hhd : ((decDigits a).head? == some 48) = false := by rw [hct]; simpa using hc
    cases s
    · have e : textOf false a = decDigits a := by unfold textOf; rw [if_neg h0]; rfl
      have hp := prefix_dig _ hall
      have hd : digOfS (decDigits a) = decDigits a := by unfold digOfS trimPrefix; rw [hp]; rfl
      have hb : badS (decDigits a) = false := by unfold badS; rw [hd, hne, hall, hhd]; rfl
      rw [e]
      unfold parseZ parseE negOf
      rw [hne, hb, hd, hval, hp]
      simp [ha, val]
    · have e : textOf true a = 45 :: decDigits a := by unfold textOf; rw [if_neg h0]; rfl
      have hp := prefix_minus (decDigits a)
      have hd : digOfS (45 :: decDigits a) = decDigits a := by unfold digOfS trimPrefix; rw [hp]; rfl
      have hb : badS (45 :: decDigits a) = false := by unfold badS; rw [hd, hne, hall, hhd]; rfl
      rw [e]
      unfold parseZ parseE negOf
      rw [hb, hd, hval, hp]
      simp [ha, val]
/-- What denotes a number without error is its text. -/
theorem text_parse (l : List UInt8) (h : parseE l = 0) : textOf (zs (parseZ l)) (parseZ l).natAbs = l ∧ (parseZ l).natAbs < 2 ^ 256 := by
  unfold parseE at h
  split at h
  · exact absurd h (by decide)
  rename_i h1
  split at h
  · exact absurd h (by decide)
  rename_i h2
  split at h
  · rename_i h3
    have h2 : badS l = false := by simpa using h2
    have h1 : l.isEmpty = false := by simpa using h1
    have hz : parseZ l = if negOf l then -(decVal (digOfS l) : Int) else (decVal (digOfS l) : Int) := by
      unfold parseZ
      rw [h1, h2, if_pos h3]; rfl
    have hb := h2
    unfold badS at hb
    simp only [Bool.or_eq_false_iff, Bool.not_eq_false', Bool.and_eq_false_iff] at hb
    obtain ⟨⟨hb1, hb2⟩, hb3⟩ := hb
    have hne : digOfS l ≠ [] := by intro e; rw [e] at hb1; simp at hb1
    rcases hb3 with hb3 | hb3
    · have hd := dec_decVal _ (digOfS l) rfl hne hb2 (by simpa using hb3)
      cases hn : negOf l
      · have hl : digOfS l = l := by unfold digOfS trimPrefix; unfold negOf at hn; rw [hn]; rfl
        rw [hz, hn]
        simp only [Bool.false_eq_true, if_false, Int.natAbs_natCast]
        refine ⟨?_, h3⟩
        rw [show zs (decVal (digOfS l) : Int) = false by unfold zs; simp]
        unfold textOf
        rw [if_neg hd.2, hd.1, hl]; rfl
      · have hl : l = 45 :: digOfS l := by
          unfold negOf at hn
          cases l with
          | nil => simp [hasPrefix] at hn
          | cons c t =>
            have hc : 45 = c := by simpa [hasPrefix] using hn
            subst hc
            unfold digOfS trimPrefix; rw [hn]; rfl
        rw [hz, hn]
        simp only [if_true, Int.natAbs_neg, Int.natAbs_natCast]
        refine ⟨?_, h3⟩
        rw [show zs (-(decVal (digOfS l) : Int)) = true by unfold zs; simp; omega]
        unfold textOf
        rw [if_neg hd.2, hd.1]
        exact hl.symm
    · have hl : l = [48] := by simpa using hb3
      subst hl
      have e : parseZ [48] = 0 := by unfold parseZ; decide +kernel
      rw [e]
      exact ⟨by unfold textOf; rfl, by decide⟩
  · exact absurd h (by decide)
theorem parse_wrong (l : List UInt8) (h : parseE l ≠ 0) : parseZ l = 0 := by
  unfold parseE at h
  unfold parseZ
  split at h
  · rename_i h1; rw [h1]; rfl
  rename_i h1
  split at h
  · rename_i h2; rw [h2]; simp
  split at h
  · exact absurd rfl h
  · rename_i h3; rw [if_neg h3]; simp
theorem dec_length : ∀ (k n : Nat), n < 10 ^ (k + 1) → (decDigits n).length ≤ k + 1 := fun k n h => by
  obtain ⟨j, hj, -⟩ := dec_pad k n h
  omega
theorem text_length (s : Bool) (a : Nat) (ha : a < 2 ^ 256) : (textOf s a).length ≤ 100 := by
  have h := dec_length 77 a (Nat.lt_of_lt_of_le ha (by decide))
  unfold textOf
  split
  · simp
  · split
    · simp; omega
    · omega
end Go.Proofs.YtnbdccobfmlhbaaDoor
