/-
  Plain arithmetic of the reference's greatest common divisor: odd divisors; no program in sight.
-/
import Derived.Test.YtnbdccobfmlhbaaDoorGcdM
namespace Go.Proofs.YtnbdccobfmlhbaaDoor.Wd
set_option linter.all false
/-- The odd numbers that divide both are those that divide g. -/
@[irreducible] def OddDiv (g x y : Nat) : Prop := ∀ d, d % 2 = 1 → ((d ∣ x ∧ d ∣ y) ↔ d ∣ g)
theorem OddDiv.start (x y : Nat) : OddDiv (Nat.gcd x y) x y := by
  unfold OddDiv
  intro d _
  exact Nat.dvd_gcd_iff.symm
theorem odd_half {d x : Nat} (hd : d % 2 = 1) (hx : x % 2 = 0) : d ∣ x / 2 ↔ d ∣ x := by
  have e : x = 2 * (x / 2) := by omega
  constructor
  · intro h; rw [e]; exact Nat.dvd_trans h (Nat.dvd_mul_left _ _)
  · intro h
    rw [e] at h
    have hc : Nat.Coprime d 2 := by
      unfold Nat.Coprime
      rw [Nat.gcd_comm, Nat.gcd_rec, hd]; simp
    exact hc.dvd_of_dvd_mul_left h
theorem OddDiv.half {g x y : Nat} (hx : x % 2 = 0) (h : OddDiv g x y) : OddDiv g (x / 2) y := by
  unfold OddDiv at *
  intro d hd
  rw [odd_half hd hx]; exact h d hd
theorem OddDiv.swap {g x y : Nat} (h : OddDiv g x y) : OddDiv g y x := by
  unfold OddDiv at *
  intro d hd
  rw [And.comm]; exact h d hd
theorem OddDiv.sub {g x y : Nat} (hl : y ≤ x) (h : OddDiv g x y) : OddDiv g (x - y) y := by
  unfold OddDiv at *
  intro d hd
  rw [← h d hd]
  constructor
  · rintro ⟨h1, h2⟩
    exact ⟨by have := Nat.dvd_add h1 h2; rwa [Nat.sub_add_cancel hl] at this, h2⟩
  · rintro ⟨h1, h2⟩
    exact ⟨Nat.dvd_sub h1 h2, h2⟩
theorem OddDiv.done {g y : Nat} (hy : y % 2 = 1) (hg : g % 2 = 1) (h : OddDiv g 0 y) : y = g := by
  unfold OddDiv at h
  exact Nat.dvd_antisymm ((h y hy).1 ⟨Nat.dvd_zero _, Nat.dvd_refl _⟩) ((h g hg).2 (Nat.dvd_refl _)).2
/-- The common factors 2 that are out. -/
@[irreducible] def Com (a b c x y : Nat) : Prop := a = 2 ^ c * x ∧ b = 2 ^ c * y ∧ 0 < x ∧ 0 < y
theorem Com.start {a b : Nat} (ha : 0 < a) (hb : 0 < b) : Com a b 0 a b := by unfold Com; simp [ha, hb]
theorem Com.next {a b c x y : Nat} (hx : x % 2 = 0) (hy : y % 2 = 0) (h : Com a b c x y) : Com a b (c + 1) (x / 2) (y / 2) ∧ x / 2 < x := by
  unfold Com at *
  obtain ⟨h1, h2, h3, h4⟩ := h
  refine ⟨⟨?_, ?_, by omega, by omega⟩, by omega⟩
  · rw [Nat.pow_succ, Nat.mul_assoc, show 2 * (x / 2) = x by omega]; exact h1
  · rw [Nat.pow_succ, Nat.mul_assoc, show 2 * (y / 2) = y by omega]; exact h2
theorem Com.lt {a b c x y : Nat} (ha : a < 2 ^ 256) (hb : b < 2 ^ 256) (h : Com a b c x y) : c ≤ 256 ∧ x < 2 ^ 256 ∧ y < 2 ^ 256 ∧ 0 < x ∧ 0 < y := by
  unfold Com at h
  obtain ⟨h1, h2, h3, h4⟩ := h
  have hp : 0 < 2 ^ c := Nat.pow_pos (by omega)
  refine ⟨?_, ?_, ?_, h3, h4⟩
  · rcases Nat.lt_or_ge 256 c with h5 | h5
    · have h6 := Nat.pow_le_pow_right (n := 2) (by omega) (Nat.le_of_lt h5)
      have h7 := Nat.le_mul_of_pos_right (2 ^ c) h3
      rw [← h1] at h7
      generalize 2 ^ 256 = M at *
      omega
    · exact h5
  · have h7 := Nat.le_mul_of_pos_left x hp
    rw [← h1] at h7
    exact Nat.lt_of_le_of_lt h7 ha
  · have h7 := Nat.le_mul_of_pos_left y hp
    rw [← h2] at h7
    exact Nat.lt_of_le_of_lt h7 hb
theorem Com.done {a b c x y : Nat} (h : Com a b c x y) : pwx c (Nat.gcd x y) = Nat.gcd a b := by
  unfold Com at h
  unfold pwx
  rw [h.1, h.2.1, Nat.gcd_mul_left]
theorem gcd_odd {x y : Nat} (h : ¬ (x % 2 = 0 ∧ y % 2 = 0)) : Nat.gcd x y % 2 = 1 := by
  rcases Nat.mod_two_eq_zero_or_one (Nat.gcd x y) with h1 | h1
  · have h2 := Nat.dvd_of_mod_eq_zero h1
    exact absurd ⟨Nat.mod_eq_zero_of_dvd (Nat.dvd_trans h2 (Nat.gcd_dvd_left x y)), Nat.mod_eq_zero_of_dvd (Nat.dvd_trans h2 (Nat.gcd_dvd_right x y))⟩ h
  · exact h1
/-- What holds at the head of the loop. -/
@[irreducible] def GIn (g x y n : Nat) : Prop := OddDiv g x y ∧ 0 < y ∧ x < 2 ^ 256 ∧ y < 2 ^ 256 ∧ (x = 0 → y % 2 = 1) ∧ x + y ≤ n
theorem GIn.lt {g x y n : Nat} (h : GIn g x y n) : x < 2 ^ 256 ∧ y < 2 ^ 256 ∧ 0 < y := by unfold GIn at h; exact ⟨h.2.2.1, h.2.2.2.1, h.2.1⟩
theorem GIn.done {g y n : Nat} (hg : g % 2 = 1) (h : GIn g 0 y n) : y = g := by unfold GIn at h; exact h.1.done (h.2.2.2.2.1 rfl) hg
/-- Inside: x and y with factors 2 taken out. -/
@[irreducible] def GMid (g x y n : Nat) : Prop := OddDiv g x y ∧ 0 < x ∧ 0 < y ∧ x < 2 ^ 256 ∧ y < 2 ^ 256 ∧ x + y ≤ n
theorem GIn.mid {g x y n : Nat} (hx : x ≠ 0) (h : GIn g x y n) : GMid g x y n := by
  unfold GIn at h; unfold GMid
  exact ⟨h.1, by omega, h.2.1, h.2.2.1, h.2.2.2.1, h.2.2.2.2.2⟩
theorem GMid.lt {g x y n : Nat} (h : GMid g x y n) : x < 2 ^ 256 ∧ y < 2 ^ 256 ∧ 0 < x ∧ 0 < y := by unfold GMid at h; exact ⟨h.2.2.2.1, h.2.2.2.2.1, h.2.1, h.2.2.1⟩
theorem GMid.halfX {g x y n : Nat} (hx : x % 2 = 0) (h : GMid g x y n) : GMid g (x / 2) y n ∧ x / 2 < x := by
  unfold GMid at *
  obtain ⟨h1, h2, h3, h4, h5, h6⟩ := h
  exact ⟨⟨h1.half hx, by omega, h3, by omega, h5, by omega⟩, by omega⟩
theorem GMid.halfY {g x y n : Nat} (hy : y % 2 = 0) (h : GMid g x y n) : GMid g x (y / 2) n ∧ y / 2 < y := by
  unfold GMid at *
  obtain ⟨h1, h2, h3, h4, h5, h6⟩ := h
  exact ⟨⟨(h1.swap.half hy).swap, h2, by omega, h4, by omega, by omega⟩, by omega⟩
theorem GMid.swap {g x y n : Nat} (h : GMid g x y n) : GMid g y x n := by
  unfold GMid at *
  obtain ⟨h1, h2, h3, h4, h5, h6⟩ := h
  exact ⟨h1.swap, h3, h2, h5, h4, by omega⟩
theorem GMid.next {g x y n : Nat} (hl : y ≤ x) (hy : y % 2 = 1) (h : GMid g x y n) : GIn g (x - y) y (x - y + y) ∧ x - y + y < n := by
  unfold GMid at h; unfold GIn
  obtain ⟨h1, h2, h3, h4, h5, h6⟩ := h
  exact ⟨⟨h1.sub hl, h3, by omega, h5, fun _ => hy, Nat.le_refl _⟩, by omega⟩
theorem sm_twice (y : Nat) : sm y y = tw y 0 := by unfold sm tw; congr 1; omega
end Go.Proofs.YtnbdccobfmlhbaaDoor.Wd
