/-
  The faces of a prism's surface: no program in sight. They are closed, and lie where the sums want them.
-/
import Derived.Test.YtkpochkfijplaaaQMeshZ
namespace Go.Proofs.Ytkpochkfijplaaa
set_option linter.all false
open Go Go.RowKit Wd
set_option maxRecDepth 100000
theorem up_all {f : Nat → Bool} (h : ((List.range 33).all fun n => Nat.blt n 3 || f n) = true) {n : Nat} (hn : n < 33) (h3 : 3 ≤ n) : f n = true := by
  have := List.all_eq_true.1 h n (List.mem_range.2 hn)
  rcases Bool.or_eq_true _ _ ▸ this with h1 | h1
  · have := (Nat.blt_eq (x := n) (y := 3)).mp h1; omega
  · exact h1
/-- The faces of a prism over n corners, after i rounds: three indices a face. -/
def fl (n : Nat) : Nat → List Nat
  | 0 => []
  | i + 1 => fl n i ++ ([2 * i, 2 * ((i + 1) % n), 2 * ((i + 1) % n) + 1, 2 * i, 2 * ((i + 1) % n) + 1, 2 * i + 1] ++ (if 0 < i ∧ 0 < (i + 1) % n then [0, 2 * ((i + 1) % n), 2 * i, 1, 2 * i + 1, 2 * ((i + 1) % n) + 1] else []))
def flEd : List Nat → List Nat
  | a :: b :: c :: l => (a * 64 + b) :: (b * 64 + c) :: (c * 64 + a) :: flEd l
  | _ => []
def flNo : List Nat → Bool
  | [] => true
  | a :: l => !(l.any (fun b => Nat.beq a b)) && flNo l
def flCk (n : Nat) : Bool :=
  let L := flEd (fl n n)
  flNo L && L.all (fun x => !(Nat.beq (x / 64) (x % 64)) && L.any (fun y => Nat.beq y (x % 64 * 64 + x / 64)))
theorem flCk_3 : flCk 3 = true := by decide +kernel
theorem flCk_4 : flCk 4 = true := by decide +kernel
theorem flCk_5 : flCk 5 = true := by decide +kernel
theorem flCk_6 : flCk 6 = true := by decide +kernel
theorem flCk_7 : flCk 7 = true := by decide +kernel
theorem flCk_8 : flCk 8 = true := by decide +kernel
theorem flCk_9 : flCk 9 = true := by decide +kernel
theorem flCk_10 : flCk 10 = true := by decide +kernel
theorem flCk_11 : flCk 11 = true := by decide +kernel
theorem flCk_12 : flCk 12 = true := by decide +kernel
theorem flCk_13 : flCk 13 = true := by decide +kernel
theorem flCk_14 : flCk 14 = true := by decide +kernel
theorem flCk_15 : flCk 15 = true := by decide +kernel
theorem flCk_16 : flCk 16 = true := by decide +kernel
theorem flCk_17 : flCk 17 = true := by decide +kernel
theorem flCk_18 : flCk 18 = true := by decide +kernel
theorem flCk_19 : flCk 19 = true := by decide +kernel
theorem flCk_20 : flCk 20 = true := by decide +kernel
theorem flCk_21 : flCk 21 = true := by decide +kernel
theorem flCk_22 : flCk 22 = true := by decide +kernel
theorem flCk_23 : flCk 23 = true := by decide +kernel
theorem flCk_24 : flCk 24 = true := by decide +kernel
theorem flCk_25 : flCk 25 = true := by decide +kernel
theorem flCk_26 : flCk 26 = true := by decide +kernel
theorem flCk_27 : flCk 27 = true := by decide +kernel
theorem flCk_28 : flCk 28 = true := by decide +kernel
theorem flCk_29 : flCk 29 = true := by decide +kernel
theorem flCk_30 : flCk 30 = true := by decide +kernel
theorem flCk_31 : flCk 31 = true := by decide +kernel
theorem flCk_32 : flCk 32 = true := by decide +kernel
theorem flCk_all (n : Nat) (h : n < 33) (h3 : 3 ≤ n) : flCk n = true := by
  rcases (by omega : n = 3 ∨ n = 4 ∨ n = 5 ∨ n = 6 ∨ n = 7 ∨ n = 8 ∨ n = 9 ∨ n = 10 ∨ n = 11 ∨ n = 12 ∨ n = 13 ∨ n = 14 ∨ n = 15 ∨ n = 16 ∨ n = 17 ∨ n = 18 ∨ n = 19 ∨ n = 20 ∨ n = 21 ∨ n = 22 ∨ n = 23 ∨ n = 24 ∨ n = 25 ∨ n = 26 ∨ n = 27 ∨ n = 28 ∨ n = 29 ∨ n = 30 ∨ n = 31 ∨ n = 32) with rfl | rfl | rfl | rfl | rfl | rfl | rfl | rfl | rfl | rfl | rfl | rfl | rfl | rfl | rfl | rfl | rfl | rfl | rfl | rfl | rfl | rfl | rfl | rfl | rfl | rfl | rfl | rfl | rfl | rfl
  · exact flCk_3
  · exact flCk_4
  · exact flCk_5
  · exact flCk_6
  · exact flCk_7
  · exact flCk_8
  · exact flCk_9
  · exact flCk_10
  · exact flCk_11
  · exact flCk_12
  · exact flCk_13
  · exact flCk_14
  · exact flCk_15
  · exact flCk_16
  · exact flCk_17
  · exact flCk_18
  · exact flCk_19
  · exact flCk_20
  · exact flCk_21
  · exact flCk_22
  · exact flCk_23
  · exact flCk_24
  · exact flCk_25
  · exact flCk_26
  · exact flCk_27
  · exact flCk_28
  · exact flCk_29
  · exact flCk_30
  · exact flCk_31
  · exact flCk_32
def flLo (n : Nat) : Bool := Nat.beq (fl n n).length ((4 * n - 4) * 3) && (fl n n).all (fun a => Nat.blt a (2 * n))
theorem flLo_b : ((List.range 33).all fun n => Nat.blt n 3 || flLo n) = true := by kernel_rfl
theorem flLo_all : ∀ n, n < 33 → 3 ≤ n → flLo n = true := fun n h h3 => up_all flLo_b h h3
def flAt (n : Nat) : Bool :=
  (fl n n).take 6 == [0, 2, 3, 0, 3, 1] && ((fl n n).drop ((4 * n - 6) * 3)).take 6 == [2 * (n - 1), 0, 1, 2 * (n - 1), 1, 2 * (n - 1) + 1] &&
  (List.range (n - 2)).all fun m => ((fl n n).drop ((4 * (m + 1) - 2) * 3)).take 12 == [2 * (m + 1), 2 * (m + 2), 2 * (m + 2) + 1, 2 * (m + 1), 2 * (m + 2) + 1, 2 * (m + 1) + 1, 0, 2 * (m + 2), 2 * (m + 1), 1, 2 * (m + 1) + 1, 2 * (m + 2) + 1]
theorem flAt_b : ((List.range 33).all fun n => Nat.blt n 3 || flAt n) = true := by kernel_rfl
theorem flAt_all : ∀ n, n < 33 → 3 ≤ n → flAt n = true := fun n h h3 => up_all flAt_b h h3
/-- The index at a place. -/
@[irreducible] def prF (n j : Nat) : Int := (((fl n n).getD j 0 : Nat) : Int)
theorem flEd_at : ∀ (m : Nat) (L : List Nat), L.length = m * 3 → ∀ t, t < 3 * m → (flEd L)[t]? = some (L.getD t 0 * 64 + L.getD (3 * (t / 3) + (t % 3 + 1) % 3) 0)
  | 0, _, _, t, ht => by omega
  | m + 1, L, hL, t, ht => by
    match L, hL with
    | a :: b :: c :: l, hL =>
      have hl : l.length = m * 3 := by simp at hL; omega
      match t with
      | 0 => rfl
      | 1 => rfl
      | 2 => rfl
      | t + 3 =>
        have h := flEd_at m l hl t (by omega)
        have e : 3 * ((t + 3) / 3) + ((t + 3) % 3 + 1) % 3 = 3 * (t / 3) + (t % 3 + 1) % 3 + 3 := by omega
        rw [e]
        show (flEd l)[t]? = _
        rw [h]
        rfl
    | [], hL => simp at hL
    | [_], hL => simp at hL; omega
    | [_, _], hL => simp at hL; omega
theorem flEd_len : ∀ (m : Nat) (L : List Nat), L.length = m * 3 → (flEd L).length = 3 * m
  | 0, L, hL => by
    have : L = [] := List.length_eq_zero_iff.1 (by omega)
    subst this; rfl
  | m + 1, L, hL => by
    match L, hL with
    | a :: b :: c :: l, hL =>
      have hl : l.length = m * 3 := by simp at hL; omega
      have h := flEd_len m l hl
      show (flEd l).length + 1 + 1 + 1 = _
      omega
    | [], hL => simp at hL
    | [_], hL => simp at hL; omega
    | [_, _], hL => simp at hL; omega
theorem flNo_ne : ∀ (L : List Nat), flNo L = true → ∀ (s t a b : Nat), s < t → L[s]? = some a → L[t]? = some b → a ≠ b
  | [], _, s, t, a, b, _, h, _ => by simp at h
  | x :: L, h, s, t, a, b, hst, ha, hb => by
    unfold flNo at h
    simp only [Bool.and_eq_true, Bool.not_eq_true', List.any_eq_false] at h
    match s, t with
    | 0, 0 => omega
    | s + 1, 0 => omega
    | 0, t + 1 =>
      obtain rfl : x = a := by simpa using ha
      have hm : b ∈ L := List.mem_of_getElem? (by simpa using hb)
      have := h.1 b hm
      intro e
      exact this (by rw [e]; exact Nat.beq_refl b)
    | s + 1, t + 1 => exact flNo_ne L h.2 s t a b (by omega) (by simpa using ha) (by simpa using hb)
theorem fl_len {n : Nat} (h3 : 3 ≤ n) (hn : n ≤ 32) : (fl n n).length = (4 * n - 4) * 3 := by
  have h := flLo_all n (by omega) h3
  unfold flLo at h
  simp only [Bool.and_eq_true] at h
  exact Nat.eq_of_beq_eq_true h.1
theorem prF_lt {n : Nat} (h3 : 3 ≤ n) (hn : n ≤ 32) : ∀ j, j < (4 * n - 4) * 3 → 0 ≤ prF n j ∧ prF n j < ((2 * n : Nat) : Int) := by
  intro j hj
  have h := flLo_all n (by omega) h3
  have hl := fl_len h3 hn
  unfold flLo at h
  simp only [Bool.and_eq_true, List.all_eq_true] at h
  have hj' : j < (fl n n).length := by omega
  have hm := h.2 _ (List.getElem_mem hj')
  have hlt : (fl n n)[j] < 2 * n := by simpa [Nat.blt_eq] using hm
  unfold prF
  rw [List.getD_eq_getElem?_getD, List.getElem?_eq_getElem hj']
  simp only [Option.getD_some]
  omega
theorem eg_code {n : Nat} (h3 : 3 ≤ n) (hn : n ≤ 32) {t : Nat} (ht : t < 3 * (4 * n - 4)) : ∃ a b : Nat, a < 64 ∧ b < 64 ∧ (flEd (fl n n))[t]? = some (a * 64 + b) ∧ eg (prF n) t = ((a : Int), (b : Int)) := by
  have h := flEd_at (4 * n - 4) (fl n n) (fl_len h3 hn) t ht
  have b1 := prF_lt h3 hn t (by omega)
  have b2 := prF_lt h3 hn (3 * (t / 3) + (t % 3 + 1) % 3) (by omega)
  refine ⟨_, _, ?_, ?_, h, ?_⟩
  · unfold prF at b1; omega
  · unfold prF at b2; omega
  · unfold eg prF; rfl
/-- A prism's surface is closed. -/
theorem shut_prism {n : Nat} (h3 : 3 ≤ n) (hn : n ≤ 32) : Shutd (prF n) (4 * n - 4) := by
  have hk := flCk_all n (by omega) h3
  unfold flCk at hk
  simp only [Bool.and_eq_true, List.all_eq_true, List.any_eq_true, Bool.not_eq_true'] at hk
  obtain ⟨k1, k2⟩ := hk
  have hlen := flEd_len (4 * n - 4) (fl n n) (fl_len h3 hn)
  refine ⟨fun t ht => ?_, fun t ht => ?_, fun s t hst ht => ?_, fun t ht => ?_⟩
  · have := prF_lt h3 hn t (by omega)
    unfold I64
    omega
  · obtain ⟨a, b, ha, hb, hc, he⟩ := eg_code h3 hn ht
    have := (k2 _ (List.mem_of_getElem? hc)).1
    rw [he]
    intro e
    simp only [] at e
    have hab : a = b := by omega
    subst hab
    rw [show (a * 64 + a) / 64 = (a * 64 + a) % 64 by omega, Nat.beq_refl] at this
    exact absurd this (by simp)
  · obtain ⟨a, b, ha, hb, hc, he⟩ := eg_code h3 hn (t := s) (by omega)
    obtain ⟨a', b', ha', hb', hc', he'⟩ := eg_code h3 hn ht
    have := flNo_ne _ k1 s t _ _ hst hc hc'
    rw [he, he']
    intro e
    have e1 := congrArg Prod.fst e
    have e2 := congrArg Prod.snd e
    simp only [] at e1 e2
    omega
  · obtain ⟨a, b, ha, hb, hc, he⟩ := eg_code h3 hn ht
    obtain ⟨y, hy, hb2⟩ := (k2 _ (List.mem_of_getElem? hc)).2
    have hyv := Nat.eq_of_beq_eq_true hb2
    obtain ⟨s, hs, hsy⟩ := List.getElem_of_mem hy
    have hs' : s < 3 * (4 * n - 4) := by omega
    obtain ⟨a', b', ha', hb', hc', he'⟩ := eg_code h3 hn hs'
    rw [List.getElem?_eq_getElem hs, hsy] at hc'
    have hc2 : y = a' * 64 + b' := by simpa using hc'
    refine ⟨s, hs', ?_⟩
    rw [he, he']
    have q0 : (a * 64 + b) % 64 * 64 + (a * 64 + b) / 64 = b * 64 + a := by omega
    have q1 : a' = b := by omega
    have q2 : b' = a := by omega
    rw [q1, q2]
end Go.Proofs.Ytkpochkfijplaaa
