/-
  The surface of a hull, no program in sight: its edges, each of which occurs once, and the opposite one too; what it encloses; its moment about the middle.
-/
import Derived.WalkKit

namespace Go.Proofs.Ytkpochkfijplaaa.Sf
set_option linter.all false
set_option maxRecDepth 100000
@[irreducible] def det3 (a b c p q r x y z : Int) : Int := a * (q * z - r * y) + b * (r * x - p * z) + c * (p * y - q * x)
/-- A point: its side (0 port, 1 starboard), station, waterline. -/
abbrev Pt := Nat × Nat × Nat
abbrev Fc := Pt × Pt × Pt
def cellS (i k : Nat) : List Fc := [((0, i, k), (0, i + 1, k + 1), (0, i + 1, k)), ((0, i, k), (0, i, k + 1), (0, i + 1, k + 1)), ((1, i, k), (1, i + 1, k), (1, i + 1, k + 1)), ((1, i, k), (1, i + 1, k + 1), (1, i, k + 1))]
def flatS (M i : Nat) : List Fc := [((1, i, 0), (0, i, 0), (0, i + 1, 0)), ((1, i, 0), (0, i + 1, 0), (1, i + 1, 0)), ((1, i, M), (0, i + 1, M), (0, i, M)), ((1, i, M), (1, i + 1, M), (0, i + 1, M))]
def endS (N k : Nat) : List Fc := [((1, 0, k), (1, 0, k + 1), (0, 0, k + 1)), ((1, 0, k), (0, 0, k + 1), (0, 0, k)), ((1, N, k), (0, N, k), (0, N, k + 1)), ((1, N, k), (0, N, k + 1), (1, N, k + 1))]
def faces (N M : Nat) : List Fc := ((List.range N).flatMap fun i => (List.range M).flatMap fun k => cellS i k) ++ (List.range N).flatMap (fun i => flatS M i) ++ (List.range M).flatMap (fun k => endS N k)
def fe (f : Fc) : List (Pt × Pt) := [(f.1, f.2.1), (f.2.1, f.2.2), (f.2.2, f.1)]
def cellE (i k : Nat) : List (Pt × Pt) := (cellS i k).flatMap fe
def flatE (M i : Nat) : List (Pt × Pt) := (flatS M i).flatMap fe
def endE (N k : Nat) : List (Pt × Pt) := (endS N k).flatMap fe
def edges (N M : Nat) : List (Pt × Pt) := (faces N M).flatMap fe
theorem edges_eq (N M : Nat) : edges N M = ((List.range N).flatMap fun i => (List.range M).flatMap fun k => cellE i k) ++ (List.range N).flatMap (fun i => flatE M i) ++ (List.range M).flatMap (fun k => endE N k) := by
  unfold edges faces cellE flatE endE
  simp only [List.flatMap_append, List.flatMap_assoc]
theorem cellE_mem (i k : Nat) (x : Pt × Pt) : x ∈ cellE i k ↔ x = ((0, i, k), (0, i + 1, k + 1)) ∨ x = ((0, i + 1, k + 1), (0, i + 1, k)) ∨ x = ((0, i + 1, k), (0, i, k)) ∨ x = ((0, i, k), (0, i, k + 1)) ∨ x = ((0, i, k + 1), (0, i + 1, k + 1)) ∨ x = ((0, i + 1, k + 1), (0, i, k))
    ∨ x = ((1, i, k), (1, i + 1, k)) ∨ x = ((1, i + 1, k), (1, i + 1, k + 1)) ∨ x = ((1, i + 1, k + 1), (1, i, k)) ∨ x = ((1, i, k), (1, i + 1, k + 1)) ∨ x = ((1, i + 1, k + 1), (1, i, k + 1)) ∨ x = ((1, i, k + 1), (1, i, k)) := by
  simp [cellE, cellS, fe]
theorem flatE_mem (M i : Nat) (x : Pt × Pt) : x ∈ flatE M i ↔ x = ((1, i, 0), (0, i, 0)) ∨ x = ((0, i, 0), (0, i + 1, 0)) ∨ x = ((0, i + 1, 0), (1, i, 0)) ∨ x = ((1, i, 0), (0, i + 1, 0)) ∨ x = ((0, i + 1, 0), (1, i + 1, 0)) ∨ x = ((1, i + 1, 0), (1, i, 0))
    ∨ x = ((1, i, M), (0, i + 1, M)) ∨ x = ((0, i + 1, M), (0, i, M)) ∨ x = ((0, i, M), (1, i, M)) ∨ x = ((1, i, M), (1, i + 1, M)) ∨ x = ((1, i + 1, M), (0, i + 1, M)) ∨ x = ((0, i + 1, M), (1, i, M)) := by
  simp [flatE, flatS, fe]
theorem endE_mem (N k : Nat) (x : Pt × Pt) : x ∈ endE N k ↔ x = ((1, 0, k), (1, 0, k + 1)) ∨ x = ((1, 0, k + 1), (0, 0, k + 1)) ∨ x = ((0, 0, k + 1), (1, 0, k)) ∨ x = ((1, 0, k), (0, 0, k + 1)) ∨ x = ((0, 0, k + 1), (0, 0, k)) ∨ x = ((0, 0, k), (1, 0, k))
    ∨ x = ((1, N, k), (0, N, k)) ∨ x = ((0, N, k), (0, N, k + 1)) ∨ x = ((0, N, k + 1), (1, N, k)) ∨ x = ((1, N, k), (0, N, k + 1)) ∨ x = ((0, N, k + 1), (1, N, k + 1)) ∨ x = ((1, N, k + 1), (1, N, k)) := by
  simp [endE, endS, fe]
theorem in_c {N M i k : Nat} (hi : i < N) (hk : k < M) {x : Pt × Pt} (h : x ∈ cellE i k) : x ∈ edges N M := by
  rw [edges_eq]
  exact List.mem_append_left _ (List.mem_append_left _ (List.mem_flatMap.2 ⟨i, List.mem_range.2 hi, List.mem_flatMap.2 ⟨k, List.mem_range.2 hk, h⟩⟩))
theorem in_f {N M i : Nat} (hi : i < N) {x : Pt × Pt} (h : x ∈ flatE M i) : x ∈ edges N M := by
  rw [edges_eq]
  exact List.mem_append_left _ (List.mem_append_right _ (List.mem_flatMap.2 ⟨i, List.mem_range.2 hi, h⟩))
theorem in_e {N M k : Nat} (hk : k < M) {x : Pt × Pt} (h : x ∈ endE N k) : x ∈ edges N M := by
  rw [edges_eq]
  exact List.mem_append_right _ (List.mem_flatMap.2 ⟨k, List.mem_range.2 hk, h⟩)
theorem edge_cases {N M : Nat} {x : Pt × Pt} (h : x ∈ edges N M) : (∃ i k, i < N ∧ k < M ∧ x ∈ cellE i k) ∨ (∃ i, i < N ∧ x ∈ flatE M i) ∨ (∃ k, k < M ∧ x ∈ endE N k) := by
  rw [edges_eq] at h
  rcases List.mem_append.1 h with h | h
  · rcases List.mem_append.1 h with h | h
    · obtain ⟨i, hi, h⟩ := List.mem_flatMap.1 h
      obtain ⟨k, hk, h⟩ := List.mem_flatMap.1 h
      exact Or.inl ⟨i, k, List.mem_range.1 hi, List.mem_range.1 hk, h⟩
    · obtain ⟨i, hi, h⟩ := List.mem_flatMap.1 h
      exact Or.inr (Or.inl ⟨i, List.mem_range.1 hi, h⟩)
  · obtain ⟨k, hk, h⟩ := List.mem_flatMap.1 h
    exact Or.inr (Or.inr ⟨k, List.mem_range.1 hk, h⟩)
theorem back (N M : Nat) (hN : 0 < N) (hM : 0 < M) (x : Pt × Pt) (h : x ∈ edges N M) : (x.2, x.1) ∈ edges N M := by
  rcases edge_cases h with ⟨i, k, hi, hk, h⟩ | ⟨i, hi, h⟩ | ⟨k, hk, h⟩
  · rw [cellE_mem] at h
    rcases h with rfl | rfl | rfl | rfl | rfl | rfl | rfl | rfl | rfl | rfl | rfl | rfl
    · skip
      exact in_c (i := i) (k := k) (by omega) (by omega) ((cellE_mem _ _ _).2 (Or.inr (Or.inr (Or.inr (Or.inr (Or.inr (Or.inl rfl)))))))
    · skip
      rcases (by omega : i + 1 < N ∨ N = i + 1) with h1 | rfl
      · exact in_c (i := i + 1) (k := k) (by omega) (by omega) ((cellE_mem _ _ _).2 (Or.inr (Or.inr (Or.inr (Or.inl rfl)))))
      · exact in_e (k := k) (by omega) ((endE_mem _ _ _).2 (Or.inr (Or.inr (Or.inr (Or.inr (Or.inr (Or.inr (Or.inr (Or.inl rfl)))))))))
    · skip
      rcases k with _ | k
      · exact in_f (i := i) (by omega) ((flatE_mem _ _ _).2 (Or.inr (Or.inl rfl)))
      · exact in_c (i := i) (k := k) (by omega) (by omega) ((cellE_mem _ _ _).2 (Or.inr (Or.inr (Or.inr (Or.inr (Or.inl rfl))))))
    · skip
      rcases i with _ | i
      · exact in_e (k := k) (by omega) ((endE_mem _ _ _).2 (Or.inr (Or.inr (Or.inr (Or.inr (Or.inl rfl))))))
      · exact in_c (i := i) (k := k) (by omega) (by omega) ((cellE_mem _ _ _).2 (Or.inr (Or.inl rfl)))
    · skip
      rcases (by omega : k + 1 < M ∨ M = k + 1) with h1 | rfl
      · exact in_c (i := i) (k := k + 1) (by omega) (by omega) ((cellE_mem _ _ _).2 (Or.inr (Or.inr (Or.inl rfl))))
      · exact in_f (i := i) (by omega) ((flatE_mem _ _ _).2 (Or.inr (Or.inr (Or.inr (Or.inr (Or.inr (Or.inr (Or.inr (Or.inl rfl)))))))))
    · skip
      exact in_c (i := i) (k := k) (by omega) (by omega) ((cellE_mem _ _ _).2 (Or.inl rfl))
    · skip
      rcases k with _ | k
      · exact in_f (i := i) (by omega) ((flatE_mem _ _ _).2 (Or.inr (Or.inr (Or.inr (Or.inr (Or.inr (Or.inl rfl)))))))
      · exact in_c (i := i) (k := k) (by omega) (by omega) ((cellE_mem _ _ _).2 (Or.inr (Or.inr (Or.inr (Or.inr (Or.inr (Or.inr (Or.inr (Or.inr (Or.inr (Or.inr (Or.inl rfl))))))))))))
    · skip
      rcases (by omega : i + 1 < N ∨ N = i + 1) with h1 | rfl
      · exact in_c (i := i + 1) (k := k) (by omega) (by omega) ((cellE_mem _ _ _).2 (Or.inr (Or.inr (Or.inr (Or.inr (Or.inr (Or.inr (Or.inr (Or.inr (Or.inr (Or.inr (Or.inr (rfl)))))))))))))
      · exact in_e (k := k) (by omega) ((endE_mem _ _ _).2 (Or.inr (Or.inr (Or.inr (Or.inr (Or.inr (Or.inr (Or.inr (Or.inr (Or.inr (Or.inr (Or.inr (rfl)))))))))))))
    · skip
      exact in_c (i := i) (k := k) (by omega) (by omega) ((cellE_mem _ _ _).2 (Or.inr (Or.inr (Or.inr (Or.inr (Or.inr (Or.inr (Or.inr (Or.inr (Or.inr (Or.inl rfl)))))))))))
    · skip
      exact in_c (i := i) (k := k) (by omega) (by omega) ((cellE_mem _ _ _).2 (Or.inr (Or.inr (Or.inr (Or.inr (Or.inr (Or.inr (Or.inr (Or.inr (Or.inl rfl))))))))))
    · skip
      rcases (by omega : k + 1 < M ∨ M = k + 1) with h1 | rfl
      · exact in_c (i := i) (k := k + 1) (by omega) (by omega) ((cellE_mem _ _ _).2 (Or.inr (Or.inr (Or.inr (Or.inr (Or.inr (Or.inr (Or.inl rfl))))))))
      · exact in_f (i := i) (by omega) ((flatE_mem _ _ _).2 (Or.inr (Or.inr (Or.inr (Or.inr (Or.inr (Or.inr (Or.inr (Or.inr (Or.inr (Or.inl rfl)))))))))))
    · skip
      rcases i with _ | i
      · exact in_e (k := k) (by omega) ((endE_mem _ _ _).2 (Or.inl rfl))
      · exact in_c (i := i) (k := k) (by omega) (by omega) ((cellE_mem _ _ _).2 (Or.inr (Or.inr (Or.inr (Or.inr (Or.inr (Or.inr (Or.inr (Or.inl rfl)))))))))
  · rw [flatE_mem] at h
    rcases h with rfl | rfl | rfl | rfl | rfl | rfl | rfl | rfl | rfl | rfl | rfl | rfl
    · skip
      rcases i with _ | i
      · exact in_e (k := 0) (by omega) ((endE_mem _ _ _).2 (Or.inr (Or.inr (Or.inr (Or.inr (Or.inr (Or.inl rfl)))))))
      · exact in_f (i := i) (by omega) ((flatE_mem _ _ _).2 (Or.inr (Or.inr (Or.inr (Or.inr (Or.inl rfl))))))
    · skip
      exact in_c (i := i) (k := 0) (by omega) (by omega) ((cellE_mem _ _ _).2 (Or.inr (Or.inr (Or.inl rfl))))
    · skip
      exact in_f (i := i) (by omega) ((flatE_mem _ _ _).2 (Or.inr (Or.inr (Or.inr (Or.inl rfl)))))
    · skip
      exact in_f (i := i) (by omega) ((flatE_mem _ _ _).2 (Or.inr (Or.inr (Or.inl rfl))))
    · skip
      rcases (by omega : i + 1 < N ∨ N = i + 1) with h1 | rfl
      · exact in_f (i := i + 1) (by omega) ((flatE_mem _ _ _).2 (Or.inl rfl))
      · exact in_e (k := 0) (by omega) ((endE_mem _ _ _).2 (Or.inr (Or.inr (Or.inr (Or.inr (Or.inr (Or.inr (Or.inl rfl))))))))
    · skip
      exact in_c (i := i) (k := 0) (by omega) (by omega) ((cellE_mem _ _ _).2 (Or.inr (Or.inr (Or.inr (Or.inr (Or.inr (Or.inr (Or.inl rfl))))))))
    · skip
      obtain ⟨K, rfl⟩ : ∃ K, M = K + 1 := ⟨M - 1, by omega⟩
      exact in_f (i := i) (by omega) ((flatE_mem _ _ _).2 (Or.inr (Or.inr (Or.inr (Or.inr (Or.inr (Or.inr (Or.inr (Or.inr (Or.inr (Or.inr (Or.inr (rfl)))))))))))))
    · skip
      obtain ⟨K, rfl⟩ : ∃ K, M = K + 1 := ⟨M - 1, by omega⟩
      exact in_c (i := i) (k := K) (by omega) (by omega) ((cellE_mem _ _ _).2 (Or.inr (Or.inr (Or.inr (Or.inr (Or.inl rfl))))))
    · skip
      obtain ⟨K, rfl⟩ : ∃ K, M = K + 1 := ⟨M - 1, by omega⟩
      rcases i with _ | i
      · exact in_e (k := K) (by omega) ((endE_mem _ _ _).2 (Or.inr (Or.inl rfl)))
      · exact in_f (i := i) (by omega) ((flatE_mem _ _ _).2 (Or.inr (Or.inr (Or.inr (Or.inr (Or.inr (Or.inr (Or.inr (Or.inr (Or.inr (Or.inr (Or.inl rfl))))))))))))
    · skip
      obtain ⟨K, rfl⟩ : ∃ K, M = K + 1 := ⟨M - 1, by omega⟩
      exact in_c (i := i) (k := K) (by omega) (by omega) ((cellE_mem _ _ _).2 (Or.inr (Or.inr (Or.inr (Or.inr (Or.inr (Or.inr (Or.inr (Or.inr (Or.inr (Or.inr (Or.inl rfl))))))))))))
    · skip
      obtain ⟨K, rfl⟩ : ∃ K, M = K + 1 := ⟨M - 1, by omega⟩
      rcases (by omega : i + 1 < N ∨ N = i + 1) with h1 | rfl
      · exact in_f (i := i + 1) (by omega) ((flatE_mem _ _ _).2 (Or.inr (Or.inr (Or.inr (Or.inr (Or.inr (Or.inr (Or.inr (Or.inr (Or.inl rfl))))))))))
      · exact in_e (k := K) (by omega) ((endE_mem _ _ _).2 (Or.inr (Or.inr (Or.inr (Or.inr (Or.inr (Or.inr (Or.inr (Or.inr (Or.inr (Or.inr (Or.inl rfl))))))))))))
    · skip
      obtain ⟨K, rfl⟩ : ∃ K, M = K + 1 := ⟨M - 1, by omega⟩
      exact in_f (i := i) (by omega) ((flatE_mem _ _ _).2 (Or.inr (Or.inr (Or.inr (Or.inr (Or.inr (Or.inr (Or.inl rfl))))))))
  · rw [endE_mem] at h
    rcases h with rfl | rfl | rfl | rfl | rfl | rfl | rfl | rfl | rfl | rfl | rfl | rfl
    · skip
      exact in_c (i := 0) (k := k) (by omega) (by omega) ((cellE_mem _ _ _).2 (Or.inr (Or.inr (Or.inr (Or.inr (Or.inr (Or.inr (Or.inr (Or.inr (Or.inr (Or.inr (Or.inr (rfl)))))))))))))
    · skip
      rcases (by omega : k + 1 < M ∨ M = k + 1) with h1 | rfl
      · exact in_e (k := k + 1) (by omega) ((endE_mem _ _ _).2 (Or.inr (Or.inr (Or.inr (Or.inr (Or.inr (Or.inl rfl)))))))
      · exact in_f (i := 0) (by omega) ((flatE_mem _ _ _).2 (Or.inr (Or.inr (Or.inr (Or.inr (Or.inr (Or.inr (Or.inr (Or.inr (Or.inl rfl))))))))))
    · skip
      exact in_e (k := k) (by omega) ((endE_mem _ _ _).2 (Or.inr (Or.inr (Or.inr (Or.inl rfl)))))
    · skip
      exact in_e (k := k) (by omega) ((endE_mem _ _ _).2 (Or.inr (Or.inr (Or.inl rfl))))
    · skip
      exact in_c (i := 0) (k := k) (by omega) (by omega) ((cellE_mem _ _ _).2 (Or.inr (Or.inr (Or.inr (Or.inl rfl)))))
    · skip
      rcases k with _ | k
      · exact in_f (i := 0) (by omega) ((flatE_mem _ _ _).2 (Or.inl rfl))
      · exact in_e (k := k) (by omega) ((endE_mem _ _ _).2 (Or.inr (Or.inl rfl)))
    · skip
      obtain ⟨J, rfl⟩ : ∃ J, N = J + 1 := ⟨N - 1, by omega⟩
      rcases k with _ | k
      · exact in_f (i := J) (by omega) ((flatE_mem _ _ _).2 (Or.inr (Or.inr (Or.inr (Or.inr (Or.inl rfl))))))
      · exact in_e (k := k) (by omega) ((endE_mem _ _ _).2 (Or.inr (Or.inr (Or.inr (Or.inr (Or.inr (Or.inr (Or.inr (Or.inr (Or.inr (Or.inr (Or.inl rfl))))))))))))
    · skip
      obtain ⟨J, rfl⟩ : ∃ J, N = J + 1 := ⟨N - 1, by omega⟩
      exact in_c (i := J) (k := k) (by omega) (by omega) ((cellE_mem _ _ _).2 (Or.inr (Or.inl rfl)))
    · skip
      obtain ⟨J, rfl⟩ : ∃ J, N = J + 1 := ⟨N - 1, by omega⟩
      exact in_e (k := k) (by omega) ((endE_mem _ _ _).2 (Or.inr (Or.inr (Or.inr (Or.inr (Or.inr (Or.inr (Or.inr (Or.inr (Or.inr (Or.inl rfl)))))))))))
    · skip
      obtain ⟨J, rfl⟩ : ∃ J, N = J + 1 := ⟨N - 1, by omega⟩
      exact in_e (k := k) (by omega) ((endE_mem _ _ _).2 (Or.inr (Or.inr (Or.inr (Or.inr (Or.inr (Or.inr (Or.inr (Or.inr (Or.inl rfl))))))))))
    · skip
      obtain ⟨J, rfl⟩ : ∃ J, N = J + 1 := ⟨N - 1, by omega⟩
      rcases (by omega : k + 1 < M ∨ M = k + 1) with h1 | rfl
      · exact in_e (k := k + 1) (by omega) ((endE_mem _ _ _).2 (Or.inr (Or.inr (Or.inr (Or.inr (Or.inr (Or.inr (Or.inl rfl))))))))
      · exact in_f (i := J) (by omega) ((flatE_mem _ _ _).2 (Or.inr (Or.inr (Or.inr (Or.inr (Or.inr (Or.inr (Or.inr (Or.inr (Or.inr (Or.inr (Or.inl rfl))))))))))))
    · skip
      obtain ⟨J, rfl⟩ : ∃ J, N = J + 1 := ⟨N - 1, by omega⟩
      exact in_c (i := J) (k := k) (by omega) (by omega) ((cellE_mem _ _ _).2 (Or.inr (Or.inr (Or.inr (Or.inr (Or.inr (Or.inr (Or.inr (Or.inl rfl)))))))))
def sr (g : Nat → Int) : Nat → Int
  | 0 => 0
  | n + 1 => sr g n + g n
def hq (X Z : Nat → Int) (H : Nat → Nat → Int) (i k : Nat) : Int := 2 * (H i k + H (i + 1) k) * (Z k * (X (i + 1) - X i))
end Go.Proofs.Ytkpochkfijplaaa.Sf
