/-
  Corners, areas and moments of a waterline as fractions.
  (Written by wip/pack.py out of XFNumB.)
-/
import Derived.Test.YthikaimhmpenhaaDoorK29

namespace Go.Proofs.YthikaimhmpenhaaDoor
set_option linter.all false
open Go Go.RowKit Wd
open Sf (sr)
set_option maxRecDepth 100000
def AtQ (z z0 z1 a b : Int) (r : Fr) : Prop := ∃ o1 o2 o3 t, OfC a 1 o1 ∧ OfC (z - z0) (z1 - z0) o2 ∧ OfC (b - a) 1 o3 ∧ TimC 2 (pk2 o2 o3) t ∧ SumC 2 (pk2 o1 t) r
theorem atQ {z z0 z1 a b : Int} (t D : Nat) (hz : z0 < z) (hz1 : z < z1) (hd : z1 - z0 ≤ 120) (hD : 0 < D) (hD' : D ≤ 120) (ht : t ≤ D) (he : (t : Int) * (z1 - z0) = (z - z0) * (D : Int)) (ha : 0 ≤ a) (ha' : a ≤ 2000) (hb : 0 ≤ b) (hb' : b ≤ 2000) :
    AtQ z z0 z1 a b (q ((D : Int) * a + (t : Int) * (b - a)) D) := by
  obtain ⟨e, hE⟩ : ∃ e : Nat, z1 - z0 = (e : Int) := ⟨(z1 - z0).toNat, by omega⟩
  have o2 := ofQ (z - z0) e (by omega) (by omega) (by omega) (by omega)
  rw [q_eq (y := (t : Int)) (n := D) (by omega) hD (by rw [he.symm, hE])] at o2
  rw [← hE] at o2
  have htD : (t : Int) * (b - a) ≤ 240000 ∧ -240000 ≤ (t : Int) * (b - a) := by
    have h1 : (t : Int) ≤ 120 := by omega
    have h0 : (0 : Int) ≤ t := by omega
    constructor
    · rcases Int.le_total 0 (b - a) with h | h
      · exact Int.le_trans (Int.mul_le_mul h1 (by omega : b - a ≤ 2000) h (by omega)) (by omega)
      · exact Int.le_trans (Int.mul_nonpos_of_nonneg_of_nonpos h0 h) (by omega)
    · rcases Int.le_total 0 (b - a) with h | h
      · exact Int.le_trans (by omega) (Int.mul_nonneg h0 h)
      · have := Int.mul_le_mul h1 (by omega : a - b ≤ 2000) (by omega : 0 ≤ a - b) (by omega)
        have e2 : (t : Int) * (a - b) = -((t : Int) * (b - a)) := by grind
        omega
  refine ⟨q a 1, q t D, q (b - a) 1, q ((t : Int) * (b - a)) D, ofQ a 1 (by omega) (by omega) (by omega) (by omega), o2, ofQ (b - a) 1 (by omega) (by omega) (by omega) (by omega), ?_, ?_⟩
  · exact tim2E (B := 120) (M := 120) (B' := 2000) (M' := 1) ⟨by omega, by omega, by omega, by omega, by omega, by omega⟩ (bd _ _ (by omega) (by omega) hD hD') (bd _ _ (by omega) (by omega) (by omega) (by omega)) hD (by simp)
  · refine sum2E (B := 2000) (M := 1) (B' := 240000) (M' := 120) ⟨by omega, by omega, by omega, by omega, by omega, by omega⟩ (bd _ _ (by omega) (by omega) (by omega) (by omega)) (bd _ _ (by omega) (by omega) hD hD') hD ?_
    simp only [Int.natCast_one, Int.mul_one, Int.one_mul]
    rw [Int.mul_comm a]
theorem ofQ1 {a : Int} {D : Nat} (hD : 0 < D) (h0 : -1000000 ≤ a) (h1 : a ≤ 1000000) : OfC a 1 (q ((D : Int) * a) D) := by
  have := ofQ a 1 (by omega) (by omega) (by omega) (by omega)
  rwa [q_eq (y := (D : Int) * a) (n := D) (by omega) hD (by simp [Int.mul_comm])] at this
theorem overQ {f : FuncId} {n : Nat} {gx gy : Nat → Fr} (hcf : Enters f) (T : Nat → Int) (Dq B M : Nat) (hn : 1 ≤ n) (hn' : n ≤ 100) (hq : 0 < Dq) (hM : Dq ≤ M) (hM1 : M < 4294967296) (hB : B * M + B * M < 18446744073709551616)
    (ht : ∀ i, i + 1 < n → StripC f (gx i) (gy i) (gx (i + 1)) (gy (i + 1)) (q (T i) Dq)) (h0 : ∀ i, i + 1 < n → 0 ≤ T i) (hs : ∀ j, j + 1 ≤ n → sr T j ≤ B) :
    ∀ (bx cx b2 cy : Nat) (w : World), Tab64 w → Rf w bx n gx → Rf w b2 n gy →
      Calls Tryd.prog 39 #[.agg #[.func (.func f) #[] #[]], .slice (some ⟨bx, 0, none⟩) n cx, .slice (some ⟨b2, 0, none⟩) n cy] w fun e w' => e = .returned (.agg #[.bool ((q (sr T (n - 1)) Dq).s), .int .u64 ((((q (sr T (n - 1)) Dq).a) : Nat) : Int), .int .u64 0, .int .u64 0, .int .u64 0, .bool false, .int .u64 ((((q (sr T (n - 1)) Dq).d) : Nat) : Int), .int .u64 0, .int .u64 0, .int .u64 0]) ∧ Below w.heap.size w w' := by
  intro bx cx b2 cy w hT hx hy
  have hpos : ∀ j, j + 1 ≤ n → 0 ≤ sr T j := fun j hj => Sf.sr_nonneg j (fun i hi => h0 i (by omega))
  have hM2 : B < 18446744073709551616 := by
    have := Nat.mul_le_mul_left B (by omega : 1 ≤ M)
    omega
  have hMM : M * M < 18446744073709551616 := by
    have := Nat.mul_le_mul (by omega : M ≤ 4294967295) (by omega : M ≤ 4294967295)
    omega
  refine overH f hcf n gx gy (fun i => q (sr T i) Dq) (fun i => q (T i) Dq) hn hn' ?_ ht (fun i hi => ?_) _ rfl bx cx b2 cy w hT hx hy
  · have := ofQ 0 1 (by omega) (by omega) (by omega) (by omega)
    rwa [q_eq (y := 0) (n := Dq) (by omega) hq (by simp)] at this
  · have h1 := hpos i (by omega)
    have h2 := hs i (by omega)
    have h3 := hs (i + 1) (by omega)
    have h4 := h0 i hi
    have e : sr T (i + 1) = sr T i + T i := rfl
    rw [e] at h3 ⊢
    exact sum2S (B := B) (M := M) (B' := B) (M' := M) ⟨hM2, hM2, by omega, by omega, hB, hMM⟩ (bd _ _ (by omega) (by omega) hq hM) (bd _ _ (by omega) (by omega) hq hM)
theorem sr_two (T : Nat → Int) : ∀ N, sr T (2 * N) = sr (fun i => T (2 * i) + T (2 * i + 1)) N
  | 0 => rfl
  | N + 1 => by
    rw [show 2 * (N + 1) = 2 * N + 1 + 1 by omega]
    simp only [sr]
    rw [sr_two T N]
    omega
end Go.Proofs.YthikaimhmpenhaaDoor
