/-
  What package ratio's plus and short return, of natural numbers that fit in a word.
-/
import Derived.Test.YtfmmnnodihpgmaaDoorLong
namespace Go.Proofs.YtfmmnnodihpgmaaDoor
set_option linter.all false
open Go Go.RowKit Wd
set_option maxRecDepth 100000
theorem get_long0 (S : Nat) : (#[.bool false, .int .u64 (((S) : Nat) : Int), .int .u64 0, .int .u64 0, .int .u64 0, .int .u64 0, .int .u64 0, .int .u64 0, .int .u64 0, .int .u64 0] : Array Value)[1 + 0]? = some (.int .u64 (S : Int)) := rfl
theorem get_long (S k : Nat) (h : 1 ≤ k) (h' : k < 9) : (#[.bool false, .int .u64 (((S) : Nat) : Int), .int .u64 0, .int .u64 0, .int .u64 0, .int .u64 0, .int .u64 0, .int .u64 0, .int .u64 0, .int .u64 0] : Array Value)[1 + k]? = some (.int .u64 0) := by
  match k, h, h' with
  | 1, _, _ | 2, _, _ | 3, _, _ | 4, _, _ | 5, _, _ | 6, _, _ | 7, _, _ | 8, _, _ => rfl
theorem set_long0 {w : World} {B S S' : Nat} (h : ∀ o, w.cell? ⟨B, o, none⟩ = (#[.bool false, .int .u64 (((S) : Nat) : Int), .int .u64 0, .int .u64 0, .int .u64 0, .int .u64 0, .int .u64 0, .int .u64 0, .int .u64 0, .int .u64 0] : Array Value)[o]?) :
    ∀ o, (w.setCell ⟨B, 1 + 0, none⟩ (.int .u64 (S' : Int))).cell? ⟨B, o, none⟩ = (#[.bool false, .int .u64 (((S') : Nat) : Int), .int .u64 0, .int .u64 0, .int .u64 0, .int .u64 0, .int .u64 0, .int .u64 0, .int .u64 0, .int .u64 0] : Array Value)[o]? := by
  have h0 := set_at (i := 1) (v := .int .u64 (S' : Int)) h
  exact h0
theorem set_long1 {w : World} {B S k : Nat} (hk : 1 ≤ k) (hk' : k < 9) (h : ∀ o, w.cell? ⟨B, o, none⟩ = (#[.bool false, .int .u64 (((S) : Nat) : Int), .int .u64 0, .int .u64 0, .int .u64 0, .int .u64 0, .int .u64 0, .int .u64 0, .int .u64 0, .int .u64 0] : Array Value)[o]?) :
    ∀ o, (w.setCell ⟨B, 1 + k, none⟩ (.int .u64 0)).cell? ⟨B, o, none⟩ = (#[.bool false, .int .u64 (((S) : Nat) : Int), .int .u64 0, .int .u64 0, .int .u64 0, .int .u64 0, .int .u64 0, .int .u64 0, .int .u64 0, .int .u64 0] : Array Value)[o]? := by
  have h0 := set_at (i := 1 + k) (v := .int .u64 0) h
  intro o
  rw [h0 o]
  match k, hk, hk' with
  | 1, _, _ | 2, _, _ | 3, _, _ | 4, _, _ | 5, _, _ | 6, _, _ | 7, _, _ | 8, _, _ => rfl
/-- The call's own memory while it adds. -/
def PluMem (w : World) (S b : Nat) (wr : World) : Prop :=
  (∀ o, wr.cell? ⟨w.heap.size, o, none⟩ = (#[.bool false, .int .u64 (((S) : Nat) : Int), .int .u64 0, .int .u64 0, .int .u64 0, .int .u64 0, .int .u64 0, .int .u64 0, .int .u64 0, .int .u64 0] : Array Value)[o]?) ∧ (∀ o, wr.cell? ⟨w.heap.size + 1, o, none⟩ = (#[.bool false, .int .u64 (((b) : Nat) : Int), .int .u64 0, .int .u64 0, .int .u64 0, .int .u64 0, .int .u64 0, .int .u64 0, .int .u64 0, .int .u64 0] : Array Value)[o]?)
  ∧ (∀ o, wr.cell? ⟨w.heap.size + 1 + 1, o, none⟩ = (#[.bool false, .int .u64 (((0) : Nat) : Int), .int .u64 0, .int .u64 0, .int .u64 0, .int .u64 0, .int .u64 0, .int .u64 0, .int .u64 0, .int .u64 0] : Array Value)[o]?)
  ∧ (∀ o, wr.frozen? ⟨w.heap.size, o, none⟩ = false) ∧ (∀ o, wr.frozen? ⟨w.heap.size + 1 + 1, o, none⟩ = false)
  ∧ w.heap.size + 1 + 1 < wr.heap.size ∧ Below w.heap.size w wr
theorem PluMem.set0 {w wr : World} {S S' b : Nat} (h : PluMem w S b wr) : PluMem w S' b (wr.setCell ⟨w.heap.size, 1 + 0, none⟩ (.int .u64 (S' : Int))) := by
  obtain ⟨c0, c1, c2, f0, f2, z, hb⟩ := h
  exact ⟨set_long0 c0, set_far (by omega) c1, set_far (by omega) c2, fun o => by rw [World.frozen?_setCell]; exact f0 o, fun o => by rw [World.frozen?_setCell]; exact f2 o, by simpa using z, hb.setCell (by simp) _⟩
theorem PluMem.set1 {w wr : World} {S b k : Nat} (hk : 1 ≤ k) (hk' : k < 9) (h : PluMem w S b wr) : PluMem w S b (wr.setCell ⟨w.heap.size, 1 + k, none⟩ (.int .u64 0)) := by
  obtain ⟨c0, c1, c2, f0, f2, z, hb⟩ := h
  exact ⟨set_long1 hk hk' c0, set_far (by omega) c1, set_far (by omega) c2, fun o => by rw [World.frozen?_setCell]; exact f0 o, fun o => by rw [World.frozen?_setCell]; exact f2 o, by simpa using z, hb.setCell (by simp) _⟩
theorem PluMem.drew {w wr : World} {S b : Nat} (h : PluMem w S b wr) : PluMem w S b wr.drew := by
  obtain ⟨c0, c1, c2, f0, f2, z, hb⟩ := h
  exact ⟨c0, c1, c2, f0, f2, z, hb.drew⟩
set_option maxHeartbeats 1000000 in
/-- plus: of natural numbers whose sum fits in a word. -/
theorem lplus_any (a b : Nat) (hab : a + b < 18446744073709551616) (w : World) :
    Calls Tryd.prog 70 #[(.agg #[.bool false, .int .u64 (((a) : Nat) : Int), .int .u64 0, .int .u64 0, .int .u64 0, .int .u64 0, .int .u64 0, .int .u64 0, .int .u64 0, .int .u64 0]), (.agg #[.bool false, .int .u64 (((b) : Nat) : Int), .int .u64 0, .int .u64 0, .int .u64 0, .int .u64 0, .int .u64 0, .int .u64 0, .int .u64 0, .int .u64 0])] w fun e w' => e = .returned (.agg #[.bool false, .int .u64 (((a + b) : Nat) : Int), .int .u64 0, .int .u64 0, .int .u64 0, .int .u64 0, .int .u64 0, .int .u64 0, .int .u64 0, .int .u64 0]) ∧ Below w.heap.size w w' := by
  have r0 := run_add64_nn a b (by omega) (by omega)
  rw [show lo64 a b = a + b by unfold lo64; exact Nat.mod_eq_of_lt hab, show hi64 a b = 0 by unfold hi64; exact Nat.div_eq_of_lt hab] at r0
  have r1 := run_add64_nn 0 0 (by omega) (by omega)
  rw [show lo64 0 0 = 0 by unfold lo64; rfl, show hi64 0 0 = 0 by unfold hi64; rfl] at r1
  simp only [Int.natCast_zero, Int.cast_ofNat_Int] at r0 r1
  obtain ⟨P, hP⟩ : ∃ P, P = a + b := ⟨_, rfl⟩
  rw [← hP] at r0
  rw [← hP]
  clear hP hab
  go_enter Tryd.func70, Tryd.ntmps70
  go_wp2
  go_loopw [5, 14] (fun c i wr => ∃ k S : Nat, k ≤ 9 ∧ i = .int .i64 k ∧ c = .int .u64 0 ∧ (k = 0 ∧ S = a ∨ 1 ≤ k ∧ S = P) ∧ PluMem w S b wr) (fun _ i _ => 9 - (intOf i).toNat)
  case atStart =>
    exact ⟨0, a, by omega, rfl, rfl, Or.inl ⟨rfl, rfl⟩, fun o => by simp [go_sem], fun o => by simp [go_sem], fun o => by simp [go_sem], fun o => by simp [go_sem], fun o => by simp [go_sem], by simp, by go_grown⟩
  case round =>
    obtain ⟨k, S, hk, rfl, rfl, hS, HM⟩ := hrel
    have HM0 := Lib.hid HM
    obtain ⟨c0, c1, c2, f0, f2, hz, hb⟩ := HM
    by_cases hlt : k < 9
    · have hf := f0 (1 + k)
      rcases hS with ⟨rfl, rfl⟩ | ⟨h1, rfl⟩
      · go_wp2
        go_region
        go_wp2
        go_roundw
        case rel => exact ⟨1, P, by omega, rfl, rfl, Or.inr ⟨by omega, rfl⟩, (HM0.out.set0 (S' := P)).drew⟩
        case measure => simp [intOf]
      · have d0 := (c0 (1 + k)).trans (get_long S k h1 hlt)
        have d1 := (c1 (1 + k)).trans (get_long b k h1 hlt)
        clear c0 c1
        go_wp2
        go_region
        go_wp2
        go_roundw
        case rel => exact ⟨k + 1, S, by omega, by go_num, rfl, Or.inr ⟨by omega, rfl⟩, (HM0.out.set1 h1 hlt).drew⟩
        case measure => simp [intOf]; omega
    · obtain rfl : k = 9 := by omega
      obtain rfl : S = P := by omega
      have z0 : w.heap.size < wr.heap.size := by omega
      go_wp2_with ((with_reducible show bodyPost _ _ _ _ _ _); refine bodyPost_ret (by simp [results, Tryd.results70, go_sem, c0, c2, f2, hz]; try rfl) rfl ?_; exact ⟨rfl, by (repeat' (first | (with_reducible exact Below.refl _ _) | (with_reducible assumption) | (with_reducible refine below_alloc ?_ _) | (with_reducible refine Below.drew ?_) | (with_reducible refine Below.setCell ?_ ?_ _) | (with_reducible refine below_after ?_ (by assumption)) | go_size))⟩)
theorem array_at9 (b o : Nat) (w : World) : (Instr.arrayAt 31 (.slice (some ⟨b, o, none⟩) 4 9)).run Tryd.prog w = .ok (.pointer (some ⟨b, o, none⟩)) w := by kernel_rfl
set_option maxHeartbeats 1000000 in
/-- short: of a natural number that fits in a word. -/
theorem short_any (S : Nat) (w : World) :
    Calls Tryd.prog 75 #[(.agg #[.bool false, .int .u64 (((S) : Nat) : Int), .int .u64 0, .int .u64 0, .int .u64 0, .int .u64 0, .int .u64 0, .int .u64 0, .int .u64 0, .int .u64 0])] w fun e w' => e = .returned (.tuple #[.agg #[.bool false, .int .u64 (S : Int), .int .u64 0, .int .u64 0, .int .u64 0], .bool true]) ∧ Below w.heap.size w w' := by
  have k1 := array_at9
  go_enter Tryd.func75, Tryd.ntmps75
  go_wp2
  refine wp_loop_rounds 6 ?_
  iterate 5 (rw [rounds_succ]; go_wp2)
  rw [rounds_succ]
  go_wp2
  go_region
  go_wp2_with ((with_reducible show bodyPost _ _ _ _ _ _); refine bodyPost_ret (by simp [results, Tryd.results75, go_sem, ]; try rfl) rfl ?_; exact ⟨rfl, by (repeat' (first | (with_reducible exact Below.refl _ _) | (with_reducible assumption) | (with_reducible refine below_alloc ?_ _) | (with_reducible refine Below.drew ?_) | (with_reducible refine Below.setCell ?_ ?_ _) | (with_reducible refine below_after ?_ (by assumption)) | go_size))⟩)
end Go.Proofs.YtfmmnnodihpgmaaDoor
