/-
  What the reference's small returns, for all inputs.
-/
import Derived.Test.YtnbdccobfmlhbaaDoorRefB
namespace Go.Proofs.YtnbdccobfmlhbaaDoor
set_option linter.all false
open Go Go.RowKit Wd
set_option maxRecDepth 100000
/-- The rest before the half-word k is taken in, the number that is divided then. -/
@[irreducible] def restS (a n k : Nat) : Nat := (a / 2 ^ (32 * k)) % n
@[irreducible] def vS (a n k : Nat) : Nat := restS a n (k + 1) * 4294967296 + hn a k
theorem restS_top {a n : Nat} (ha : a < 2 ^ 256) : restS a n 8 = 0 := by unfold restS; rw [show 32 * 8 = 256 from rfl, Nat.div_eq_of_lt ha]; simp
theorem restS_zero (a n : Nat) : restS a n 0 = a % n := by unfold restS; simp
theorem restS_lt {a n k : Nat} (h : 0 < n) : restS a n k < n := by unfold restS; exact Nat.mod_lt _ h
theorem high_nat (a k : Nat) : a / 2 ^ (32 * k) = 4294967296 * (a / 2 ^ (32 * (k + 1))) + hn a k := by
  unfold hn
  rw [pow32_next, ← Nat.div_div_eq_div_mul]
  generalize a / 2 ^ (32 * k) = x
  omega
theorem vS_eq {a n k : Nat} : a / 2 ^ (32 * k) = vS a n k + n * (4294967296 * (a / 2 ^ (32 * (k + 1)) / n)) := by
  unfold vS restS
  conv => lhs; rw [high_nat a k]
  have h := Nat.mod_add_div (a / 2 ^ (32 * (k + 1))) n
  generalize a / 2 ^ (32 * (k + 1)) % n = m at *
  generalize hq : a / 2 ^ (32 * (k + 1)) / n = q at *
  rw [← h, Nat.mul_left_comm n 4294967296 q]
  omega
theorem vS_mod (a n k : Nat) : vS a n k % n = restS a n k := by
  conv => rhs; unfold restS; rw [vS_eq (a := a) (n := n) (k := k), Nat.add_mul_mod_self_left]
theorem vS_lt {a n k : Nat} (h : 0 < n) (hn' : n ≤ 2147483648) : vS a n k < n * 4294967296 := by
  unfold vS
  have h1 := restS_lt (a := a) (k := k + 1) h
  have h2 := hn_lt a k
  omega
theorem vS_div {a n k : Nat} (h : 0 < n) (hn' : n ≤ 2147483648) : vS a n k / n = hn (a / n) k := by
  have h1 := vS_lt (a := a) (k := k) h hn'
  have h2 : vS a n k / n < 4294967296 := by rw [Nat.div_lt_iff_lt_mul h, Nat.mul_comm]; exact h1
  unfold hn
  rw [Nat.div_div_eq_div_mul, Nat.mul_comm n, ← Nat.div_div_eq_div_mul, vS_eq (a := a) (n := n) (k := k), Nat.add_mul_div_left _ _ h]
  generalize vS a n k / n = q at *
  generalize a / 2 ^ (32 * (k + 1)) / n = x
  omega
theorem vS_wrap {a n k : Nat} (h : 0 < n) (hn' : n ≤ 2147483648) : IntKind.u64.wrap (IntKind.u64.wrap ((restS a n (k + 1) : Int) * 4294967296) + hw a k) = (vS a n k : Int) := by
  have h1 := restS_lt (a := a) (k := k + 1) h
  have h2 := hn_lt a k
  rw [hw_hn, IntKind.wrap_u64, IntKind.wrap_u64]
  unfold vS
  omega
/-- A number whose half-words from k on are those of c, and the others those of a. -/
structure MixD (c a k S : Nat) : Prop where
  high : ∀ o, k ≤ o → o < 8 → hw S o = hw c o
  low : ∀ o, o < k → hw S o = hw a o
theorem MixD.start (c a : Nat) : MixD c a 8 a := ⟨fun o h h' => by omega, fun o _ => rfl⟩
theorem MixD.next {c a k S : Nat} (h : MixD c a (k + 1) S) : MixD c a k (seth S k (hn c k)) := by
  refine ⟨fun o ho h8 => ?_, fun o ho => ?_⟩
  · rcases (by omega : o = k ∨ k < o) with rfl | h1
    · rw [hw_set_same _ _ _ (hn_lt _ _), hw_hn c]
    · rw [hw_set_high _ _ _ _ (hn_lt _ _) h1, h.high o (by omega) h8]
  · rw [hw_set_low _ _ _ _ ho, h.low o (by omega)]
theorem MixD.done {c a S : Nat} (h : MixD c a 0 S) : (#[.int .u64 (hw (S) 0), .int .u64 (hw (S) 1), .int .u64 (hw (S) 2), .int .u64 (hw (S) 3), .int .u64 (hw (S) 4), .int .u64 (hw (S) 5), .int .u64 (hw (S) 6), .int .u64 (hw (S) 7)] : Array Value) = #[.int .u64 (hw (c) 0), .int .u64 (hw (c) 1), .int .u64 (hw (c) 2), .int .u64 (hw (c) 3), .int .u64 (hw (c) 4), .int .u64 (hw (c) 5), .int .u64 (hw (c) 6), .int .u64 (hw (c) 7)] := by
  rw [h.high 0 (by omega) (by omega), h.high 1 (by omega) (by omega), h.high 2 (by omega) (by omega), h.high 3 (by omega) (by omega), h.high 4 (by omega) (by omega), h.high 5 (by omega) (by omega), h.high 6 (by omega) (by omega), h.high 7 (by omega) (by omega)]
/-- The call's own memory while it divides by a small number. -/
def OneMem (w : World) (S : Nat) (wr : World) : Prop :=
  (∀ o, wr.cell? ⟨w.heap.size, o, none⟩ = (#[.int .u64 (hw (S) 0), .int .u64 (hw (S) 1), .int .u64 (hw (S) 2), .int .u64 (hw (S) 3), .int .u64 (hw (S) 4), .int .u64 (hw (S) 5), .int .u64 (hw (S) 6), .int .u64 (hw (S) 7)] : Array Value)[o]?)
  ∧ (∀ o, wr.cell? ⟨w.heap.size + 1, o, none⟩ = (#[.int .u64 0, .int .u64 0, .int .u64 0, .int .u64 0, .int .u64 0, .int .u64 0, .int .u64 0, .int .u64 0] : Array Value)[o]?)
  ∧ (∀ o, wr.frozen? ⟨w.heap.size, o, none⟩ = false) ∧ (∀ o, wr.frozen? ⟨w.heap.size + 1, o, none⟩ = false)
  ∧ w.heap.size + 1 < wr.heap.size ∧ Below w.heap.size w wr
theorem OneMem.set {w wr : World} {S j v : Nat} {x : Int} (hj : j < 8) (hx : x = (v : Int)) (hv : v < 4294967296) (h : OneMem w S wr) :
    OneMem w (seth S j v) (wr.setCell ⟨w.heap.size, j, none⟩ (.int .u64 x)) := by
  obtain ⟨c0, c2, f0, f2, z, hb⟩ := h
  exact ⟨set_half8 hj hx hv c0, set_away (by omega) c2, fun o => by rw [World.frozen?_setCell]; exact f0 o, fun o => by rw [World.frozen?_setCell]; exact f2 o, by simpa using z, hb.setCell (by simp) _⟩
set_option maxHeartbeats 1000000 in
/-- small: quotient and rest of a magnitude and a small number. -/
theorem small_any (a n : Nat) (ha : a < 2 ^ 256) (h0 : 0 < n) (hn' : n ≤ 2147483648) (w : World) :
    Calls Tryd.prog 56 #[(.agg #[.int .u64 (hw (a) 0), .int .u64 (hw (a) 1), .int .u64 (hw (a) 2), .int .u64 (hw (a) 3), .int .u64 (hw (a) 4), .int .u64 (hw (a) 5), .int .u64 (hw (a) 6), .int .u64 (hw (a) 7)]), .int .u64 (n : Int)] w fun e w' => e = .returned (.tuple #[(.agg #[.int .u64 (hw (a / n) 0), .int .u64 (hw (a / n) 1), .int .u64 (hw (a / n) 2), .int .u64 (hw (a / n) 3), .int .u64 (hw (a / n) 4), .int .u64 (hw (a / n) 5), .int .u64 (hw (a / n) 6), .int .u64 (hw (a / n) 7)]), .int .u64 ((a % n : Nat) : Int)]) ∧ Below w.heap.size w w' := by
  have HA := Lib.hid ha
  have HN := Lib.hid hn'
  have H0 := Lib.hid h0
  clear ha hn' h0
  go_enter Tryd.func56, Tryd.ntmps56
  go_wp2
  go_loopw [6, 7] (fun c i wr => ∃ k S : Nat, k ≤ 8 ∧ i = .int .i64 ((k : Int) - 1) ∧ c = .int .u64 (restS a n k) ∧ MixD (a / n) a k S ∧ OneMem w S wr) (fun _ i _ => (intOf i + 1).toNat)
  case atStart =>
    refine ⟨8, a, by omega, rfl, by rw [restS_top HA.out]; rfl, MixD.start _ _, ?_⟩
    exact ⟨fun o => by simp [go_sem], fun o => by simp [go_sem], fun o => by simp [go_sem], fun o => by simp [go_sem], by simp, by go_grown⟩
  case round =>
    obtain ⟨k, S, hk, rfl, rfl, HX, HM⟩ := hrel
    by_cases hlt : k = 0
    · subst hlt
      obtain ⟨c0, c2, f0, f2, hz, hb⟩ := HM
      rw [HX.done] at c0
      rw [restS_zero]
      clear hk HX
      go_wp2_with ((with_reducible show bodyPost _ _ _ _ _ _); refine bodyPost_ret (by simp [results, Tryd.results56, go_sem, c0, c2, hz]; try rfl) rfl ?_; exact ⟨rfl, by (repeat' (first | (with_reducible exact Below.refl _ _) | (with_reducible assumption) | (with_reducible refine below_alloc ?_ _) | (with_reducible refine Below.drew ?_) | (with_reducible refine Below.setCell ?_ ?_ _) | (with_reducible refine below_after ?_ (by assumption)) | go_size))⟩)
    · obtain ⟨k, rfl⟩ : ∃ n, k = n + 1 := ⟨k - 1, by omega⟩
      rw [show (((k + 1 : Nat) : Int) - 1) = (k : Int) by omega]
      have hk7 : (k : Int) ≤ 7 := by omega
      have ca : wr.cell? ⟨w.heap.size, k, none⟩ = some (.int .u64 (hw a k)) := by rw [HM.1, get_half8 S k (by omega), HX.low k (by omega)]
      have fa := HM.2.2.1 k
      have s0 := vS_wrap (a := a) (k := k) H0.out HN.out
      have n0 : ¬ n = 0 := by have := H0.out; omega
      have q0 : IntKind.u64.wrap ((vS a n k : Int) / (n : Int)) = hw (a / n) k := by
        rw [← Int.natCast_ediv, vS_div H0.out HN.out, hw_hn, IntKind.wrap_u64]
        have := hn_lt (a / n) k
        omega
      have r0 : (vS a n k : Int) % (n : Int) = (restS a n k : Int) := by rw [← Int.natCast_emod, vS_mod]
      have HX' := Lib.hid HX
      have HM' := Lib.hid HM
      clear HX HM hlt hk
      go_wp2
      go_roundw
      case rel => exact ⟨k, _, by omega, rfl, by rw [r0], HX'.out.next, HM'.out.set (by omega) (hw_hn _ _) (hn_lt _ _)⟩
      case measure => simp [intOf]
end Go.Proofs.YtnbdccobfmlhbaaDoor
