/-
  What the reference's divide returns, for all inputs.
-/
import Derived.Test.YtnbdccobfmlhbaaDoorRefD
import Derived.Test.YtnbdccobfmlhbaaDoorHDivM
namespace Go.Proofs.YtnbdccobfmlhbaaDoor
set_option linter.all false
open Go Go.RowKit Wd
set_option maxRecDepth 100000
/-- The call's own memory while it divides; Q, R: quotient and rest so far. -/
def RefMem (w : World) (a b Q R : Nat) (wr : World) : Prop :=
  (∀ o, wr.cell? ⟨w.heap.size, o, none⟩ = (#[.int .u64 (hw (a) 0), .int .u64 (hw (a) 1), .int .u64 (hw (a) 2), .int .u64 (hw (a) 3), .int .u64 (hw (a) 4), .int .u64 (hw (a) 5), .int .u64 (hw (a) 6), .int .u64 (hw (a) 7)] : Array Value)[o]?) ∧ (∀ o, wr.cell? ⟨w.heap.size + 1, o, none⟩ = (#[.int .u64 (hw (b) 0), .int .u64 (hw (b) 1), .int .u64 (hw (b) 2), .int .u64 (hw (b) 3), .int .u64 (hw (b) 4), .int .u64 (hw (b) 5), .int .u64 (hw (b) 6), .int .u64 (hw (b) 7)] : Array Value)[o]?)
  ∧ (∀ o, wr.cell? ⟨w.heap.size + 1 + 1, o, none⟩ = (#[.int .u64 0, .int .u64 0, .int .u64 0, .int .u64 0, .int .u64 0, .int .u64 0, .int .u64 0, .int .u64 0] : Array Value)[o]?)
  ∧ (∀ o, wr.cell? ⟨w.heap.size + 1 + 1 + 1, o, none⟩ = (#[.int .u64 0, .int .u64 0, .int .u64 0, .int .u64 0, .int .u64 0, .int .u64 0, .int .u64 0, .int .u64 0] : Array Value)[o]?)
  ∧ (∀ o, wr.cell? ⟨w.heap.size + 1 + 1 + 1 + 1, o, none⟩ = (#[.int .u64 (hw (Q) 0), .int .u64 (hw (Q) 1), .int .u64 (hw (Q) 2), .int .u64 (hw (Q) 3), .int .u64 (hw (Q) 4), .int .u64 (hw (Q) 5), .int .u64 (hw (Q) 6), .int .u64 (hw (Q) 7)] : Array Value)[o]?)
  ∧ (∀ o, wr.cell? ⟨w.heap.size + 1 + 1 + 1 + 1 + 1, o, none⟩ = (#[.int .u64 (hw (R) 0), .int .u64 (hw (R) 1), .int .u64 (hw (R) 2), .int .u64 (hw (R) 3), .int .u64 (hw (R) 4), .int .u64 (hw (R) 5), .int .u64 (hw (R) 6), .int .u64 (hw (R) 7)] : Array Value)[o]?)
  ∧ (∀ o, wr.frozen? ⟨w.heap.size + 1 + 1, o, none⟩ = false) ∧ (∀ o, wr.frozen? ⟨w.heap.size + 1 + 1 + 1, o, none⟩ = false)
  ∧ (∀ o, wr.frozen? ⟨w.heap.size + 1 + 1 + 1 + 1, o, none⟩ = false) ∧ (∀ o, wr.frozen? ⟨w.heap.size + 1 + 1 + 1 + 1 + 1, o, none⟩ = false)
  ∧ w.heap.size + 1 + 1 + 1 + 1 + 1 < wr.heap.size ∧ Below w.heap.size w wr
theorem RefMem.later {w wr wx : World} {a b Q R : Nat} (h : RefMem w a b Q R wr) (hb : Below wr.heap.size wr wx) : RefMem w a b Q R wx := by
  obtain ⟨c0, c1, c2, c3, c4, c5, f2, f3, f4, f5, hz, hB⟩ := h
  have z0 : w.heap.size < wr.heap.size := by omega
  have z1 : w.heap.size + 1 < wr.heap.size := by omega
  have z2 : w.heap.size + 1 + 1 < wr.heap.size := by omega
  have z3 : w.heap.size + 1 + 1 + 1 < wr.heap.size := by omega
  have z4 : w.heap.size + 1 + 1 + 1 + 1 < wr.heap.size := by omega
  refine ⟨?_, ?_, ?_, ?_, ?_, ?_, ?_, ?_, ?_, ?_, Nat.lt_of_lt_of_le hz hb.size, below_after hB hb⟩
  · exact keep_cell hb z0 c0
  · exact keep_cell hb z1 c1
  · exact keep_cell hb z2 c2
  · exact keep_cell hb z3 c3
  · exact keep_cell hb z4 c4
  · exact keep_cell hb hz c5
  · exact keep_frozen hb z2 f2
  · exact keep_frozen hb z3 f3
  · exact keep_frozen hb z4 f4
  · exact keep_frozen hb hz f5
theorem RefMem.alloc {w wr : World} {a b Q R : Nat} (h : RefMem w a b Q R wr) (O : Obj) : RefMem w a b Q R (wr.alloc O) := h.later ((Below.refl _ _).alloc (Nat.le_refl _) O)
theorem RefMem.drew {w wr : World} {a b Q R : Nat} (h : RefMem w a b Q R wr) : RefMem w a b Q R wr.drew := h.later ((Below.refl _ _).drew)
theorem set8_at {wr : World} {B : Nat} {v0 v1 v2 v3 v4 v5 v6 v7 x0 x1 x2 x3 x4 x5 x6 x7 : Value} (h : ∀ o, wr.cell? ⟨B, o, none⟩ = (#[x0, x1, x2, x3, x4, x5, x6, x7] : Array Value)[o]?) :
    ∀ o, ((((((((wr.setCell ⟨B, 0, none⟩ (v0)).setCell ⟨B, 1, none⟩ (v1)).setCell ⟨B, 2, none⟩ (v2)).setCell ⟨B, 3, none⟩ (v3)).setCell ⟨B, 4, none⟩ (v4)).setCell ⟨B, 5, none⟩ (v5)).setCell ⟨B, 6, none⟩ (v6)).setCell ⟨B, 7, none⟩ (v7)).cell? ⟨B, o, none⟩ = (#[v0, v1, v2, v3, v4, v5, v6, v7] : Array Value)[o]? := by
  have h0 := set_at (i := 0) (v := v0) h
  rw [show (#[x0, x1, x2, x3, x4, x5, x6, x7] : Array Value).setIfInBounds 0 v0 = #[v0, x1, x2, x3, x4, x5, x6, x7] from rfl] at h0
  have h1 := set_at (i := 1) (v := v1) h0
  rw [show (#[v0, x1, x2, x3, x4, x5, x6, x7] : Array Value).setIfInBounds 1 v1 = #[v0, v1, x2, x3, x4, x5, x6, x7] from rfl] at h1
  have h2 := set_at (i := 2) (v := v2) h1
  rw [show (#[v0, v1, x2, x3, x4, x5, x6, x7] : Array Value).setIfInBounds 2 v2 = #[v0, v1, v2, x3, x4, x5, x6, x7] from rfl] at h2
  have h3 := set_at (i := 3) (v := v3) h2
  rw [show (#[v0, v1, v2, x3, x4, x5, x6, x7] : Array Value).setIfInBounds 3 v3 = #[v0, v1, v2, v3, x4, x5, x6, x7] from rfl] at h3
  have h4 := set_at (i := 4) (v := v4) h3
  rw [show (#[v0, v1, v2, v3, x4, x5, x6, x7] : Array Value).setIfInBounds 4 v4 = #[v0, v1, v2, v3, v4, x5, x6, x7] from rfl] at h4
  have h5 := set_at (i := 5) (v := v5) h4
  rw [show (#[v0, v1, v2, v3, v4, x5, x6, x7] : Array Value).setIfInBounds 5 v5 = #[v0, v1, v2, v3, v4, v5, x6, x7] from rfl] at h5
  have h6 := set_at (i := 6) (v := v6) h5
  rw [show (#[v0, v1, v2, v3, v4, v5, x6, x7] : Array Value).setIfInBounds 6 v6 = #[v0, v1, v2, v3, v4, v5, v6, x7] from rfl] at h6
  have h7 := set_at (i := 7) (v := v7) h6
  rw [show (#[v0, v1, v2, v3, v4, v5, v6, x7] : Array Value).setIfInBounds 7 v7 = #[v0, v1, v2, v3, v4, v5, v6, v7] from rfl] at h7
  exact h7
theorem set8_far {wr : World} {B B' : Nat} {v0 v1 v2 v3 v4 v5 v6 v7 : Value} {xs : Array Value} (hB : B ≠ B') (h : ∀ o, wr.cell? ⟨B', o, none⟩ = xs[o]?) :
    ∀ o, ((((((((wr.setCell ⟨B, 0, none⟩ (v0)).setCell ⟨B, 1, none⟩ (v1)).setCell ⟨B, 2, none⟩ (v2)).setCell ⟨B, 3, none⟩ (v3)).setCell ⟨B, 4, none⟩ (v4)).setCell ⟨B, 5, none⟩ (v5)).setCell ⟨B, 6, none⟩ (v6)).setCell ⟨B, 7, none⟩ (v7)).cell? ⟨B', o, none⟩ = xs[o]? :=
  set_away hB (set_away hB (set_away hB (set_away hB (set_away hB (set_away hB (set_away hB (set_away hB h)))))))
theorem set8_froz {wr : World} {B B' : Nat} {v0 v1 v2 v3 v4 v5 v6 v7 : Value} (h : ∀ o, wr.frozen? ⟨B', o, none⟩ = false) :
    ∀ o, ((((((((wr.setCell ⟨B, 0, none⟩ (v0)).setCell ⟨B, 1, none⟩ (v1)).setCell ⟨B, 2, none⟩ (v2)).setCell ⟨B, 3, none⟩ (v3)).setCell ⟨B, 4, none⟩ (v4)).setCell ⟨B, 5, none⟩ (v5)).setCell ⟨B, 6, none⟩ (v6)).setCell ⟨B, 7, none⟩ (v7)).frozen? ⟨B', o, none⟩ = false := by
  intro o
  simp only [World.frozen?_setCell]
  exact h o
theorem set8_below {w wr : World} {B : Nat} {v0 v1 v2 v3 v4 v5 v6 v7 : Value} (hB : w.heap.size ≤ B) (h : Below w.heap.size w wr) : Below w.heap.size w ((((((((wr.setCell ⟨B, 0, none⟩ (v0)).setCell ⟨B, 1, none⟩ (v1)).setCell ⟨B, 2, none⟩ (v2)).setCell ⟨B, 3, none⟩ (v3)).setCell ⟨B, 4, none⟩ (v4)).setCell ⟨B, 5, none⟩ (v5)).setCell ⟨B, 6, none⟩ (v6)).setCell ⟨B, 7, none⟩ (v7)) := by
  iterate 8 (refine Below.setCell ?_ hB _)
  exact h
theorem RefMem.rest {w wr : World} {a b Q R R' : Nat} (h : RefMem w a b Q R wr) : RefMem w a b Q R' ((((((((wr.setCell ⟨w.heap.size + 1 + 1 + 1 + 1 + 1, 0, none⟩ (.int .u64 (hw R' 0))).setCell ⟨w.heap.size + 1 + 1 + 1 + 1 + 1, 1, none⟩ (.int .u64 (hw R' 1))).setCell ⟨w.heap.size + 1 + 1 + 1 + 1 + 1, 2, none⟩ (.int .u64 (hw R' 2))).setCell ⟨w.heap.size + 1 + 1 + 1 + 1 + 1, 3, none⟩ (.int .u64 (hw R' 3))).setCell ⟨w.heap.size + 1 + 1 + 1 + 1 + 1, 4, none⟩ (.int .u64 (hw R' 4))).setCell ⟨w.heap.size + 1 + 1 + 1 + 1 + 1, 5, none⟩ (.int .u64 (hw R' 5))).setCell ⟨w.heap.size + 1 + 1 + 1 + 1 + 1, 6, none⟩ (.int .u64 (hw R' 6))).setCell ⟨w.heap.size + 1 + 1 + 1 + 1 + 1, 7, none⟩ (.int .u64 (hw R' 7))) := by
  obtain ⟨c0, c1, c2, c3, c4, c5, f2, f3, f4, f5, hz, hB⟩ := h
  refine ⟨?_, ?_, ?_, ?_, ?_, ?_, ?_, ?_, ?_, ?_, ?_, ?_⟩
  · exact set8_far (by omega) c0
  · exact set8_far (by omega) c1
  · exact set8_far (by omega) c2
  · exact set8_far (by omega) c3
  · exact set8_far (by omega) c4
  · exact set8_at c5
  · exact set8_froz f2
  · exact set8_froz f3
  · exact set8_froz f4
  · exact set8_froz f5
  · simpa using hz
  · exact set8_below (by omega) hB
theorem RefMem.quot {w wr : World} {a b Q R j v : Nat} {x : Int} (hj : j < 8) (hx : x = (v : Int)) (hv : v < 4294967296) (h : RefMem w a b Q R wr) :
    RefMem w a b (seth Q j v) R (wr.setCell ⟨w.heap.size + 1 + 1 + 1 + 1, j, none⟩ (.int .u64 x)) := by
  obtain ⟨c0, c1, c2, c3, c4, c5, f2, f3, f4, f5, hz, hB⟩ := h
  exact ⟨set_away (by omega) c0, set_away (by omega) c1, set_away (by omega) c2, set_away (by omega) c3, set_half8 hj hx hv c4, set_away (by omega) c5, fun o => by rw [World.frozen?_setCell]; exact f2 o, fun o => by rw [World.frozen?_setCell]; exact f3 o, fun o => by rw [World.frozen?_setCell]; exact f4 o, fun o => by rw [World.frozen?_setCell]; exact f5 o, by simpa using hz, hB.setCell (by simp; omega) _⟩
theorem RefMem.low {w wr : World} {a b Q R c : Nat} (hc : c ≤ 1) (h : RefMem w a b Q (sm R R) wr) :
    RefMem w a b Q (tw R c) (wr.setCell ⟨w.heap.size + 1 + 1 + 1 + 1 + 1, 0, none⟩ (.int .u64 (hw (tw R c) 0))) := by
  obtain ⟨c0, c1, c2, c3, c4, c5, f2, f3, f4, f5, hz, hB⟩ := h
  refine ⟨set_away (by omega) c0, set_away (by omega) c1, set_away (by omega) c2, set_away (by omega) c3, set_away (by omega) c4, ?_, fun o => by rw [World.frozen?_setCell]; exact f2 o, fun o => by rw [World.frozen?_setCell]; exact f3 o, fun o => by rw [World.frozen?_setCell]; exact f4 o, fun o => by rw [World.frozen?_setCell]; exact f5 o, by simpa using hz, hB.setCell (by simp; omega) _⟩
  have h5 := set_at (i := 0) (v := .int .u64 (hw (tw R c) 0)) c5
  rw [tw_high hc (by omega : 0 < 1) (by omega), tw_high hc (by omega : 0 < 2) (by omega), tw_high hc (by omega : 0 < 3) (by omega), tw_high hc (by omega : 0 < 4) (by omega), tw_high hc (by omega : 0 < 5) (by omega), tw_high hc (by omega : 0 < 6) (by omega), tw_high hc (by omega : 0 < 7) (by omega)]
  exact h5
theorem low_wrap {R c : Nat} (hc : c ≤ 1) : IntKind.u64.wrap (hw (sm R R) 0 + c) = hw (tw R c) 0 := by
  rw [tw_low hc, IntKind.wrap_u64]
  have := hw_lo (sm R R) 0
  have := hw_hi (sm R R) 0
  omega
theorem quot_wrap {Q n : Nat} (h : hn Q (n / 32) + 2 ^ (n % 32) < 4294967296) : IntKind.u64.wrap (hw Q (n / 32) + (pw2 n : Int)) = ((hn Q (n / 32) + 2 ^ (n % 32) : Nat) : Int) := by
  rw [hw_hn, IntKind.wrap_u64]
  unfold pw2
  generalize 2 ^ (n % 32) = y at *
  generalize hn Q (n / 32) = x at *
  omega
set_option maxHeartbeats 4000000 in
/-- divide: quotient and rest of magnitudes. -/
theorem rdivide_any (a b : Nat) (ha : a < 2 ^ 256) (hb : b < 2 ^ 256) (hb0 : 0 < b) (w : World) :
    Calls Tryd.prog 49 #[(.agg #[.int .u64 (hw (a) 0), .int .u64 (hw (a) 1), .int .u64 (hw (a) 2), .int .u64 (hw (a) 3), .int .u64 (hw (a) 4), .int .u64 (hw (a) 5), .int .u64 (hw (a) 6), .int .u64 (hw (a) 7)]), (.agg #[.int .u64 (hw (b) 0), .int .u64 (hw (b) 1), .int .u64 (hw (b) 2), .int .u64 (hw (b) 3), .int .u64 (hw (b) 4), .int .u64 (hw (b) 5), .int .u64 (hw (b) 6), .int .u64 (hw (b) 7)])] w fun e w' => e = .returned (.tuple #[(.agg #[.int .u64 (hw (a / b) 0), .int .u64 (hw (a / b) 1), .int .u64 (hw (a / b) 2), .int .u64 (hw (a / b) 3), .int .u64 (hw (a / b) 4), .int .u64 (hw (a / b) 5), .int .u64 (hw (a / b) 6), .int .u64 (hw (a / b) 7)]), (.agg #[.int .u64 (hw (a % b) 0), .int .u64 (hw (a % b) 1), .int .u64 (hw (a % b) 2), .int .u64 (hw (a % b) 3), .int .u64 (hw (a % b) 4), .int .u64 (hw (a % b) 5), .int .u64 (hw (a % b) 6), .int .u64 (hw (a % b) 7)])]) ∧ Below w.heap.size w w' := by
  have HA := Lib.hid ha
  have HB := Lib.hid hb
  have HB0 := Lib.hid hb0
  clear ha hb hb0
  go_enter Tryd.func49, Tryd.ntmps49
  go_wp2
  go_loopw [8] (fun i wr => ∃ k Q R : Nat, k ≤ 256 ∧ i = .int .i64 ((k : Int) - 1) ∧ DivInv a b k Q R ∧ RefMem w a b Q R wr) (fun i _ => (intOf i + 1).toNat)
  case atStart =>
    refine ⟨256, 0, 0, by omega, by rfl, DivInv.start HA.out, ?_⟩
    refine ⟨fun o => by simp [go_sem], fun o => by simp [go_sem], fun o => by simp [go_sem], fun o => by simp [go_sem], fun o => ?_, fun o => ?_, fun o => by simp [go_sem], fun o => by simp [go_sem], fun o => by simp [go_sem], fun o => by simp [go_sem], by simp, by go_grown⟩
    all_goals
      simp only [hw_zero]
      simp [go_sem]
  case round =>
    obtain ⟨k, Q, R, hk, rfl, HI, HM⟩ := hrel
    by_cases h0 : k = 0
    · subst h0
      obtain ⟨rfl, rfl⟩ := HI.done
      obtain ⟨c0, c1, c2, c3, c4, c5, f2, f3, f4, f5, hz, hb⟩ := HM
      clear hk HI
      go_wp2
      go_region
      go_wp2
      go_wp2_with ((with_reducible show bodyPost _ _ _ _ _ _); refine bodyPost_ret (by simp [results, Tryd.results49, go_sem, c2, c3, c4, c5, hz]; try rfl) rfl ?_; exact ⟨rfl, by (repeat' (first | (with_reducible exact Below.refl _ _) | (with_reducible assumption) | (with_reducible refine below_alloc ?_ _) | (with_reducible refine Below.drew ?_) | (with_reducible refine Below.setCell ?_ ?_ _) | (with_reducible refine below_after ?_ (by assumption)) | go_size))⟩)
    · obtain ⟨n, rfl⟩ : ∃ n, k = n + 1 := ⟨k - 1, by omega⟩
      rw [show (((n + 1 : Nat) : Int) - 1) = (n : Int) by omega]
      have hn255 : (n : Int) ≤ 255 := by omega
      clear hk h0
      have hR := HI.rest_lt HB0.out
      have HM0 := Lib.hid HM
      have HI0 := Lib.hid HI
      obtain ⟨c0, c1, c2, c3, c4, c5, f2, f3, f4, f5, hz, hb⟩ := HM
      have q1 : IntKind.i64.wrap ((n : Int) / 32) = (n : Int) / 32 := by rw [IntKind.wrap_i64]; omega
      have q2 : IntKind.i64.wrap ((n : Int) % 32) = (n : Int) % 32 := by rw [IntKind.wrap_i64]; omega
      have q3 : (n : Int) / 32 < 8 := by omega
      have q4 : (0 : Int) ≤ (n : Int) / 32 := by omega
      have q5 : ((n : Int) / 32).toNat = n / 32 := by omega
      have q6 : ((n : Int) % 32).toNat = n % 32 := by omega
      have q7 : (n : Int) % 32 < 64 := by omega
      have q8 : (0 : Int) ≤ (n : Int) % 32 := by omega
      have t3 : min (n % 32) 64 = n % 32 := by omega
      have KP := Lib.hid (rplus_any R R (Nat.lt_trans hR HB.out) (Nat.lt_trans hR HB.out))
      clear HI hR
      have w0 : IntKind.u64.wrap (2 ^ (n % 32)) = (pw2 n : Int) := by
        have h := pw2_lt n
        unfold pw2 at *
        rw [IntKind.wrap_u64, show (2 : Int) ^ (n % 32) = ((2 ^ (n % 32) : Nat) : Int) by rw [Int.natCast_pow]; rfl]
        generalize 2 ^ (n % 32) = y at *
        omega
      go_wp2_with fail
      ((with_reducible refine (KP.out _).mono ?_); rintro e w1 ⟨rfl, hb1⟩)
      obtain ⟨hc1, hf1⟩ := bcell hb1
      have hz1_w_0 : w.heap.size < w1.heap.size := by have h := hb1.size; (try simp at h); omega
      have hz1_w_1 : w.heap.size + 1 < w1.heap.size := by have h := hb1.size; (try simp at h); omega
      have hz1_w_2 : w.heap.size + 1 + 1 < w1.heap.size := by have h := hb1.size; (try simp at h); omega
      have hz1_w_3 : w.heap.size + 1 + 1 + 1 < w1.heap.size := by have h := hb1.size; (try simp at h); omega
      have hz1_w_4 : w.heap.size + 1 + 1 + 1 + 1 < w1.heap.size := by have h := hb1.size; (try simp at h); omega
      have hz1_w_5 : w.heap.size + 1 + 1 + 1 + 1 + 1 < w1.heap.size := by have h := hb1.size; (try simp at h); omega
      have M1 := Lib.hid (HM0.out.later hb1)
      go_upto_region 8 with (fail)
      refine wp_world (RefMem w a b Q (sm R R)) ((M1.out.rest).alloc _) ?_
      intro W HW0
      have HW := Lib.hid HW0
      obtain ⟨d0, d1, d2, d3, d4, d5, g2, g3, g4, g5, gz, gb⟩ := HW0
      have ca : W.cell? ⟨w.heap.size, n / 32, none⟩ = some (.int .u64 (hw a (n / 32))) := by rw [d0, get_half8 a (n / 32) (by omega)]
      have p0 := pw2_pos n
      have s0 : IntKind.u64.wrap ((hw a (n / 32)).tdiv (pw2 n : Int)) = (dq a n : Int) := by rw [Int.tdiv_eq_ediv_of_nonneg (hw_lo _ _)]; exact dq_wrap a n
      have s1 : (dq a n : Int).tmod 2 = (bitN a n : Int) := by rw [Int.tmod_eq_emod_of_nonneg (by omega), ← dq_bit]; simp
      have s2 := low_wrap (R := R) (bitN_le a n)
      clear d0 d4 c0 c1 c2 c3 c4 c5 f2 f3 f4 f5 hz hb hc1 hf1 M1 HM0
      go_region
      go_upto_region 9 with (fail)
      clear d1 d2 d3 d5 ca g2 g3 g4 g5 gz gb s0 s1 s2 p0
      refine wp_world (RefMem w a b Q (tw R (bitN a n))) ((HW.out.low (bitN_le a n)).drew) ?_
      intro V HV0
      have HV := Lib.hid HV0
      obtain ⟨e0, e1, e2, e3, e4, e5, g2, g3, g4, g5, gz, gb⟩ := HV0
      clear e0 e4 HW KP q8 q7 q6 q2 t3 w0
      have y1 : w.heap.size + 1 < V.heap.size := by omega
      have hR := HI0.out.rest_lt HB0.out
      have HC := rcompare_any (tw R (bitN a n)) b (tw_lt _ _) HB.out
      have HK := rminus_any (tw R (bitN a n)) b (Nat.le_trans (Nat.le_of_lt HB.out) (Nat.le_add_left _ _))
      rcases ref_word HB.out hR (bitN_le a n) with ⟨k1, k2, k3⟩ | ⟨k1, k4, k2, k3⟩ | ⟨k1, k4, k2, k3⟩
      · have ho : ovB (R + R) = true := by unfold ovB; simpa using k1
        have KM := Lib.hid HK
        have E2 := Lib.hid k2
        have E3 := Lib.hid k3
        have hb8 := HI0.out.hbit
        have KB := Lib.hid hb8
        clear k2 k3 HK hb8 hR
        clear k1 HC
        go_wp2_with fail
        ((with_reducible refine (KM.out _).mono ?_); rintro e w5 ⟨rfl, hb5⟩)
        obtain ⟨hc5, hf5⟩ := bcell hb5
        have hz5_w_0 : w.heap.size < w5.heap.size := by have h := hb5.size; (try simp at h); omega
        have hz5_w_1 : w.heap.size + 1 < w5.heap.size := by have h := hb5.size; (try simp at h); omega
        have hz5_w_2 : w.heap.size + 1 + 1 < w5.heap.size := by have h := hb5.size; (try simp at h); omega
        have hz5_w_3 : w.heap.size + 1 + 1 + 1 < w5.heap.size := by have h := hb5.size; (try simp at h); omega
        have hz5_w_4 : w.heap.size + 1 + 1 + 1 + 1 < w5.heap.size := by have h := hb5.size; (try simp at h); omega
        have hz5_w_5 : w.heap.size + 1 + 1 + 1 + 1 + 1 < w5.heap.size := by have h := hb5.size; (try simp at h); omega
        have M5 := Lib.hid (HV.out.later hb5)
        go_upto_region 11 with (fail)
        refine wp_world (RefMem w a b Q (df (tw R (bitN a n)) b)) (M5.out.rest) ?_
        intro X HX0
        have HX := Lib.hid HX0
        obtain ⟨i0, i1, i2, i3, i4, i5, j2, j3, j4, j5, jz, jb⟩ := HX0
        have cq : X.cell? ⟨w.heap.size + 1 + 1 + 1 + 1, n / 32, none⟩ = some (.int .u64 (hw Q (n / 32))) := by rw [i4, get_half8 Q (n / 32) (by omega)]
        have fq := j4 (n / 32)
        clear i0 i1 i2 i3 i4 i5 j2 j3 j4 j5 M5 HV e1 e2 e3 e5 g2 g3 g4 g5
        go_wp2
        go_roundw
        case rel =>
          refine ⟨n, Q + 2 ^ n, 2 * R + bitN a n - b, by omega, rfl, HI0.out.next_yes HB0.out E2.out, ?_⟩
          rw [← KB.out.1, ← E3.out]
          exact HX.out.quot (by omega) (quot_wrap KB.out.2) KB.out.2
        case measure => simp [intOf]
      · have ho : ovB (R + R) = false := by unfold ovB; simpa using k1
        have KM := Lib.hid HK
        have E2 := Lib.hid k2
        have E3 := Lib.hid k3
        have hb8 := HI0.out.hbit
        have KB := Lib.hid hb8
        clear k2 k3 HK hb8 hR
        rcases k4 with k4 | k4
        · rw [k4] at HC
          have KC := Lib.hid HC
          clear k1 k4 HC
          go_wp2_with fail
          ((with_reducible refine (KC.out _).mono ?_); rintro e w4 ⟨rfl, hb4⟩)
          obtain ⟨hc4, hf4⟩ := bcell hb4
          have hz4_w_0 : w.heap.size < w4.heap.size := by have h := hb4.size; (try simp at h); omega
          have hz4_w_1 : w.heap.size + 1 < w4.heap.size := by have h := hb4.size; (try simp at h); omega
          have hz4_w_2 : w.heap.size + 1 + 1 < w4.heap.size := by have h := hb4.size; (try simp at h); omega
          have hz4_w_3 : w.heap.size + 1 + 1 + 1 < w4.heap.size := by have h := hb4.size; (try simp at h); omega
          have hz4_w_4 : w.heap.size + 1 + 1 + 1 + 1 < w4.heap.size := by have h := hb4.size; (try simp at h); omega
          have hz4_w_5 : w.heap.size + 1 + 1 + 1 + 1 + 1 < w4.heap.size := by have h := hb4.size; (try simp at h); omega
          have hb4' := HV.out.later hb4
          have HV := Lib.hid hb4'
          clear hb4'
          go_wp2_with fail
          ((with_reducible refine (KM.out _).mono ?_); rintro e w5 ⟨rfl, hb5⟩)
          obtain ⟨hc5, hf5⟩ := bcell hb5
          have hz5_w_0 : w.heap.size < w5.heap.size := by have h := hb5.size; (try simp at h); omega
          have hz5_w_1 : w.heap.size + 1 < w5.heap.size := by have h := hb5.size; (try simp at h); omega
          have hz5_w_2 : w.heap.size + 1 + 1 < w5.heap.size := by have h := hb5.size; (try simp at h); omega
          have hz5_w_3 : w.heap.size + 1 + 1 + 1 < w5.heap.size := by have h := hb5.size; (try simp at h); omega
          have hz5_w_4 : w.heap.size + 1 + 1 + 1 + 1 < w5.heap.size := by have h := hb5.size; (try simp at h); omega
          have hz5_w_5 : w.heap.size + 1 + 1 + 1 + 1 + 1 < w5.heap.size := by have h := hb5.size; (try simp at h); omega
          have M5 := Lib.hid (HV.out.later hb5)
          go_upto_region 11 with (fail)
          refine wp_world (RefMem w a b Q (df (tw R (bitN a n)) b)) (M5.out.rest) ?_
          intro X HX0
          have HX := Lib.hid HX0
          obtain ⟨i0, i1, i2, i3, i4, i5, j2, j3, j4, j5, jz, jb⟩ := HX0
          have cq : X.cell? ⟨w.heap.size + 1 + 1 + 1 + 1, n / 32, none⟩ = some (.int .u64 (hw Q (n / 32))) := by rw [i4, get_half8 Q (n / 32) (by omega)]
          have fq := j4 (n / 32)
          clear i0 i1 i2 i3 i4 i5 j2 j3 j4 j5 M5 HV e1 e2 e3 e5 g2 g3 g4 g5
          go_wp2
          go_roundw
          case rel =>
            refine ⟨n, Q + 2 ^ n, 2 * R + bitN a n - b, by omega, rfl, HI0.out.next_yes HB0.out E2.out, ?_⟩
            rw [← KB.out.1, ← E3.out]
            exact HX.out.quot (by omega) (quot_wrap KB.out.2) KB.out.2
          case measure => simp [intOf]
        · rw [k4] at HC
          have KC := Lib.hid HC
          clear k1 k4 HC
          go_wp2_with fail
          ((with_reducible refine (KC.out _).mono ?_); rintro e w4 ⟨rfl, hb4⟩)
          obtain ⟨hc4, hf4⟩ := bcell hb4
          have hz4_w_0 : w.heap.size < w4.heap.size := by have h := hb4.size; (try simp at h); omega
          have hz4_w_1 : w.heap.size + 1 < w4.heap.size := by have h := hb4.size; (try simp at h); omega
          have hz4_w_2 : w.heap.size + 1 + 1 < w4.heap.size := by have h := hb4.size; (try simp at h); omega
          have hz4_w_3 : w.heap.size + 1 + 1 + 1 < w4.heap.size := by have h := hb4.size; (try simp at h); omega
          have hz4_w_4 : w.heap.size + 1 + 1 + 1 + 1 < w4.heap.size := by have h := hb4.size; (try simp at h); omega
          have hz4_w_5 : w.heap.size + 1 + 1 + 1 + 1 + 1 < w4.heap.size := by have h := hb4.size; (try simp at h); omega
          have hb4' := HV.out.later hb4
          have HV := Lib.hid hb4'
          clear hb4'
          go_wp2_with fail
          ((with_reducible refine (KM.out _).mono ?_); rintro e w5 ⟨rfl, hb5⟩)
          obtain ⟨hc5, hf5⟩ := bcell hb5
          have hz5_w_0 : w.heap.size < w5.heap.size := by have h := hb5.size; (try simp at h); omega
          have hz5_w_1 : w.heap.size + 1 < w5.heap.size := by have h := hb5.size; (try simp at h); omega
          have hz5_w_2 : w.heap.size + 1 + 1 < w5.heap.size := by have h := hb5.size; (try simp at h); omega
          have hz5_w_3 : w.heap.size + 1 + 1 + 1 < w5.heap.size := by have h := hb5.size; (try simp at h); omega
          have hz5_w_4 : w.heap.size + 1 + 1 + 1 + 1 < w5.heap.size := by have h := hb5.size; (try simp at h); omega
          have hz5_w_5 : w.heap.size + 1 + 1 + 1 + 1 + 1 < w5.heap.size := by have h := hb5.size; (try simp at h); omega
          have M5 := Lib.hid (HV.out.later hb5)
          go_upto_region 11 with (fail)
          refine wp_world (RefMem w a b Q (df (tw R (bitN a n)) b)) (M5.out.rest) ?_
          intro X HX0
          have HX := Lib.hid HX0
          obtain ⟨i0, i1, i2, i3, i4, i5, j2, j3, j4, j5, jz, jb⟩ := HX0
          have cq : X.cell? ⟨w.heap.size + 1 + 1 + 1 + 1, n / 32, none⟩ = some (.int .u64 (hw Q (n / 32))) := by rw [i4, get_half8 Q (n / 32) (by omega)]
          have fq := j4 (n / 32)
          clear i0 i1 i2 i3 i4 i5 j2 j3 j4 j5 M5 HV e1 e2 e3 e5 g2 g3 g4 g5
          go_wp2
          go_roundw
          case rel =>
            refine ⟨n, Q + 2 ^ n, 2 * R + bitN a n - b, by omega, rfl, HI0.out.next_yes HB0.out E2.out, ?_⟩
            rw [← KB.out.1, ← E3.out]
            exact HX.out.quot (by omega) (quot_wrap KB.out.2) KB.out.2
          case measure => simp [intOf]
      · have ho : ovB (R + R) = false := by unfold ovB; simpa using k1
        rw [k4] at HC
        have KC := Lib.hid HC
        have E2 := Lib.hid k2
        have E3 := Lib.hid k3
        clear k1 k2 k3 k4 HC HK hR
        go_wp2_with fail
        ((with_reducible refine (KC.out _).mono ?_); rintro e w4 ⟨rfl, hb4⟩)
        obtain ⟨hc4, hf4⟩ := bcell hb4
        have hz4_w_0 : w.heap.size < w4.heap.size := by have h := hb4.size; (try simp at h); omega
        have hz4_w_1 : w.heap.size + 1 < w4.heap.size := by have h := hb4.size; (try simp at h); omega
        have hz4_w_2 : w.heap.size + 1 + 1 < w4.heap.size := by have h := hb4.size; (try simp at h); omega
        have hz4_w_3 : w.heap.size + 1 + 1 + 1 < w4.heap.size := by have h := hb4.size; (try simp at h); omega
        have hz4_w_4 : w.heap.size + 1 + 1 + 1 + 1 < w4.heap.size := by have h := hb4.size; (try simp at h); omega
        have hz4_w_5 : w.heap.size + 1 + 1 + 1 + 1 + 1 < w4.heap.size := by have h := hb4.size; (try simp at h); omega
        have M4 := Lib.hid (HV.out.later hb4)
        go_wp2
        go_roundw
        case rel =>
          refine ⟨n, Q, 2 * R + bitN a n, by omega, rfl, HI0.out.next_no HB0.out E2.out, ?_⟩
          rw [← E3.out]
          exact M4.out
        case measure => simp [intOf]
end Go.Proofs.YtnbdccobfmlhbaaDoor
