/-
  What package ratio's Valid and sound return, of a fraction in lowest terms.
  What a new block holds: for regions that make memory beside calls.
  (Written by wip/pack.py out of XFRatB, XFRefN.)
-/
import Derived.Test.YthikaimhmpenhaaDoorK11
import Derived.Test.YthikaimhmpenhaaDoorK02

namespace Go.Proofs.YthikaimhmpenhaaDoor
set_option linter.all false
open Go Go.RowKit Wd
set_option maxRecDepth 100000
theorem small256 {a : Nat} (h : a < 18446744073709551616) : a < 2 ^ 256 := Nat.lt_trans h (by decide)
theorem w_small {a : Nat} (h : a < 18446744073709551616) : ((.agg #[.bool (false), .int .u64 (wd (a) 0), .int .u64 (wd (a) 1), .int .u64 (wd (a) 2), .int .u64 (wd (a) 3)]) : Value) = (.agg #[.bool false, .int .u64 ↑a, .int .u64 0, .int .u64 0, .int .u64 0]) := by
  have e := wd_small h
  rw [e.1, e.2.1, e.2.2.1, e.2.2.2]
theorem z_small {a : Nat} (h : a < 18446744073709551616) : ((.agg #[.bool (zs ((a : Int))), .int .u64 (wd (Int.natAbs ((a : Int))) 0), .int .u64 (wd (Int.natAbs ((a : Int))) 1), .int .u64 (wd (Int.natAbs ((a : Int))) 2), .int .u64 (wd (Int.natAbs ((a : Int))) 3)]) : Value) = (.agg #[.bool false, .int .u64 ↑a, .int .u64 0, .int .u64 0, .int .u64 0]) := by
  rw [zs_nat', Int.natAbs_natCast]
  exact w_small h
theorem val_nat (a : Nat) : val false a = (a : Int) := by unfold val; rfl
theorem gcdS (a b : Nat) (ha : a < 18446744073709551616) (hb : b < 18446744073709551616) (hb0 : 0 < b) (w : World) (hT : Tab64 w) :
    Calls Tryd.prog 72 #[(.agg #[.bool false, .int .u64 ↑a, .int .u64 0, .int .u64 0, .int .u64 0]), (.agg #[.bool false, .int .u64 ↑b, .int .u64 0, .int .u64 0, .int .u64 0])] w fun e w' => e = .returned (.agg #[.bool false, .int .u64 (((Nat.gcd a b) : Nat) : Int), .int .u64 0, .int .u64 0, .int .u64 0]) ∧ Below w.heap.size w w' := by
  have h := gcd_any false false a b (small256 ha) (small256 hb) w hT
  have hg : Nat.gcd a b < 18446744073709551616 := Nat.lt_of_le_of_lt (Nat.le_of_dvd hb0 (Nat.gcd_dvd_right a b)) hb
  rwa [val_nat, w_small ha, w_small hb, z_small hg] at h
theorem overS (a b : Nat) (ha : a < 18446744073709551616) (hb : b < 18446744073709551616) (hb0 : 0 < b) (w : World) :
    Calls Tryd.prog 74 #[(.agg #[.bool false, .int .u64 ↑a, .int .u64 0, .int .u64 0, .int .u64 0]), (.agg #[.bool false, .int .u64 ↑b, .int .u64 0, .int .u64 0, .int .u64 0])] w fun e w' => e = .returned (.agg #[.bool false, .int .u64 (((a / b) : Nat) : Int), .int .u64 0, .int .u64 0, .int .u64 0]) ∧ Below w.heap.size w w' := by
  have h := over_any false false a b (small256 ha) (small256 hb) (fun h => absurd rfl h) w
  rwa [val_nat, val_nat, divQ_pos (by omega), ← Int.natCast_ediv, w_small ha, w_small hb, z_small (Nat.lt_of_le_of_lt (Nat.div_le_self a b) ha)] at h
theorem wmulS (a b : Nat) (ha : a < 18446744073709551616) (hb : b < 18446744073709551616) (hab : a * b < 18446744073709551616) (w : World) :
    Calls Tryd.prog 73 #[(.agg #[.bool false, .int .u64 ↑a, .int .u64 0, .int .u64 0, .int .u64 0]), (.agg #[.bool false, .int .u64 ↑b, .int .u64 0, .int .u64 0, .int .u64 0])] w fun e w' => e = .returned (.tuple #[(.agg #[.bool false, .int .u64 (((a * b) : Nat) : Int), .int .u64 0, .int .u64 0, .int .u64 0]), .int .i64 0]) ∧ Below w.heap.size w w' := by
  have h := mul_any false false a b (small256 ha) (small256 hb) w
  rw [val_nat, val_nat, ← Int.natCast_mul] at h
  have hn : ((a * b : Nat) : Int).natAbs < 2 ^ 256 := by rw [Int.natAbs_natCast]; exact small256 hab
  rwa [fitZ_in hn, fitE_in hn, w_small ha, w_small hb, z_small hab] at h
theorem signS (a : Nat) (ha : a < 18446744073709551616) (w : World) :
    Calls Tryd.prog 70 #[(.agg #[.bool false, .int .u64 ↑a, .int .u64 0, .int .u64 0, .int .u64 0])] w fun e w' => e = .returned (.int .i64 (if a = 0 then 0 else 1)) ∧ Below w.heap.size w w' := by
  have h := sign_any false a (small256 ha) w
  rw [val_nat, w_small ha] at h
  rwa [show cmpZ (a : Int) 0 = if a = 0 then 0 else 1 by unfold cmpZ; split <;> split <;> (try split) <;> omega] at h
theorem oneS (w : World) : Calls Tryd.prog 71 #[] w fun e w' => e = .returned (.agg #[.bool false, .int .u64 1, .int .u64 0, .int .u64 0, .int .u64 0]) ∧ Below w.heap.size w w' := by
  have h := one_any w
  rw [show (1 : Int) = ((1 : Nat) : Int) from rfl, z_small (by omega)] at h
  exact h
theorem validS (a : Nat) (ha : a < 18446744073709551616) (w : World) :
    Calls Tryd.prog 82 #[(.agg #[.bool false, .int .u64 ↑a, .int .u64 0, .int .u64 0, .int .u64 0])] w fun e w' => e = .returned (.bool true) ∧ Below w.heap.size w w' := by
  have h := valid_any false a (small256 ha) w
  rwa [w_small ha] at h
theorem cmp11 (w : World) : Calls Tryd.prog 86 #[.agg #[.bool false, .int .u64 1, .int .u64 0, .int .u64 0, .int .u64 0], .agg #[.bool false, .int .u64 1, .int .u64 0, .int .u64 0, .int .u64 0]] w fun e w' => e = .returned (.int .i64 0) ∧ Below w.heap.size w w' := by
  have h := cmp_any false false 1 1 (by decide) (by decide) w
  rw [w_small (by omega), show cmpZ (val false 1) (val false 1) = 0 by unfold cmpZ; rw [if_neg (by omega), if_neg (by omega)]] at h
  exact h
theorem Kp.same {H : Nat} {L : List Nat} {W x : World} {p : Addr} {v : Value} (hW : W.cell? p = some v) (hp : p.block < H) (hL : p.block ∉ L) (hn : p = ⟨p.block, p.off, none⟩) (h : Kp H L W x) : Kp H L W (x.setCell p v) := by
  obtain ⟨h1, h2, h3, h4⟩ := h
  refine ⟨h1, by simpa using h2, fun b o hb hl => ?_, fun b o hb => ?_⟩
  · by_cases e : p = ⟨b, o, none⟩
    · subst e
      rw [World.cell?_setCell_same _ _ _ (u := v) (by rw [h3 b o hb hl]; exact hW)]
      exact hW.symm
    · rw [World.cell?_setCell_other _ _ _ _ e]; exact h3 b o hb hl
  · rw [World.frozen?_setCell]; exact h4 b o hb
end Go.Proofs.YthikaimhmpenhaaDoor

namespace Go.Proofs.YthikaimhmpenhaaDoor
set_option linter.all false
open Go Go.RowKit Wd
set_option maxRecDepth 100000
theorem set5_at {wr : World} {B : Nat} {v0 v1 v2 v3 v4 x0 x1 x2 x3 x4 : Value} (h : ∀ o, wr.cell? ⟨B, o, none⟩ = (#[x0, x1, x2, x3, x4] : Array Value)[o]?) :
    ∀ o, (((((wr.setCell ⟨B, 0, none⟩ (v0)).setCell ⟨B, 1, none⟩ (v1)).setCell ⟨B, 2, none⟩ (v2)).setCell ⟨B, 3, none⟩ (v3)).setCell ⟨B, 4, none⟩ (v4)).cell? ⟨B, o, none⟩ = (#[v0, v1, v2, v3, v4] : Array Value)[o]? := by
  have h0 := set_at (i := 0) (v := v0) h
  rw [show (#[x0, x1, x2, x3, x4] : Array Value).setIfInBounds 0 v0 = #[v0, x1, x2, x3, x4] from rfl] at h0
  have h1 := set_at (i := 1) (v := v1) h0
  rw [show (#[v0, x1, x2, x3, x4] : Array Value).setIfInBounds 1 v1 = #[v0, v1, x2, x3, x4] from rfl] at h1
  have h2 := set_at (i := 2) (v := v2) h1
  rw [show (#[v0, v1, x2, x3, x4] : Array Value).setIfInBounds 2 v2 = #[v0, v1, v2, x3, x4] from rfl] at h2
  have h3 := set_at (i := 3) (v := v3) h2
  rw [show (#[v0, v1, v2, x3, x4] : Array Value).setIfInBounds 3 v3 = #[v0, v1, v2, v3, x4] from rfl] at h3
  have h4 := set_at (i := 4) (v := v4) h3
  rw [show (#[v0, v1, v2, v3, x4] : Array Value).setIfInBounds 4 v4 = #[v0, v1, v2, v3, v4] from rfl] at h4
  exact h4
theorem set5_far {wr : World} {B B' : Nat} {v0 v1 v2 v3 v4 : Value} {xs : Array Value} (hB : B ≠ B') (h : ∀ o, wr.cell? ⟨B', o, none⟩ = xs[o]?) :
    ∀ o, (((((wr.setCell ⟨B, 0, none⟩ (v0)).setCell ⟨B, 1, none⟩ (v1)).setCell ⟨B, 2, none⟩ (v2)).setCell ⟨B, 3, none⟩ (v3)).setCell ⟨B, 4, none⟩ (v4)).cell? ⟨B', o, none⟩ = xs[o]? :=
  set_far hB (set_far hB (set_far hB (set_far hB (set_far hB h))))
theorem new_cells (x : World) (cs : Array Value) (T : TypeId) : ∀ o, (x.alloc (.cells cs T)).cell? ⟨x.heap.size, o, none⟩ = cs[o]? := fun o => World.cell?_alloc_new _ _ _ _
theorem new_frozen (x : World) (cs : Array Value) (T : TypeId) : ∀ o, (x.alloc (.cells cs T)).frozen? ⟨x.heap.size, o, none⟩ = false := fun o => World.frozen?_alloc_new _ _ _ _
theorem new_cells2 (x : World) (O : Obj) (cs : Array Value) (T : TypeId) : ∀ o, ((x.alloc O).alloc (.cells cs T)).cell? ⟨x.heap.size + 1, o, none⟩ = cs[o]? := fun o => World.cell?_alloc2_new _ _ _ _
theorem new_frozen2 (x : World) (O : Obj) (cs : Array Value) (T : TypeId) : ∀ o, ((x.alloc O).alloc (.cells cs T)).frozen? ⟨x.heap.size + 1, o, none⟩ = false := fun o => World.frozen?_alloc2_new _ _ _ _
theorem new_cells_at {x : World} {B : Nat} (h : B = x.heap.size) (cs : Array Value) (T : TypeId) : ∀ o, (x.alloc (.cells cs T)).cell? ⟨B, o, none⟩ = cs[o]? := by subst h; exact new_cells x cs T
theorem new_frozen_at {x : World} {B : Nat} (h : B = x.heap.size) (cs : Array Value) (T : TypeId) : ∀ o, (x.alloc (.cells cs T)).frozen? ⟨B, o, none⟩ = false := by subst h; exact new_frozen x cs T
theorem keep_drew {W : World} {B : Nat} {xs : Array Value} (h : ∀ o, W.cell? ⟨B, o, none⟩ = xs[o]?) : ∀ o, W.drew.cell? ⟨B, o, none⟩ = xs[o]? := h
theorem keep_frozen_drew {W : World} {B : Nat} (h : ∀ o, W.frozen? ⟨B, o, none⟩ = false) : ∀ o, W.drew.frozen? ⟨B, o, none⟩ = false := h
structure New (H B : Nat) (xs : Array Value) (x : World) : Prop where
  from_ : H ≤ B
  lt : B < x.heap.size
  cell : ∀ o, x.cell? ⟨B, o, none⟩ = xs[o]?
  froz : ∀ o, x.frozen? ⟨B, o, none⟩ = false
end Go.Proofs.YthikaimhmpenhaaDoor
