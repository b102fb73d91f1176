/-
  The values of the program's types as numbers, and how the program compares them: for the translation of this seat.
-/
import Derived.Test.YtkpochkfijplaaaChecked
import Derived.Test.YtkpochkfijplaaaQMath
import Derived.WalkKit
import Derived.Handy
import Derived.Outline
import Derived.WalkLawsBesides
import Derived.WalkSpells
import Derived.Lib.Hide
import Derived.Deep.QuietTactic
import Derived.BigQuiet
import Derived.Deep.LoopGhost
import Derived.Deep.RegionHeld3
import Derived.Shelf.Spec.BitsCarry
import Derived.ChangeKeysEq

namespace Go.Proofs.Ytkpochkfijplaaa
set_option linter.all false
open Go Go.RowKit Wd
set_option maxRecDepth 100000
/-- Whether two natural numbers are equal: a word that the walk does not open. -/
@[irreducible] def eqN (a b : Nat) : Bool := decide (a = b)
/-- The sign of an integer. -/
@[irreducible] def zs (z : Int) : Bool := decide (z < 0)
/-- The integer that a sign and a magnitude stand for. -/
@[irreducible] def val (s : Bool) (a : Nat) : Int := if s then -(a : Int) else a
theorem bcell {W w1 : World} (hb : Below W.heap.size W w1) : (∀ b o, b < W.heap.size → w1.cell? ⟨b, o, none⟩ = W.cell? ⟨b, o, none⟩) ∧ (∀ b o, b < W.heap.size → w1.frozen? ⟨b, o, none⟩ = W.frozen? ⟨b, o, none⟩) :=
  ⟨fun b o h => hb.cell (p := ⟨b, o, none⟩) h, fun b o h => hb.frozen (p := ⟨b, o, none⟩) h⟩
theorem cells_u64 : Try.prog.cellsOf 39 = 1 := by kernel_rfl
theorem eq_mag_words (d : Nat) (a0 a1 a2 a3 b0 b1 b2 b3 : Int) (w : World) :
    (Op.equalIn (d + 2) 40 (.agg #[.int .u64 a0, .int .u64 a1, .int .u64 a2, .int .u64 a3]) (.agg #[.int .u64 b0, .int .u64 b1, .int .u64 b2, .int .u64 b3])).run Try.prog w =
      .ok (a0 == b0 && (a1 == b1 && (a2 == b2 && a3 == b3))) w := by
  have h := run_equalIn_array (P := Try.prog) w (d + 1) #[.int .u64 a0, .int .u64 a1, .int .u64 a2, .int .u64 a3] #[.int .u64 b0, .int .u64 b1, .int .u64 b2, .int .u64 b3] (i := _) Try.underlying40 (by rfl)
  rw [h, cells_u64]
  simp [List.range, List.range.loop, Op.eqItems, go_sem]
  by_cases h0 : a0 = b0 <;> by_cases h1 : a1 = b1 <;> by_cases h2 : a2 = b2 <;> by_cases h3 : a3 = b3 <;> simp [h0, h1, h2, h3]
theorem wd_inj (a b : Nat) (ha : a < 2 ^ 256) (hb : b < 2 ^ 256) : (wd a 0 == wd b 0 && (wd a 1 == wd b 1 && (wd a 2 == wd b 2 && wd a 3 == wd b 3))) = eqN a b := by
  have ha := lt256 a ha
  have hb := lt256 b hb
  unfold eqN
  rw [Bool.eq_iff_iff]
  simp only [Bool.and_eq_true, beq_iff_eq, decide_eq_true_eq, wd0, wd1, wd2, wd3]
  constructor
  · intro h; omega
  · rintro rfl; simp
theorem wd_zero : wd 0 0 = 0 ∧ wd 0 1 = 0 ∧ wd 0 2 = 0 ∧ wd 0 3 = 0 := by refine ⟨?_, ?_, ?_, ?_⟩ <;> simp [wd]
theorem eq_mag (a b : Nat) (ha : a < 2 ^ 256) (hb : b < 2 ^ 256) (w : World) : (Op.equalIn 10000 40 (.agg #[.int .u64 (wd (a) 0), .int .u64 (wd (a) 1), .int .u64 (wd (a) 2), .int .u64 (wd (a) 3)]) (.agg #[.int .u64 (wd (b) 0), .int .u64 (wd (b) 1), .int .u64 (wd (b) 2), .int .u64 (wd (b) 3)])).run Try.prog w = .ok (eqN a b) w := by
  rw [eq_mag_words 9998, wd_inj a b ha hb]
theorem eq_mag0 (a : Nat) (ha : a < 2 ^ 256) (w : World) : (Op.equalIn 10000 40 (.agg #[.int .u64 (wd (a) 0), .int .u64 (wd (a) 1), .int .u64 (wd (a) 2), .int .u64 (wd (a) 3)]) (.agg #[.int .u64 0, .int .u64 0, .int .u64 0, .int .u64 0])).run Try.prog w = .ok (eqN a 0) w := by
  have h := eq_mag a 0 ha (by decide) w
  rw [wd_zero.1, wd_zero.2.1, wd_zero.2.2.1, wd_zero.2.2.2] at h
  exact h
theorem zs_zero : zs 0 = false := by unfold zs; rfl
theorem zs_val (s : Bool) (a : Nat) : zs (val s a) = (s && !eqN a 0) := by
  unfold zs val eqN
  cases s
  · have : ¬ ((a : Int) < 0) := by omega
    simp
  · by_cases h : a = 0
    · subst h; simp
    · have : (-(a : Int) < 0) := by omega
      simp [h]; omega
theorem abs_val (s : Bool) (a : Nat) : (val s a).natAbs = a := by
  unfold val; split <;> omega
theorem val_zs (z : Int) : val (zs z) z.natAbs = z := by
  unfold val zs
  by_cases h : z < 0
  · simp [h]; omega
  · simp [h]; omega
/-- What Add, Sub and Mul return of an exact result: the number, 0 if it does not fit; and the error. -/
@[irreducible] def fitZ (z : Int) : Int := if z.natAbs < 2 ^ 256 then z else 0
@[irreducible] def fitE (z : Int) : Int := if z.natAbs < 2 ^ 256 then 0 else 21
theorem fitZ_in {z : Int} (h : z.natAbs < 2 ^ 256) : fitZ z = z := by unfold fitZ; rw [if_pos h]
theorem fitE_in {z : Int} (h : z.natAbs < 2 ^ 256) : fitE z = 0 := by unfold fitE; rw [if_pos h]
theorem fitZ_out {z : Int} (h : ¬ z.natAbs < 2 ^ 256) : fitZ z = 0 := by unfold fitZ; rw [if_neg h]
theorem fitE_out {z : Int} (h : ¬ z.natAbs < 2 ^ 256) : fitE z = 21 := by unfold fitE; rw [if_neg h]
theorem below_after {w W w1 : World} (h : Below w.heap.size w W) (hb : Below W.heap.size W w1) : Below w.heap.size w w1 := h.trans (hb.mono h.size)
theorem below_alloc {w W : World} (h : Below w.heap.size w W) (o : Obj) : Below w.heap.size w (W.alloc o) := h.alloc h.size o
/-- The walk goes on in a world under a letter, of which so much is known. -/
theorem wp_world {P : Program} {c : Code} {Q : Exit → Act → World → Prop} {a : Act} {w0 : World} (p : World → Prop) (hp : p w0) (h : ∀ W, p W → c.wp P Q a W) : c.wp P Q a w0 := h w0 hp
theorem keep_cell {W w1 : World} {B : Nat} {xs : Array Value} (hb : Below W.heap.size W w1) (hz : B < W.heap.size) (h : ∀ o, W.cell? ⟨B, o, none⟩ = xs[o]?) : ∀ o, w1.cell? ⟨B, o, none⟩ = xs[o]? := fun o => (hb.cell (p := ⟨B, o, none⟩) hz).trans (h o)
theorem keep_frozen {W w1 : World} {B : Nat} (hb : Below W.heap.size W w1) (hz : B < W.heap.size) (h : ∀ o, W.frozen? ⟨B, o, none⟩ = false) : ∀ o, w1.frozen? ⟨B, o, none⟩ = false := fun o => (hb.frozen (p := ⟨B, o, none⟩) hz).trans (h o)
theorem keep_one {W w1 : World} {B i : Nat} {v : Value} (hb : Below W.heap.size W w1) (hz : B < W.heap.size) (h : W.cell? ⟨B, i, none⟩ = some v) : w1.cell? ⟨B, i, none⟩ = some v := (hb.cell (p := ⟨B, i, none⟩) hz).trans h
theorem keep_cell_a {W : World} {ob : Obj} {B : Nat} {xs : Array Value} (hz : B < W.heap.size) (h : ∀ o, W.cell? ⟨B, o, none⟩ = xs[o]?) : ∀ o, (W.alloc ob).cell? ⟨B, o, none⟩ = xs[o]? := fun o => (World.cell?_alloc_past ob B o hz).trans (h o)
theorem keep_frozen_a {W : World} {ob : Obj} {B : Nat} (hz : B < W.heap.size) (h : ∀ o, W.frozen? ⟨B, o, none⟩ = false) : ∀ o, (W.alloc ob).frozen? ⟨B, o, none⟩ = false := fun o => (World.frozen?_alloc_past ob B o hz).trans (h o)
theorem keep_lt_a {W : World} {ob : Obj} {B : Nat} (hz : B < W.heap.size) : B < (W.alloc ob).heap.size := by simp; omega
theorem keep_frozen_c {W : World} {p : Addr} {u : Value} {B : Nat} (h : ∀ o, W.frozen? ⟨B, o, none⟩ = false) : ∀ o, (W.setCell p u).frozen? ⟨B, o, none⟩ = false := fun o => by rw [World.frozen?_setCell]; exact h o
theorem keep_lt_c {W : World} {p : Addr} {u : Value} {B : Nat} (hz : B < W.heap.size) : B < (W.setCell p u).heap.size := by simpa using hz
theorem keep_lt {W w1 : World} {B : Nat} (hb : Below W.heap.size W w1) (hz : B < W.heap.size) : B < w1.heap.size := Nat.lt_of_lt_of_le hz hb.size
theorem ret_int {k : IntKind} {a b : Int} (h : a = b) : Ending.returned (.int k a) = .returned (.int k b) := by rw [h]
theorem ret_bool {a b : Bool} (h : a = b) : Ending.returned (.bool a) = .returned (.bool b) := by rw [h]
/-- How two integers compare. -/
@[irreducible] def cmpZ (x y : Int) : Int := if x < y then -1 else if y < x then 1 else 0
theorem zs_true {z : Int} (h : zs z = true) : z < 0 := by unfold zs at h; simpa using h
theorem zs_false {z : Int} (h : zs z = false) : 0 ≤ z := by unfold zs at h; simpa using h
theorem cmp_nn {s t : Bool} {a b : Nat} (hx : zs (val s a) = true) (hy : zs (val t b) = true) : cmpZ (val s a) (val t b) = cmpN b a := by
  have h1 := zs_true hx
  have h2 := zs_true hy
  unfold val cmpZ cmpN at *
  cases s <;> cases t <;> simp at h1 h2 ⊢ <;> (repeat' split) <;> omega
theorem cmp_np {s t : Bool} {a b : Nat} (hx : zs (val s a) = true) (hy : zs (val t b) = false) : cmpZ (val s a) (val t b) = -1 := by
  have h1 := zs_true hx
  have h2 := zs_false hy
  unfold cmpZ
  rw [if_pos (by omega)]
theorem cmp_pn {s t : Bool} {a b : Nat} (hx : zs (val s a) = false) (hy : zs (val t b) = true) : cmpZ (val s a) (val t b) = 1 := by
  have h1 := zs_false hx
  have h2 := zs_true hy
  unfold cmpZ
  rw [if_neg (by omega), if_pos (by omega)]
theorem cmp_pp {s t : Bool} {a b : Nat} (hx : zs (val s a) = false) (hy : zs (val t b) = false) : cmpZ (val s a) (val t b) = cmpN a b := by
  have h1 := zs_false hx
  have h2 := zs_false hy
  unfold val cmpZ cmpN at *
  cases s <;> cases t <;> simp at h1 h2 ⊢ <;> (repeat' split) <;> omega
theorem wd_small {n : Nat} (h : n < 18446744073709551616) : wd n 0 = n ∧ wd n 1 = 0 ∧ wd n 2 = 0 ∧ wd n 3 = 0 := by
  rw [wd0, wd1, wd2, wd3]; omega
end Go.Proofs.Ytkpochkfijplaaa
