/-
  The maker of a hull's surface in memory; what p, s and face of it do.
-/
import Derived.Test.YtkpochkfijplaaaQHullC
import Derived.Deep.AppendLies

namespace Go.Proofs.Ytkpochkfijplaaa
set_option linter.all false
open Go Go.RowKit Wd
set_option maxRecDepth 100000
/-- The maker lies in block B; it owns its points and its faces. -/
structure Mk (b0 : Nat) (w0 w : World) (B n m : Nat) (pv fv : Value) (np nf : Nat) (ps fs : List Value) : Prop where
  cell : ∀ o, w.cell? ⟨B, o, none⟩ = (#[.int .i64 (n : Int), .int .i64 (m : Int), pv, fv] : Array Value)[o]?
  froz : ∀ o, w.frozen? ⟨B, o, none⟩ = false
  lo : b0 ≤ B
  hi : B < w.heap.size
  p : w.ownsRow b0 61 3 pv np ps
  f : w.ownsRow b0 62 3 fv nf fs
  sp : pv.ownBlock ≠ some B
  sf : fv.ownBlock ≠ some B
  sep : pv.ownBlock = none ∨ pv.ownBlock ≠ fv.ownBlock
  below : Below b0 w0 w
theorem Mk.alloc {b0 : Nat} {w0 w : World} {B n m : Nat} {pv fv : Value} {np nf : Nat} {ps fs : List Value} (h : Mk b0 w0 w B n m pv fv np nf ps fs) (O : Obj) : Mk b0 w0 (w.alloc O) B n m pv fv np nf ps fs :=
  ⟨keep_cell_a h.hi h.cell, keep_frozen_a h.hi h.froz, h.lo, keep_lt_a h.hi, h.p.alloc O, h.f.alloc O, h.sp, h.sf, h.sep, h.below.alloc (Nat.le_trans h.lo (Nat.le_of_lt h.hi)) O⟩
theorem Mk.drew {b0 : Nat} {w0 w : World} {B n m : Nat} {pv fv : Value} {np nf : Nat} {ps fs : List Value} (h : Mk b0 w0 w B n m pv fv np nf ps fs) : Mk b0 w0 w.drew B n m pv fv np nf ps fs :=
  ⟨h.cell, h.froz, h.lo, h.hi, h.p.drew, h.f.drew, h.sp, h.sf, h.sep, h.below.drew⟩
end Go.Proofs.Ytkpochkfijplaaa
