/-
  From the statements' arguments and listed tables to the walks' own words: for all laws of this seat.
-/
import Derived.Test.YtnbdccobfmlhbaaDoorAwake
import Derived.Test.YtnbdccobfmlhbaaDoorCards
import Derived.Test.YtnbdccobfmlhbaaDoorTie
import Derived.ProofKit
import Derived.OpenShut
import Derived.Deep.DeepHandedRow
import Derived.Lib.LaidTab
import Derived.LaidSub
namespace Go.Proofs.YtnbdccobfmlhbaaDoor
set_option linter.all false
open Go Go.RowKit Go.ChangeShapes Go.WideShapes Go.ChangeAt Wd
set_option maxRecDepth 100000
theorem own : ownKnob Tryd.prog.godebug = none := by kernel_rfl
theorem cellTypes_wide : Tryd.prog.cellTypes Tryd.prog.depth 25 = some [4, 22, 22, 22, 22] := by kernel_rfl
theorem cells_wide : Tryd.prog.cellsOf 25 = 5 := by kernel_rfl
theorem under_wide : ∃ fs, Tryd.prog.underlying 25 = some (.struct fs) := ⟨_, Tryd.underlying25⟩
theorem word_ok {w : World} {base : Nat} {v : Value} (h : Cell.okWide Tryd.prog w .any base 22 v) : ∃ n : Nat, n < 18446744073709551616 ∧ v = .int .u64 (n : Int) := by
  simp only [Cell.okWide, Cell.ok, Tryd.underlying22] at h
  cases v <;> simp_all
  rename_i k n
  obtain ⟨rfl, h2⟩ := h
  simp [IntKind.has, IntKind.min, IntKind.max, IntKind.signed, IntKind.bits] at h2
  exact ⟨n.toNat, by omega, by omega⟩
theorem bool_ok {w : World} {base : Nat} {v : Value} (h : Cell.okWide Tryd.prog w .any base 4 v) : ∃ b : Bool, v = .bool b := by
  simp only [Cell.okWide, Cell.ok, Tryd.underlying4] at h
  cases v <;> simp_all
theorem four_words (x0 x1 x2 x3 : Nat) (h0 : x0 < 18446744073709551616) (h1 : x1 < 18446744073709551616) (h2 : x2 < 18446744073709551616) (h3 : x3 < 18446744073709551616) :
    ∃ a, a < 2 ^ 256 ∧ wd a 0 = x0 ∧ wd a 1 = x1 ∧ wd a 2 = x2 ∧ wd a 3 = x3 := by
  refine ⟨x0 + 18446744073709551616 * x1 + 340282366920938463463374607431768211456 * x2 + 6277101735386680763835789423207666416102355444464034512896 * x3, ?_, ?_, ?_, ?_, ?_⟩
  · show _ < 115792089237316195423570985008687907853269984665640564039457584007913129639936
    omega
  · rw [wd0]; omega
  · rw [wd1]; omega
  · rw [wd2]; omega
  · rw [wd3]; omega
/-- A Wide that comes in: its sign and its magnitude. -/
theorem open_wide {w : World} {base : Nat} {v : Value} (h : Value.okWide Tryd.prog w .any base 25 v) : ∃ (s : Bool) (a : Nat), a < 2 ^ 256 ∧ v = (.agg #[.bool (s), .int .u64 (wd (a) 0), .int .u64 (wd (a) 1), .int .u64 (wd (a) 2), .int .u64 (wd (a) 3)]) := by
  obtain ⟨fs, hfs⟩ := under_wide
  simp only [Value.okWide, hfs] at h
  obtain ⟨cs, rfl, hsz, ts, hts, -, hall⟩ := h
  rw [cells_wide] at hsz
  rw [cellTypes_wide] at hts
  obtain rfl := Option.some.inj hts
  obtain ⟨cs⟩ := cs
  match cs, hsz with
  | [c0, c1, c2, c3, c4], _ =>
    obtain ⟨u0, e0, k0⟩ := hall 0 c0 rfl
    obtain ⟨u1, e1, k1⟩ := hall 1 c1 rfl
    obtain ⟨u2, e2, k2⟩ := hall 2 c2 rfl
    obtain ⟨u3, e3, k3⟩ := hall 3 c3 rfl
    obtain ⟨u4, e4, k4⟩ := hall 4 c4 rfl
    simp at e0 e1 e2 e3 e4
    subst e0 e1 e2 e3 e4
    obtain ⟨s, rfl⟩ := bool_ok k0
    obtain ⟨x0, h0, rfl⟩ := word_ok k1
    obtain ⟨x1, h1, rfl⟩ := word_ok k2
    obtain ⟨x2, h2, rfl⟩ := word_ok k3
    obtain ⟨x3, h3, rfl⟩ := word_ok k4
    obtain ⟨a, ha, w0, w1, w2, w3⟩ := four_words x0 x1 x2 x3 h0 h1 h2 h3
    exact ⟨s, a, ha, by rw [w0, w1, w2, w3]⟩
theorem cell_lt {w : World} {b o : Nat} {v : Value} (h : w.cell? ⟨b, o, none⟩ = some v) : b < w.heap.size := by
  rcases Nat.lt_or_ge b w.heap.size with h1 | h1
  · exact h1
  · unfold World.cell? at h
    rw [Array.getElem?_eq_none h1] at h
    simp at h
/-- The tables that the rows list. -/
def laids : List (String × DataW Unit) := [("math/bits.deBruijn32tab", Rows.laid_math_bits_deBruijn32tab), ("math/bits.deBruijn64tab", Rows.laid_math_bits_deBruijn64tab), ("internal/strconv.uint64pow10", Rows.laid_internal_strconv_uint64pow10), ("unicode/utf8.acceptRanges", Rows.laid_unicode_utf8_acceptRanges), ("unicode/utf8.first", Rows.laid_unicode_utf8_first)]
theorem type64 : (Tryd.prog.globals[2]?).map (·.type) = some 101 := by kernel_rfl
theorem type10 : (Tryd.prog.globals[3]?).map (·.type) = some 118 := by kernel_rfl
theorem name64 : Tryd.prog.globalNamed "math/bits.deBruijn64tab" = some 2 := by kernel_rfl
theorem cells_8 : Tryd.prog.cellsOf 5 = 1 := by kernel_rfl
theorem cells_64 : Tryd.prog.cellsOf 101 = 64 := by kernel_rfl
theorem cells_20 : Tryd.prog.cellsOf 118 = 20 := by kernel_rfl
theorem under_64 : Tryd.prog.underlying 101 = some (.array 64 5) := by kernel_rfl
theorem under_20 : Tryd.prog.underlying 118 = some (.array 20 22) := by kernel_rfl
theorem only64 : (laids.filter fun x => x.2.handleName?.isNone).filter (fun x => x.1 == "math/bits.deBruijn64tab") = [("math/bits.deBruijn64tab", Lib.tabData .u8 (Lib.deBruijn64tab.map Int.ofNat))] := by kernel_rfl
theorem only10 : (laids.filter fun x => x.2.handleName?.isNone).filter (fun x => x.1 == "internal/strconv.uint64pow10") = [("internal/strconv.uint64pow10", Lib.tabData .u64 Lib.pow10Tab)] := by kernel_rfl
theorem tabs_of_laid {W : World} (h : laidMetH Tryd.prog laids W) : Tabs W := by
  obtain ⟨h1, -⟩ := laidMetH_iff.1 h
  have h2 := h1.filter (fun x => x.1 == "math/bits.deBruijn64tab")
  have h3 := h1.filter (fun x => x.1 == "internal/strconv.uint64pow10")
  rw [only64] at h2
  rw [only10] at h3
  have t64 := Lib.tabIs_of_head (rest := []) name64 type64 under_64 Tryd.underlying5 cells_8 cells_64 h2
  have t10 := Lib.tabIs_of_head (rest := []) pow10_named type10 under_20 Tryd.underlying22 cells_u64 cells_20 h3
  refine ⟨⟨cell_lt (t64.cell name64 0 (by decide)), fun j hj => ?_⟩, cell_lt (t10.cell pow10_named 0 (by decide)), t10⟩
  have hl : j < (Lib.deBruijn64tab.map Int.ofNat).length := by simpa [Lib.deBruijn64tab] using hj
  rw [t64.cell name64 j hl]
  have hl2 : j < Lib.deBruijn64tab.length := by simpa using hl
  simp [List.getD, hl2]
/-- The cells that a listed datum stands for. -/
def lits1 : DataW Unit → List Value
  | .agg l => l.map fun | .lit (.int k n) => .int k n | _ => .nilFunc
  | _ => []
def lits2 : DataW Unit → List Value
  | .agg l => l.flatMap lits1
  | _ => []
def putBlock (g : Nat) (cs : List Value) (w : World) : World := { w with heap := w.heap.modify g fun
      | .cells _ t frozen => .cells cs.toArray t frozen
      | o => o }
/-- A world for the witnesses: the settled one, the tables as their initialisers lay them. -/
noncomputable def laidWorld (os : Os) : World :=
  putBlock 7 (lits1 Rows.laid_math_bits_deBruijn32tab) (putBlock 2 (lits1 Rows.laid_math_bits_deBruijn64tab) (putBlock 3 (lits1 Rows.laid_internal_strconv_uint64pow10)
    (putBlock 5 (lits2 Rows.laid_unicode_utf8_acceptRanges) (putBlock 4 (lits1 Rows.laid_unicode_utf8_first) (World.holding Tryd.prog os ⟨#[], #[], []⟩)))))
theorem laid_out : laidOutB Tryd.prog = true := by kernel_rfl
end Go.Proofs.YtnbdccobfmlhbaaDoor
