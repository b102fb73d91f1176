/-
  From the statements' integer and string arguments to the walks' own words.
-/
import Derived.Test.YtnbdccobfmlhbaaDoorFrame
namespace Go.Proofs.YtnbdccobfmlhbaaDoor
set_option linter.all false
open Go Go.RowKit Go.ChangeShapes Go.WideShapes Go.ChangeAt Wd
set_option maxRecDepth 100000
theorem open_int64 {w : World} {base : Nat} {v : Value} (h : Value.okWide Tryd.prog w .any base 3 v) : ∃ n : Int, -9223372036854775808 ≤ n ∧ n ≤ 9223372036854775807 ∧ v = .int .i64 n := by
  simp only [Value.okWide, Cell.okWide, Cell.ok, Tryd.underlying3] at h
  cases v <;> simp_all
  rename_i k n
  obtain ⟨rfl, h2⟩ := h
  simp [IntKind.has, IntKind.min, IntKind.max, IntKind.signed, IntKind.bits] at h2
  exact ⟨h2.1, h2.2⟩
theorem open_bytes {w : World} {base : Nat} {v : Value} (h : Value.okWide Tryd.prog w .any base 9 v) : ∃ l : List UInt8, (l.length : Int) ≤ 9223372036854775807 ∧ v = .string ⟨l.toArray⟩ := by
  simp only [Value.okWide, Cell.okWide, Cell.ok, Tryd.underlying9] at h
  cases v <;> simp_all
  rename_i s
  obtain ⟨⟨l⟩⟩ := s
  exact ⟨l, h, rfl⟩
end Go.Proofs.YtnbdccobfmlhbaaDoor
