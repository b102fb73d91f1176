/-
  From lists and small numbers among the statements' arguments to the walks' own words.
-/
import Derived.Test.YtfmmnnodihpgmaaDoorHFrame
namespace Go.Proofs.YtfmmnnodihpgmaaDoor
set_option linter.all false
open Go Go.RowKit Go.ChangeShapes Go.WideShapes Go.ChangeAt Go.Deep Wd
set_option maxRecDepth 100000
theorem open_numbers {H : Type} {enc : TypeId × Value → H} {W : World} {base : Nat} {held : Bool} {v : Value} {d : DataW H} {p : List MemPlace}
    (hval : Value.okWide Tryd.prog W .any base 22 v) (h : DataW.Trod enc Tryd.prog W 0 (fun _ => true) held 22 v d p) :
    ∃ (a : Option Addr) (c : Nat) (l : List Int), v = .slice a l.length c ∧ l.length ≤ 9223372036854775807 ∧ Has W a l := by
  obtain ⟨fuel, hf⟩ := h
  obtain ⟨a, c, l, e, h1, h2, h3⟩ := open_list hf
  have hmax : maxLen = 9223372036854775807 := by decide
  obtain ⟨a', n', c', rfl⟩ := okWide_slice Tryd.underlying22 hval
  refine ⟨a, c, l, ?_, by omega, h3⟩
  simpa [Value.cells] using e
theorem open_u16 {w : World} {base : Nat} {v : Value} (h : Value.okWide Tryd.prog w .any base 51 v) : ∃ n : Int, 0 ≤ n ∧ n ≤ 65535 ∧ v = .int .u16 n := by
  simp only [Value.okWide, Cell.okWide, Cell.ok, Tryd.underlying51] at h
  cases v <;> simp_all
  rename_i k n
  obtain ⟨rfl, h2⟩ := h
  simp [IntKind.has, IntKind.min, IntKind.max, IntKind.signed, IntKind.bits] at h2
  exact ⟨h2.1, h2.2⟩
end Go.Proofs.YtfmmnnodihpgmaaDoor
