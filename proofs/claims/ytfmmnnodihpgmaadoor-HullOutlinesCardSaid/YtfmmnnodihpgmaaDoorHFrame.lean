/-
  From the statements' arguments and listed tables to the walks' own words: for all laws of this seat.
-/
import Derived.Test.YtfmmnnodihpgmaaDoorHullB
import Derived.Test.YtfmmnnodihpgmaaDoorWideG
import Derived.Test.YtfmmnnodihpgmaaDoorCards
import Derived.Test.YtfmmnnodihpgmaaDoorTie
import Derived.ProofKit
import Derived.OpenShut
import Derived.Deep.DeepHandedRow
import Derived.Deep.Matrix
import Derived.Lib.LaidTab
import Derived.LaidSub
namespace Go.Proofs.YtfmmnnodihpgmaaDoor
set_option linter.all false
open Go Go.RowKit Go.ChangeShapes Go.WideShapes Go.ChangeAt Go.Deep Wd
set_option maxRecDepth 100000
theorem own : ownKnob Tryd.prog.godebug = none := by kernel_rfl
theorem cells_int : Tryd.prog.cellsOf 3 = 1 := by kernel_rfl
theorem cells_ints : Tryd.prog.cellsOf 22 = 1 := by kernel_rfl
theorem cells_rows : Tryd.prog.cellsOf 23 = 1 := by kernel_rfl
theorem cells_form : Tryd.prog.cellsOf 25 = 3 := by kernel_rfl
theorem under_form : ∃ fs : Array Field, Tryd.prog.underlying 25 = some (.struct fs) ∧ fs.size = 3 ∧ (∃ f0, fs[0]? = some f0 ∧ f0.offset = 0 ∧ f0.type = 22) ∧ (∃ f1, fs[1]? = some f1 ∧ f1.offset = 1 ∧ f1.type = 22) ∧ (∃ f2, fs[2]? = some f2 ∧ f2.offset = 2 ∧ f2.type = 23) :=
  ⟨_, Tryd.underlying25, rfl, ⟨_, rfl, rfl, rfl⟩, ⟨_, rfl, rfl, rfl⟩, ⟨_, rfl, rfl, rfl⟩⟩
theorem cell_lt {w : World} {b o : Nat} {v : Value} (h : w.cell? ⟨b, o, none⟩ = some v) : b < w.heap.size := by
  rcases Nat.lt_or_ge b w.heap.size with h1 | h1
  · exact h1
  · unfold World.cell? at h
    rw [Array.getElem?_eq_none h1] at h
    simp at h
theorem ix_getD (l : List Int) (j : Nat) : ix l j = l.getD j 0 := by
  unfold ix
  rcases Nat.lt_or_ge j l.length with h | h
  · simp [h]
  · simp [h]
/-- What lies at an address, one cell a number: said by a block and a place in it. -/
theorem has_of {w : World} {a : Addr} {zs : List Int} {len : Nat} (hl : len ≤ zs.length) (h : ∀ i, i < zs.length → w.cell? (a.add i) = some (.int .i64 (zs.getD i 0))) : Has w (some a) (zs.take len) := by
  intro h0
  have hz : 0 < zs.length := by simp at h0; omega
  obtain ⟨b, o, sp⟩ := a
  have hs : sp = none := by simpa [Addr.add] using World.cell?_spot (h 0 hz)
  subst hs
  refine ⟨b, o, rfl, ?_, fun j hj => ?_⟩
  · have h1 := h 0 hz
    rw [add_plain] at h1
    exact cell_lt h1
  · have hj' : j < len := by simp at hj; omega
    have h1 := h j (by omega)
    rw [add_plain] at h1
    rw [h1, ix_getD]
    congr 2
    simp [List.getD, hj']
theorem open_list {H : Type} {enc : TypeId × Value → H} {W : World} {base fuel : Nat} {held : Bool} {cs : List Value} {x : DataW H × List MemPlace}
    (h : DataW.trod enc Tryd.prog W base (fun _ => true) held fuel 22 cs = some x) :
    ∃ (a : Option Addr) (c : Nat) (l : List Int), cs = [.slice a l.length c] ∧ l.length ≤ c ∧ c ≤ maxLen ∧ Has W a l := by
  rcases open_ints Tryd.underlying22 Tryd.underlying3 cells_int h with ⟨rfl, -⟩ | ⟨a, len, cap, zs, rfl, -, hl, hm, hz, -, hc, -⟩
  · exact ⟨none, 0, [], rfl, Nat.le_refl _, Nat.zero_le _, fun h0 => by simp at h0⟩
  · simp only [if_true] at hz
    refine ⟨some a, cap, zs.take len, ?_, ?_, hm, has_of (by omega) hc⟩
    · rw [List.length_take, Nat.min_eq_left (by omega)]
    · rw [List.length_take]; omega
theorem open_rows {H : Type} {enc : TypeId × Value → H} {W : World} {base fuel : Nat} {held : Bool} {cs : List Value} {x : DataW H × List MemPlace}
    (h : DataW.trod enc Tryd.prog W base (fun _ => true) held fuel 23 cs = some x) :
    ∃ (a : Option Addr) (c : Nat) (A : Nat → Option Addr) (C : Nat → Nat) (l : List (List Int)), cs = [.slice a l.length c] ∧ l.length ≤ c ∧ c ≤ maxLen ∧ HasRws W a A C l := by
  rcases open_int_rows Tryd.underlying23 Tryd.underlying22 Tryd.underlying3 cells_ints cells_int h with ⟨rfl, -⟩ | ⟨a, len, cap, A, L, C, Z, rfl, -, hl, hm, -, hr⟩
  · exact ⟨none, 0, fun _ => none, fun _ => 0, [], rfl, Nat.le_refl _, Nat.zero_le _, fun h0 => by simp at h0⟩
  · refine ⟨some a, cap, A, C, (List.range len).map fun r => (Z r).take (L r), by simp, by simp; omega, hm, fun h0 => ?_⟩
    have h0' : 0 < len := by simpa using h0
    have e : ∀ i, i < len → row ((List.range len).map fun r => (Z r).take (L r)) i = (Z i).take (L i) := fun i hi => by rw [row_get (by simpa using hi)]; simp
    obtain ⟨b, o, sp⟩ := a
    have hs : sp = none := by simpa [Addr.add] using World.cell?_spot (hr 0 (by omega)).1
    subst hs
    refine ⟨b, o, rfl, ?_, fun i hi => ?_, fun i hi => ?_⟩
    · have h1 := (hr 0 (by omega)).1
      rw [add_plain] at h1
      exact cell_lt h1
    · have hi' : i < len := by simpa using hi
      obtain ⟨h1, h2, h3, h4, -⟩ := hr i (by omega)
      rw [add_plain] at h1
      rw [h1, e i hi', List.length_take, Nat.min_eq_left (by omega)]
    · have hi' : i < len := by simpa using hi
      obtain ⟨h1, h2, h3, h4, h5, h6, h7⟩ := hr i (by omega)
      rw [e i hi']
      cases hA : A i with
      | none => intro h8; have h9 := h6 hA; simp at h8; omega
      | some a' => exact has_of (by omega) (fun c hc => (h7 a' hA).2 c (by omega))
theorem open_form {H : Type} {enc : TypeId × Value → H} {W : World} {base : Nat} {held : Bool} {v : Value} {d : DataW H} {p : List MemPlace}
    (hval : Value.okWide Tryd.prog W .any base 25 v) (h : DataW.Trod enc Tryd.prog W 0 (fun _ => true) held 25 v d p) :
    ∃ (ax az ah : Option Addr) (cx cz ch : Nat) (A : Nat → Option Addr) (C : Nat → Nat) (X Z : List Int) (Hf : List (List Int)), v = .agg #[.slice ax X.length cx, .slice az Z.length cz, .slice ah Hf.length ch] ∧
      X.length ≤ 9223372036854775807 ∧ Z.length ≤ 9223372036854775807 ∧ Frm W ax az ah A C X Z Hf := by
  obtain ⟨fs, hfs, hsz, ⟨f0, e0, o0, t0⟩, ⟨f1, e1, o1, t1⟩, ⟨f2, e2, o2, t2⟩⟩ := under_form
  obtain ⟨cs, rfl, hcs⟩ := okWide_struct hfs hval
  rw [cells_form] at hcs
  obtain ⟨fuel, hf⟩ := h
  obtain ⟨xs, n, -, -, -, hxs, hall⟩ := DataW.trod_struct hfs hf
  obtain ⟨cs⟩ := cs
  match cs, hcs with
  | [c0, c1, c2], _ =>
    have g0 := hall 0 f0 e0
    have g1 := hall 1 f1 e1
    have g2 := hall 2 f2 e2
    rw [o0, t0, cells_ints, List.getElem?_eq_getElem (by omega)] at g0
    rw [o1, t1, cells_ints, List.getElem?_eq_getElem (by omega)] at g1
    rw [o2, t2, cells_rows, List.getElem?_eq_getElem (by omega)] at g2
    obtain ⟨ax, cx, X, k0, l0, m0, h0⟩ := open_list g0
    obtain ⟨az, cz, Z, k1, l1, m1, h1⟩ := open_list g1
    obtain ⟨ah, ch, A, C, Hf, k2, l2, m2, h2⟩ := open_rows g2
    have hmax : maxLen = 9223372036854775807 := by decide
    simp [Value.cells] at k0 k1 k2
    subst k0 k1 k2
    exact ⟨ax, az, ah, cx, cz, ch, A, C, X, Z, Hf, rfl, by omega, by omega, h0, h1, h2⟩
/-- The tables that the rows list. -/
def laids : List (String × DataW Unit) := [("math/bits.deBruijn64tab", Rows.laid_math_bits_deBruijn64tab)]
theorem type64 : (Tryd.prog.globals[0]?).map (·.type) = some 154 := by kernel_rfl
theorem name64 : Tryd.prog.globalNamed "math/bits.deBruijn64tab" = some 0 := by kernel_rfl
theorem cells_8 : Tryd.prog.cellsOf 5 = 1 := by kernel_rfl
theorem cells_64 : Tryd.prog.cellsOf 154 = 64 := by kernel_rfl
theorem under_64 : Tryd.prog.underlying 154 = some (.array 64 5) := by kernel_rfl
theorem only64 : (laids.filter fun x => x.2.handleName?.isNone).filter (fun x => x.1 == "math/bits.deBruijn64tab") = [("math/bits.deBruijn64tab", Lib.tabData .u8 (Lib.deBruijn64tab.map Int.ofNat))] := by kernel_rfl
theorem tab_of_laid {W : World} (h : laidMetH Tryd.prog laids W) : Tab64 W := by
  obtain ⟨h1, -⟩ := laidMetH_iff.1 h
  have h2 := h1.filter (fun x => x.1 == "math/bits.deBruijn64tab")
  rw [only64] at h2
  have t64 := Lib.tabIs_of_head (rest := []) name64 type64 under_64 Tryd.underlying5 cells_8 cells_64 h2
  refine ⟨cell_lt (t64.cell name64 0 (by decide)), fun j hj => ?_⟩
  have hl : j < (Lib.deBruijn64tab.map Int.ofNat).length := by simpa [Lib.deBruijn64tab] using hj
  rw [t64.cell name64 j hl]
  have hl2 : j < Lib.deBruijn64tab.length := by simpa using hl
  simp [List.getD, hl2]
/-- The cells that a listed datum stands for. -/
def lits1 : DataW Unit → List Value
  | .agg l => l.map fun | .lit (.int k n) => .int k n | _ => .nilFunc
  | _ => []
def putBlock (g : Nat) (cs : List Value) (w : World) : World := { w with heap := w.heap.modify g fun
      | .cells _ t frozen => .cells cs.toArray t frozen
      | o => o }
/-- A world for the witnesses: the settled one, the table as its initialiser lays it. -/
noncomputable def laidWorld (os : Os) : World :=
  putBlock 0 (lits1 Rows.laid_math_bits_deBruijn64tab) (World.holding Tryd.prog os ⟨#[], #[], []⟩)
theorem laid_out : laidOutB Tryd.prog = true := by kernel_rfl
theorem open_int64 {w : World} {base : Nat} {v : Value} (h : Value.okWide Tryd.prog w .any base 3 v) : ∃ n : Int, -9223372036854775808 ≤ n ∧ n ≤ 9223372036854775807 ∧ v = .int .i64 n := by
  simp only [Value.okWide, Cell.okWide, Cell.ok, Tryd.underlying3] at h
  cases v <;> simp_all
  rename_i k n
  obtain ⟨rfl, h2⟩ := h
  simp [IntKind.has, IntKind.min, IntKind.max, IntKind.signed, IntKind.bits] at h2
  exact ⟨h2.1, h2.2⟩
end Go.Proofs.YtfmmnnodihpgmaaDoor
