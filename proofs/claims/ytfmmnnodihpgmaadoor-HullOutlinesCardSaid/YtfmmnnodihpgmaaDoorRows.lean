/-
  NARROWER THAN 'FOR EVERY INPUT', by the rows' own cells (each row's printed sentence says how): HullChecks: laid · HullHalves: laid · HullOutlines: laid · HullMeshes: laid · HullBoxes: laid · HullClosed: laid.
  DERIVED. THE GIVEN ROWS OF THIS SEAT. 6 by the template 'for every input the law returns true; each argument reads behind the call as it read before'; 0 by the template 'total and deterministic' (their statements: YtfmmnnodihpgmaaDoorTotals.lean).
  GIVEN WITH THE SEED: the statements are not yours to turn. If you find one false, say at which input.
  Laid BY PROGRAM, IN A SANDBOX (cutbox-rows.mjs): the forced cells as the released guide's own fill.sh prints them over the translation 0a0bf56a9758c369… (all of the seat's roots in one cut). By AI agents, Wed Nov 11 2026. No macro, syntax, notation, axiom, sorry.
-/
import Derived.Test.YtfmmnnodihpgmaaDoorChecked
import GoSem.Claim
import GoSem.ClaimJoined
import GoSem.ClaimMapViews
import Derived.JoinedTies
import Derived.KernelRfl
namespace Go.Proofs.YtfmmnnodihpgmaaDoor
/- THE CELL 'sum', in the pinned program and in every row, IS THE sha256 OF THE DUMP (.gsa) THAT YtfmmnnodihpgmaaDoorProg.lean LOADS. Nothing in Lean hashes anything: it is a label: what it is worth is what the hold of that sum in a sandbox is worth. -/
noncomputable def Tryd.pinned : Pinned := { name := "ytfmmnnodihpgmaadoor", sum := "0a0bf56a9758c3695e078479cb5396fb1eda31a2bd4392d05c6d239eba5a6829", checked := Tryd.checked }
namespace Rows
def none {H : Type} : Left H := { results := [], args := [] }

/- WHAT THE LISTED PACKAGE-LEVEL VARIABLES READ AS WHEN THE CALL BEGINS. Each datum BY PROGRAM (the guide's laid-datum.mjs) off the statement by which the dump's own 'gosem.cut.vars' lays the variable. In a bare row this is a premise. The card (YtfmmnnodihpgmaaDoorCards.lean) ties it to the program's text. -/
def laid_math_bits_deBruijn64tab {H : Type} : DataW H := .agg [.lit (.int .u8 0), .lit (.int .u8 1), .lit (.int .u8 56), .lit (.int .u8 2), .lit (.int .u8 57), .lit (.int .u8 49), .lit (.int .u8 28), .lit (.int .u8 3), .lit (.int .u8 61), .lit (.int .u8 58), .lit (.int .u8 42), .lit (.int .u8 50), .lit (.int .u8 38), .lit (.int .u8 29), .lit (.int .u8 17), .lit (.int .u8 4), .lit (.int .u8 62), .lit (.int .u8 47), .lit (.int .u8 59), .lit (.int .u8 36), .lit (.int .u8 45), .lit (.int .u8 43), .lit (.int .u8 51), .lit (.int .u8 22), .lit (.int .u8 53), .lit (.int .u8 39), .lit (.int .u8 33), .lit (.int .u8 30), .lit (.int .u8 24), .lit (.int .u8 18), .lit (.int .u8 12), .lit (.int .u8 5), .lit (.int .u8 63), .lit (.int .u8 55), .lit (.int .u8 48), .lit (.int .u8 27), .lit (.int .u8 60), .lit (.int .u8 41), .lit (.int .u8 37), .lit (.int .u8 16), .lit (.int .u8 46), .lit (.int .u8 35), .lit (.int .u8 44), .lit (.int .u8 21), .lit (.int .u8 52), .lit (.int .u8 32), .lit (.int .u8 23), .lit (.int .u8 11), .lit (.int .u8 54), .lit (.int .u8 26), .lit (.int .u8 40), .lit (.int .u8 15), .lit (.int .u8 34), .lit (.int .u8 20), .lit (.int .u8 31), .lit (.int .u8 10), .lit (.int .u8 25), .lit (.int .u8 14), .lit (.int .u8 19), .lit (.int .u8 9), .lit (.int .u8 13), .lit (.int .u8 8), .lit (.int .u8 7), .lit (.int .u8 6)]

/-- 'shipyardlaw54.HullChecks': WHATEVER THE INPUT: true; the input reads as it did. -/
def hullChecksSpec : ChangeSpec := { name := "hullChecks", fn := fun _ => fun
  | [d] => { results := [.lit (.bool true)], args := [d] }
  | _ => none }
def hullChecksRow : OpenClaim := { program := "ytfmmnnodihpgmaadoor", sum := "0a0bf56a9758c3695e078479cb5396fb1eda31a2bd4392d05c6d239eba5a6829", func := "shipyard/shipyardlaw54.HullChecks", spec := "hullChecks", inPlace := ["math/bits.Add64", "math/bits.Sub64"], unfollowed := true, recurses := true, named := ["math/bits.deBruijn64tab"], plainKeys := false, apart := false, laid := [("math/bits.deBruijn64tab", laid_math_bits_deBruijn64tab)] }
def HullChecksSaid : Prop := hullChecksRow.holds Tryd.pinned (OpenSpec.ofChange hullChecksSpec)

/-- ITS FALSE NEIGHBOUR: 'it returns false'. Refute it at one input. -/
def hullChecksWrong : ChangeSpec := { name := "hullChecks", fn := fun _ => fun
  | [d] => { results := [.lit (.bool false)], args := [d] }
  | _ => none }
def HullChecksWrongFalsely : Prop := hullChecksRow.holds Tryd.pinned (OpenSpec.ofChange hullChecksWrong)

/-- 'shipyardlaw54.HullHalves': WHATEVER THE INPUT: true; the input reads as it did. -/
def hullHalvesSpec : ChangeSpec := { name := "hullHalves", fn := fun _ => fun
  | [d1, d2, d3] => { results := [.lit (.bool true)], args := [d1, d2, d3] }
  | _ => none }
def hullHalvesRow : OpenClaim := { program := "ytfmmnnodihpgmaadoor", sum := "0a0bf56a9758c3695e078479cb5396fb1eda31a2bd4392d05c6d239eba5a6829", func := "shipyard/shipyardlaw54.HullHalves", spec := "hullHalves", inPlace := ["math/bits.Add64", "math/bits.Sub64"], unfollowed := true, recurses := true, named := ["math/bits.deBruijn64tab"], plainKeys := false, apart := false, laid := [("math/bits.deBruijn64tab", laid_math_bits_deBruijn64tab)] }
def HullHalvesSaid : Prop := hullHalvesRow.holds Tryd.pinned (OpenSpec.ofChange hullHalvesSpec)

/-- ITS FALSE NEIGHBOUR: 'it returns false'. Refute it at one input. -/
def hullHalvesWrong : ChangeSpec := { name := "hullHalves", fn := fun _ => fun
  | [d1, d2, d3] => { results := [.lit (.bool false)], args := [d1, d2, d3] }
  | _ => none }
def HullHalvesWrongFalsely : Prop := hullHalvesRow.holds Tryd.pinned (OpenSpec.ofChange hullHalvesWrong)

/-- 'shipyardlaw54.HullOutlines': WHATEVER THE INPUT: true; the input reads as it did. -/
def hullOutlinesSpec : ChangeSpec := { name := "hullOutlines", fn := fun _ => fun
  | [d1, d2] => { results := [.lit (.bool true)], args := [d1, d2] }
  | _ => none }
def hullOutlinesRow : OpenClaim := { program := "ytfmmnnodihpgmaadoor", sum := "0a0bf56a9758c3695e078479cb5396fb1eda31a2bd4392d05c6d239eba5a6829", func := "shipyard/shipyardlaw54.HullOutlines", spec := "hullOutlines", inPlace := ["math/bits.Add64", "math/bits.Sub64"], unfollowed := true, recurses := true, named := ["math/bits.deBruijn64tab"], plainKeys := false, apart := false, laid := [("math/bits.deBruijn64tab", laid_math_bits_deBruijn64tab)] }
def HullOutlinesSaid : Prop := hullOutlinesRow.holds Tryd.pinned (OpenSpec.ofChange hullOutlinesSpec)

/-- ITS FALSE NEIGHBOUR: 'it returns false'. Refute it at one input. -/
def hullOutlinesWrong : ChangeSpec := { name := "hullOutlines", fn := fun _ => fun
  | [d1, d2] => { results := [.lit (.bool false)], args := [d1, d2] }
  | _ => none }
def HullOutlinesWrongFalsely : Prop := hullOutlinesRow.holds Tryd.pinned (OpenSpec.ofChange hullOutlinesWrong)

/-- 'shipyardlaw54.HullMeshes': WHATEVER THE INPUT: true; the input reads as it did. -/
def hullMeshesSpec : ChangeSpec := { name := "hullMeshes", fn := fun _ => fun
  | [d] => { results := [.lit (.bool true)], args := [d] }
  | _ => none }
def hullMeshesRow : OpenClaim := { program := "ytfmmnnodihpgmaadoor", sum := "0a0bf56a9758c3695e078479cb5396fb1eda31a2bd4392d05c6d239eba5a6829", func := "shipyard/shipyardlaw54.HullMeshes", spec := "hullMeshes", inPlace := ["math/bits.Add64", "math/bits.Sub64"], unfollowed := true, recurses := true, named := ["math/bits.deBruijn64tab"], plainKeys := false, apart := false, laid := [("math/bits.deBruijn64tab", laid_math_bits_deBruijn64tab)] }
def HullMeshesSaid : Prop := hullMeshesRow.holds Tryd.pinned (OpenSpec.ofChange hullMeshesSpec)

/-- ITS FALSE NEIGHBOUR: 'it returns false'. Refute it at one input. -/
def hullMeshesWrong : ChangeSpec := { name := "hullMeshes", fn := fun _ => fun
  | [d] => { results := [.lit (.bool false)], args := [d] }
  | _ => none }
def HullMeshesWrongFalsely : Prop := hullMeshesRow.holds Tryd.pinned (OpenSpec.ofChange hullMeshesWrong)

/-- 'shipyardlaw54.HullBoxes': WHATEVER THE INPUT: true; the input reads as it did. -/
def hullBoxesSpec : ChangeSpec := { name := "hullBoxes", fn := fun _ => fun
  | [d1, d2, d3] => { results := [.lit (.bool true)], args := [d1, d2, d3] }
  | _ => none }
def hullBoxesRow : OpenClaim := { program := "ytfmmnnodihpgmaadoor", sum := "0a0bf56a9758c3695e078479cb5396fb1eda31a2bd4392d05c6d239eba5a6829", func := "shipyard/shipyardlaw54.HullBoxes", spec := "hullBoxes", inPlace := ["math/bits.Add64", "math/bits.Sub64"], unfollowed := true, recurses := true, named := ["math/bits.deBruijn64tab"], plainKeys := false, apart := false, laid := [("math/bits.deBruijn64tab", laid_math_bits_deBruijn64tab)] }
def HullBoxesSaid : Prop := hullBoxesRow.holds Tryd.pinned (OpenSpec.ofChange hullBoxesSpec)

/-- ITS FALSE NEIGHBOUR: 'it returns false'. Refute it at one input. -/
def hullBoxesWrong : ChangeSpec := { name := "hullBoxes", fn := fun _ => fun
  | [d1, d2, d3] => { results := [.lit (.bool false)], args := [d1, d2, d3] }
  | _ => none }
def HullBoxesWrongFalsely : Prop := hullBoxesRow.holds Tryd.pinned (OpenSpec.ofChange hullBoxesWrong)

/-- 'shipyardlaw54.HullClosed': WHATEVER THE INPUT: true; the input reads as it did. -/
def hullClosedSpec : ChangeSpec := { name := "hullClosed", fn := fun _ => fun
  | [d] => { results := [.lit (.bool true)], args := [d] }
  | _ => none }
def hullClosedRow : OpenClaim := { program := "ytfmmnnodihpgmaadoor", sum := "0a0bf56a9758c3695e078479cb5396fb1eda31a2bd4392d05c6d239eba5a6829", func := "shipyard/shipyardlaw54.HullClosed", spec := "hullClosed", inPlace := ["math/bits.Add64", "math/bits.Sub64"], unfollowed := true, recurses := true, named := ["math/bits.deBruijn64tab"], plainKeys := false, apart := false, laid := [("math/bits.deBruijn64tab", laid_math_bits_deBruijn64tab)] }
def HullClosedSaid : Prop := hullClosedRow.holds Tryd.pinned (OpenSpec.ofChange hullClosedSpec)

/-- ITS FALSE NEIGHBOUR: 'it returns false'. Refute it at one input. -/
def hullClosedWrong : ChangeSpec := { name := "hullClosed", fn := fun _ => fun
  | [d] => { results := [.lit (.bool false)], args := [d] }
  | _ => none }
def HullClosedWrongFalsely : Prop := hullClosedRow.holds Tryd.pinned (OpenSpec.ofChange hullClosedWrong)

/- THE SECOND FORM. 'bulk': how many values and letters a reading holds, each counted each time it is reached (what is shared counts as often as it is met; a slice's spare places count too). A statement '..UptoSaid' is the law's where the arguments, and the package variables that the reading takes, are together of bulk at most 1048576: NARROWER than '..Said'. Prove '..Said' where nothing that the law and all that it calls make is longer than what came in: it says more and counts as full. Else prove '..UptoSaid'. A law counts once. -/
mutual
def uptoBulk {H : Type} : DataW H → Nat
  | .lit (.string bytes) => bytes.length + 1
  | .lit _ => 1
  | .nil => 1
  | .ptr d => uptoBulk d + 1
  | .slice elems spare => uptoBulkAll elems + uptoBulkAll spare + 1
  | .agg parts => uptoBulkAll parts + 1
  | .iface _ d => uptoBulk d + 1
  | .map entries => uptoBulkEntries entries + 1
  | .held _ => 1
def uptoBulkAll {H : Type} : List (DataW H) → Nat
  | [] => 0
  | d :: r => uptoBulk d + uptoBulkAll r
def uptoBulkEntries {H : Type} : List (Lit × DataW H) → Nat
  | [] => 0
  | x :: r => uptoBulkEntry x + uptoBulkEntries r
def uptoBulkEntry {H : Type} : Lit × DataW H → Nat
  | (.string bytes, d) => bytes.length + uptoBulk d + 1
  | (_, d) => uptoBulk d + 1
 end
def uptoSmall : (H : Type) → List (DataW H) → Bool := fun _ ds => decide (uptoBulkAll ds ≤ 1048576)
def OpenSpec.upto (s : _root_.Go.ChangeSpec) : _root_.Go.OpenSpec := { _root_.Go.OpenSpec.ofChange s with cond := some uptoSmall }

/-- 'shipyardlaw54.HullChecks', WHERE WHAT IT READS IS OF BULK AT MOST 1048576: true; the input reads as it did. -/
def hullChecksUptoRow : OpenClaim := { program := "ytfmmnnodihpgmaadoor", sum := "0a0bf56a9758c3695e078479cb5396fb1eda31a2bd4392d05c6d239eba5a6829", func := "shipyard/shipyardlaw54.HullChecks", spec := "hullChecks", inPlace := ["math/bits.Add64", "math/bits.Sub64"], unfollowed := true, recurses := true, named := ["math/bits.deBruijn64tab"], plainKeys := false, apart := false, laid := [("math/bits.deBruijn64tab", laid_math_bits_deBruijn64tab)], narrowed := true }
def HullChecksUptoSaid : Prop := hullChecksUptoRow.holds Tryd.pinned (OpenSpec.upto hullChecksSpec)

/-- 'shipyardlaw54.HullHalves', WHERE WHAT IT READS IS OF BULK AT MOST 1048576: true; the input reads as it did. -/
def hullHalvesUptoRow : OpenClaim := { program := "ytfmmnnodihpgmaadoor", sum := "0a0bf56a9758c3695e078479cb5396fb1eda31a2bd4392d05c6d239eba5a6829", func := "shipyard/shipyardlaw54.HullHalves", spec := "hullHalves", inPlace := ["math/bits.Add64", "math/bits.Sub64"], unfollowed := true, recurses := true, named := ["math/bits.deBruijn64tab"], plainKeys := false, apart := false, laid := [("math/bits.deBruijn64tab", laid_math_bits_deBruijn64tab)], narrowed := true }
def HullHalvesUptoSaid : Prop := hullHalvesUptoRow.holds Tryd.pinned (OpenSpec.upto hullHalvesSpec)

/-- 'shipyardlaw54.HullOutlines', WHERE WHAT IT READS IS OF BULK AT MOST 1048576: true; the input reads as it did. -/
def hullOutlinesUptoRow : OpenClaim := { program := "ytfmmnnodihpgmaadoor", sum := "0a0bf56a9758c3695e078479cb5396fb1eda31a2bd4392d05c6d239eba5a6829", func := "shipyard/shipyardlaw54.HullOutlines", spec := "hullOutlines", inPlace := ["math/bits.Add64", "math/bits.Sub64"], unfollowed := true, recurses := true, named := ["math/bits.deBruijn64tab"], plainKeys := false, apart := false, laid := [("math/bits.deBruijn64tab", laid_math_bits_deBruijn64tab)], narrowed := true }
def HullOutlinesUptoSaid : Prop := hullOutlinesUptoRow.holds Tryd.pinned (OpenSpec.upto hullOutlinesSpec)

/-- 'shipyardlaw54.HullMeshes', WHERE WHAT IT READS IS OF BULK AT MOST 1048576: true; the input reads as it did. -/
def hullMeshesUptoRow : OpenClaim := { program := "ytfmmnnodihpgmaadoor", sum := "0a0bf56a9758c3695e078479cb5396fb1eda31a2bd4392d05c6d239eba5a6829", func := "shipyard/shipyardlaw54.HullMeshes", spec := "hullMeshes", inPlace := ["math/bits.Add64", "math/bits.Sub64"], unfollowed := true, recurses := true, named := ["math/bits.deBruijn64tab"], plainKeys := false, apart := false, laid := [("math/bits.deBruijn64tab", laid_math_bits_deBruijn64tab)], narrowed := true }
def HullMeshesUptoSaid : Prop := hullMeshesUptoRow.holds Tryd.pinned (OpenSpec.upto hullMeshesSpec)

/-- 'shipyardlaw54.HullBoxes', WHERE WHAT IT READS IS OF BULK AT MOST 1048576: true; the input reads as it did. -/
def hullBoxesUptoRow : OpenClaim := { program := "ytfmmnnodihpgmaadoor", sum := "0a0bf56a9758c3695e078479cb5396fb1eda31a2bd4392d05c6d239eba5a6829", func := "shipyard/shipyardlaw54.HullBoxes", spec := "hullBoxes", inPlace := ["math/bits.Add64", "math/bits.Sub64"], unfollowed := true, recurses := true, named := ["math/bits.deBruijn64tab"], plainKeys := false, apart := false, laid := [("math/bits.deBruijn64tab", laid_math_bits_deBruijn64tab)], narrowed := true }
def HullBoxesUptoSaid : Prop := hullBoxesUptoRow.holds Tryd.pinned (OpenSpec.upto hullBoxesSpec)

/-- 'shipyardlaw54.HullClosed', WHERE WHAT IT READS IS OF BULK AT MOST 1048576: true; the input reads as it did. -/
def hullClosedUptoRow : OpenClaim := { program := "ytfmmnnodihpgmaadoor", sum := "0a0bf56a9758c3695e078479cb5396fb1eda31a2bd4392d05c6d239eba5a6829", func := "shipyard/shipyardlaw54.HullClosed", spec := "hullClosed", inPlace := ["math/bits.Add64", "math/bits.Sub64"], unfollowed := true, recurses := true, named := ["math/bits.deBruijn64tab"], plainKeys := false, apart := false, laid := [("math/bits.deBruijn64tab", laid_math_bits_deBruijn64tab)], narrowed := true }
def HullClosedUptoSaid : Prop := hullClosedUptoRow.holds Tryd.pinned (OpenSpec.upto hullClosedSpec)

end Rows
end Go.Proofs.YtfmmnnodihpgmaaDoor
