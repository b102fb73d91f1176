/-
  WHAT IS PROVED: shipyardtop.TopPrisms, whatever the input: it returns true and its arguments read as before. CONDITIONS: none.
-/
import Derived.Test.YtkpochkfijplaaaLawPrisms
import Derived.Test.YtkpochkfijplaaaRows
import Derived.ProofKit
import Derived.OpenShut
import Derived.Deep.DeepHandedRow
import Derived.Deep.Slices
import Derived.Deep.Fields
import Derived.ChangeSame
import Derived.LaidSub
namespace Go.Proofs.Ytkpochkfijplaaa.atTopPrisms
set_option linter.all false
open Go Go.RowKit Go.ChangeShapes Go.WideShapes Go.ChangeAt Go.Deep Wd Go.Proofs.Ytkpochkfijplaaa
set_option maxRecDepth 100000
section
variable {H : Type} {enc : TypeId × Value → H} {P : Program} {w : World} {base : Nat} {spare : Nat → Bool} {held : Bool}
theorem open_slice_fields {t e : TypeId} {fs : Array Field} {fuel : Nat} {cs : List Value} {x : DataW H × List MemPlace} (ht : P.underlying t = some (.slice e)) (he : P.underlying e = some (.struct fs))
    (hone : oneCellFields P fs = true) (hC : P.cellsOf e = fs.size) (h : DataW.trod enc P w base spare held fuel t cs = some x) :
    (cs = [.slice none 0 0] ∧ x = (.nil, [])) ∨
    ∃ (a : Addr) (len cap m : Nat) (D : Nat → DataW H) (Pl : Nat → List MemPlace), cs = [.slice (some a) len cap] ∧ base ≤ a.block ∧ len ≤ cap ∧ cap ≤ maxLen ∧ m = (if spare a.block then cap else len) ∧
      x = (.slice ((List.range len).map D) ((List.range (m - len)).map fun j => D (len + j)), MemPlace.row a (m * fs.size) ++ (List.range m).flatMap Pl) ∧
      ∀ i, i < m → ∃ (ys : List (DataW H × List MemPlace)) (n : Nat), D i = .agg (ys.map (·.1)) ∧ Pl i = ys.flatMap (·.2) ∧ ys.length = fs.size ∧
        ∀ (j : Nat) (f : Field), fs[j]? = some f → ∃ (v : Value) (y : DataW H × List MemPlace), w.cell? (a.add (i * fs.size + j)) = some v ∧ ys[j]? = some y ∧ DataW.trod enc P w base spare held n f.type [v] = some y := by
  rcases open_slice ht h with h0 | ⟨a, len, cap, m, n, D, Pl, hcs, hb, hl, hm, hmm, hx, hi⟩
  · exact .inl h0
  · refine .inr ⟨a, len, cap, m, D, Pl, hcs, hb, hl, hm, hmm, by rw [hC] at hx; exact hx, fun i him => ?_⟩
    obtain ⟨cs', hc, ht'⟩ := hi i him
    rw [hC] at hc
    obtain ⟨ys, n', hn', hy, hlen, hyl, hf⟩ := DataW.trod_struct he ht'
    obtain ⟨_, hcl, hat⟩ := World.cells?_some hc
    simp only [Prod.mk.injEq] at hy
    refine ⟨ys, n', hy.1, hy.2, hyl, fun j f hj => ?_⟩
    obtain ⟨ho, hk⟩ := hone_of hone j f hj
    have hjl : j < fs.size := (Array.getElem?_eq_some_iff.1 hj).1
    have hcell := hat j hjl
    have hv : cs'[j]? = some (cs'[j]'(by omega)) := List.getElem?_eq_getElem (by omega)
    have h1 := hf j f hj
    rw [ho, hk] at h1
    have hone' : (cs'.drop j).take 1 = [cs'[j]'(by omega)] := by
      rw [List.drop_eq_getElem_cons (by omega)]
      rfl
    rw [hone'] at h1
    have hys : ys[j]? = some (ys[j]'(by omega)) := List.getElem?_eq_getElem (by omega)
    refine ⟨_, _, ?_, hys, h1.trans hys⟩
    rw [← Go.Deep.add_add, hcell, hv]
end
theorem own : ownKnob Try.prog.godebug = none := by kernel_rfl
theorem laid_out : laidOutB Try.prog = true := by kernel_rfl
theorem cells_pt : Try.prog.cellsOf 54 = 2 := by kernel_rfl
theorem under_pt : ∃ fs : Array Field, Try.prog.underlying 54 = some (.struct fs) ∧ fs.size = 2 ∧ oneCellFields Try.prog fs = true ∧ (∃ f0, fs[0]? = some f0 ∧ f0.type = 3) ∧ (∃ f1, fs[1]? = some f1 ∧ f1.type = 3) :=
  ⟨_, Try.underlying54, rfl, by kernel_rfl, ⟨_, rfl, rfl⟩, ⟨_, rfl, rfl⟩⟩
theorem cell_lt {w : World} {b o : Nat} {v : Value} (h : w.cell? ⟨b, o, none⟩ = some v) : b < w.heap.size := by
  rcases Nat.lt_or_ge b w.heap.size with h1 | h1
  · exact h1
  · unfold World.cell? at h
    rw [Array.getElem?_eq_none h1] at h
    simp at h
/-- The integer in a cell. -/
def cellInt (w : World) (b k : Nat) : Int := match w.cell? ⟨b, k, none⟩ with
  | some (.int _ z) => z
  | _ => 0
theorem add_at {b o j : Nat} : (⟨b, o, none⟩ : Addr).add j = ⟨b, o + j, none⟩ := by unfold Addr.add; split <;> simp_all
theorem open_pts {H : Type} {enc : TypeId × Value → H} {W : World} {base : Nat} {held : Bool} {v : Value} {d : DataW H} {p : List MemPlace}
    (hval : Value.okWide Try.prog W .any base 22 v) (h : DataW.Trod enc Try.prog W 0 (fun _ => true) held 22 v d p) :
    ∃ (a : Option Addr) (n c : Nat) (X Y : Nat → Int), v = .slice a n c ∧ n ≤ maxLen ∧ (3 ≤ n → ∃ b o, a = some ⟨b, o, none⟩ ∧ Pts W b o n X Y) := by
  obtain ⟨fuel, hf⟩ := h
  obtain ⟨fs, hfs, hsz, hone, ⟨f0, e0, t0⟩, f1, e1, t1⟩ := under_pt
  obtain ⟨a', n', c', rfl⟩ := okWide_slice Try.underlying22 hval
  rcases open_slice_fields Try.underlying22 hfs hone (by rw [hsz]; exact cells_pt) hf with ⟨h1, -⟩ | ⟨a, len, cap, m, D, Pl, h1, -, hl, hm, hmm, -, hi⟩
  · simp [Value.cells] at h1
    obtain ⟨rfl, rfl, rfl⟩ := h1
    exact ⟨none, 0, 0, fun _ => 0, fun _ => 0, rfl, Nat.zero_le _, fun h => by omega⟩
  · simp [Value.cells] at h1
    obtain ⟨rfl, rfl, rfl⟩ := h1
    simp only [if_true] at hmm
    subst hmm
    obtain ⟨b, o, sp⟩ := a
    refine ⟨some ⟨b, o, sp⟩, n', _, fun i => cellInt W b (o + i * 2), fun i => cellInt W b (o + i * 2 + 1), rfl, by omega, fun h3 => ?_⟩
    have hs : sp = none := by
      obtain ⟨ys, n, -, -, -, hfl⟩ := hi 0 (by omega)
      obtain ⟨v, y, hc, -, -⟩ := hfl 0 f0 e0
      rw [hsz] at hc
      simpa [Addr.add] using World.cell?_spot hc
    subst hs
    have key : ∀ i, i < n' → ∃ z1 z2, W.cell? ⟨b, o + i * 2, none⟩ = some (.int .i64 z1) ∧ W.cell? ⟨b, o + i * 2 + 1, none⟩ = some (.int .i64 z2) := fun i hi' => by
      obtain ⟨ys, n, -, -, -, hfl⟩ := hi i (by omega)
      obtain ⟨v, y, hc, -, ht⟩ := hfl 0 f0 e0
      obtain ⟨v', y', hc', -, ht'⟩ := hfl 1 f1 e1
      rw [hsz, add_at] at hc
      rw [hsz, add_at] at hc'
      rw [t0] at ht
      rw [t1] at ht'
      obtain ⟨z1, e1, -⟩ := DataW.trod_int Try.underlying3 ht
      obtain ⟨z2, e2, -⟩ := DataW.trod_int Try.underlying3 ht'
      cases e1
      cases e2
      exact ⟨z1, z2, hc, hc'⟩
    refine ⟨b, o, rfl, ?_, fun i hi' => ?_, fun i hi' => ?_⟩
    · obtain ⟨z1, z2, h1, -⟩ := key 0 (by omega)
      exact cell_lt h1
    · obtain ⟨z1, z2, h1, -⟩ := key i hi'
      unfold cellInt
      rw [h1]
    · obtain ⟨z1, z2, -, h2⟩ := key i hi'
      unfold cellInt
      rw [h2]
theorem open_int64 {w : World} {base : Nat} {v : Value} (h : Value.okWide Try.prog w .any base 3 v) : ∃ n : Int, -9223372036854775808 ≤ n ∧ n ≤ 9223372036854775807 ∧ v = .int .i64 n := by
  simp only [Value.okWide, Cell.okWide, Cell.ok, Try.underlying3] at h
  cases v <;> simp_all
  rename_i k n
  obtain ⟨rfl, h2⟩ := h
  simp [IntKind.has, IntKind.min, IntKind.max, IntKind.signed, IntKind.bits] at h2
  exact ⟨h2.1, h2.2⟩
theorem contract (H : Type) (enc : TypeId × Value → H) (W : World) (base : Nat) (args : Array Value) (ds gs : List (DataW H)) (before : List MemPlace)
    (hval : ∀ (j : Nat) t v, Try.f3.params[j]? = some t → args[j]? = some v → Value.okWide Try.prog W .any base t v)
    (hW : DataW.Whole enc Try.prog Try.f3.params.toList Rows.topPrismsSpec.vars false W args.toList ds gs before) :
    Calls Try.prog 3 args W fun e W' => ∃ v, e = .returned v ∧ Rows.topPrismsSpec.post enc Try.prog Try.f3 false true false false W args v W' := by
  have hW' := hW
  obtain ⟨p, q, hA0, hV, rfl, hfz, hnd⟩ := hW
  have hA : DataW.TrodAll enc Try.prog W 0 (fun _ => true) true Try.f3.params.toList args.toList ds p := hA0
  rw [Try.params3] at hA hval
  obtain ⟨v0, vs0, d0, ds0, p0, q0, hargs, rfl, rfl, h0, r0⟩ := trodAll_cons hA
  obtain ⟨v1, vs1, d1, ds1, p1, q1, rfl, rfl, rfl, h1, r1⟩ := trodAll_cons r0
  obtain ⟨rfl, rfl, rfl⟩ := trodAll_nil r1
  obtain rfl : args = #[v0, v1] := by cases args; simp_all
  obtain ⟨rfl, rfl⟩ := trodVars_none hV
  obtain ⟨a, n, c, X, Y, rfl, hm, hp⟩ := open_pts (hval 0 22 v0 rfl rfl) h0
  obtain ⟨t, ht, ht', rfl⟩ := open_int64 (hval 1 3 v1 rfl rfl)
  refine (prisms_any a n c X Y t hm W hp).mono fun e W' ⟨he, hb⟩ => ?_
  subst he
  exact ⟨_, rfl, _, _, _, [], _, [], hW', trodAll_cons_mk (shut_bool Try.underlying4 _) trodAll_mk0, trodAll_cons_mk (Below.trod laid_out (by kernel_rfl) (of_decide_eq_true (by kernel_rfl)) h0 hb (fun x hx => hW'.lt x (by simp [hx]))) (trodAll_cons_mk (Below.trod laid_out (by kernel_rfl) (of_decide_eq_true (by kernel_rfl)) h1 hb (fun x hx => hW'.lt x (by simp [hx]))) (trodAll_mk0)), rfl, hb.frame _, fun h => by cases h⟩
noncomputable def world (os : Os) : World := World.holding Try.prog os ⟨#[], #[], []⟩
theorem laid_met (os : Os) : laidMet Try.prog Rows.topPrismsRow.laid ((world os).forCall (fun _ _ => 0) ⟨#[], #[.slice none 0 0, .int .i64 0], []⟩).memory :=
  laidMet_of_run' 8 (by kernel_rfl) (by kernel_rfl)
theorem reads (os : Os) {H : Type} (enc : TypeId × Value → H) : ∃ places, DataW.whole enc Try.prog ((world os).forCall (fun _ _ => 0) ⟨#[], #[.slice none 0 0, .int .i64 0], []⟩).memory Try.f3.params.toList Rows.topPrismsSpec.vars false (#[.slice none 0 0, .int .i64 0] : Array Value).toList 8 = some ([.nil, .lit (.int .i64 0)], [], places) :=
  ⟨[], by kernel_rfl⟩
theorem lifted (os : Os) (started : os.Started) (H : Type) (enc : TypeId × Value → H) (F : Stop.Interp) :
    ReturnsInHanded {} Try.checked os 3 .any ((OpenSpec.ofChange Rows.topPrismsSpec).preRow enc Try.prog Try.f3 Rows.topPrismsRow.domain false Rows.topPrismsRow.laid) (((OpenSpec.ofChange Rows.topPrismsSpec).at F).post enc Try.prog Try.f3 false true false false) := by
  obtain ⟨places, hx⟩ := reads os enc
  refine returnsInHanded_of_row (C := Try.checked) (s := OpenSpec.ofChange Rows.topPrismsSpec) own started (by kernel_rfl) Try.func3
    (witness_row_at (enc := enc) (C := Try.checked) false (world os) #[.slice none 0 0, .int .i64 0] rfl (by kernel_rfl) (by kernel_rfl) (by kernel_rfl)
      (OpenSpec.preRow_of_cond 8 hx (by kernel_rfl) (fun k hk => by cases hk) (by kernel_rfl) (laid_met os))) ?_
  intro W base args ds gs before hval hW _ _ _ _ _ _
  exact contract H enc W base args ds gs before hval hW
theorem said : Rows.TopPrismsSaid :=
  OpenClaim.holds_of_cond 3 Try.f3 rfl rfl rfl rfl rfl rfl rfl ⟨rfl, rfl, rfl, rfl, rfl⟩ rfl rfl rfl rfl rfl (by kernel_rfl) Try.func3 (by kernel_rfl)
    (of_decide_eq_true (by kernel_rfl)) (by unfold Func.isWrapper; first | (rw [if_pos (by decide +kernel)]; kernel_rfl) | (rw [if_neg (by decide +kernel)]; exact ⟨rfl, rfl⟩))
    (fun os started H enc _ F => by rw [OpenClaim.pre_eq_preRow]; exact lifted os started H enc F)
end Go.Proofs.Ytkpochkfijplaaa.atTopPrisms
namespace Go.Proofs.Ytkpochkfijplaaa
set_option linter.all false
open Go atTopPrisms
theorem topPrisms_holds : Rows.TopPrismsSaid := atTopPrisms.said
#print axioms topPrisms_holds
end Go.Proofs.Ytkpochkfijplaaa
