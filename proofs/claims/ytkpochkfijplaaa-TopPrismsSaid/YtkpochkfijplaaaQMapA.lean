/-
  Maps whose keys are pairs of numbers and whose elements are bools, filled with 'true': a set of pairs.
-/
import Derived.Test.YtkpochkfijplaaaQHullA
import Derived.Maps.OwnSet
import Derived.Maps.RangeWalk
import Derived.Maps.OwnOps
import Derived.DeepKeys4

namespace Go.Proofs.Ytkpochkfijplaaa
set_option linter.all false
open Go Go.RowKit Wd
set_option maxRecDepth 100000
theorem mp_laid : laidOutB Try.prog = true := by kernel_rfl
theorem mp_wide : (match Try.prog.underlying 80 with | some (.array _ _) | some (.struct _) => true | _ => false) = true := by rw [Try.underlying80]
theorem mp_row : (80 : TypeId) < Try.prog.types.size := of_decide_eq_true (by kernel_rfl)
theorem mp_size : ∃ m, Try.prog.types.size = m + 1 := ⟨Try.prog.types.size - 1, (Nat.succ_pred_eq_of_pos (Nat.lt_of_le_of_lt (Nat.zero_le _) mp_row)).symm⟩
theorem mp_law : Maps.Keyed Try.prog 80 := Maps.Keyed.of_law (deep_law_laid mp_laid (m := 2) (by omega) mp_row (by kernel_rfl) mp_wide)
theorem mp_cells2 : Try.prog.cellsOf 80 = 2 := by kernel_rfl
theorem mp_cells1 : Try.prog.cellsOf 3 = 1 := by kernel_rfl
theorem mp_type : Try.prog.keyType 80 = true := by kernel_rfl
theorem mp_zero (w : World) : (zeroValue 4).run Try.prog w = .ok (.bool false) w := by kernel_rfl
/-- Numbers that an int holds. -/
def I64 (a : Int) : Prop := -9223372036854775808 ≤ a ∧ a ≤ 9223372036854775807
theorem I64.wf {a : Int} (h : I64 a) : (Lit.int .i64 a).wf = true := by
  unfold I64 at h
  simp [Lit.wf, IntKind.has, IntKind.min, IntKind.max, IntKind.signed, IntKind.bits]
  exact h
theorem wf_I64 {a : Int} (h : (Lit.int .i64 a).wf = true) : I64 a := by
  simp [Lit.wf, IntKind.has, IntKind.min, IntKind.max, IntKind.signed, IntKind.bits] at h
  exact h
def pair2 (x : Int × Int) : Value := .agg #[.int .i64 x.1, .int .i64 x.2]
@[irreducible] def key2 (x : Int × Int) : Lit := .string (keyBytes [.int .i64 x.1, .int .i64 x.2])
theorem key2_of {x : Int × Int} (h1 : I64 x.1) (h2 : I64 x.2) : keyOf Try.prog 80 (pair2 x) = some (key2 x) := by
  obtain ⟨m, hm⟩ := mp_size
  have a := h1.wf
  have b := h2.wf
  unfold key2 pair2 keyOf
  simp [Try.underlying80, mp_type, Value.formed, mp_cells2, hm, Program.keyLits, Value.cells, mp_cells1, Try.underlying3, List.range, List.range.loop, a, b]
theorem key2_back {v : Value} {l : Lit} (h : keyOf Try.prog 80 v = some l) : ∃ x : Int × Int, v = pair2 x ∧ I64 x.1 ∧ I64 x.2 ∧ l = key2 x := by
  obtain ⟨m, hm⟩ := mp_size
  unfold keyOf at h
  simp only [Try.underlying80, mp_type, Bool.true_and] at h
  split at h
  case isFalse => cases h
  case isTrue hf =>
    cases v with
    | agg cs =>
      simp only [Value.formed, Try.underlying80, mp_cells2, beq_iff_eq] at hf
      obtain ⟨l0, hl0⟩ : ∃ l0, cs.toList = l0 := ⟨_, rfl⟩
      have hlen : l0.length = 2 := by rw [← hl0]; simpa using hf
      obtain ⟨c0, c1, rfl⟩ : ∃ c0 c1, l0 = [c0, c1] := by
        match l0, hlen with
        | [c0, c1], _ => exact ⟨c0, c1, rfl⟩
      have hcs : cs = #[c0, c1] := by rw [← Array.toArray_toList (xs := cs), hl0]
      subst hcs
      simp [Value.cells, hm, Program.keyLits, Try.underlying80, mp_cells2, mp_cells1, Try.underlying3, List.range, List.range.loop] at h
      cases c0 with
      | int q0 n0 =>
        by_cases h0 : q0 = .i64 ∧ (Lit.int .i64 n0).wf = true
        · obtain ⟨rfl, w0⟩ := h0
          simp [w0] at h
          cases c1 with
          | int q1 n1 =>
            by_cases h1 : q1 = .i64 ∧ (Lit.int .i64 n1).wf = true
            · obtain ⟨rfl, w1⟩ := h1
              simp [w1] at h
              exact ⟨(n0, n1), rfl, wf_I64 w0, wf_I64 w1, by unfold key2; rw [← h]⟩
            · simp [h1] at h
          | _ => simp at h
        · simp [h0] at h
      | _ => simp at h
    | _ => simp [Value.formed, Try.underlying80] at hf
theorem key2_inj {x y : Int × Int} (hx : I64 x.1 ∧ I64 x.2) (hy : I64 y.1 ∧ I64 y.2) (h : key2 x = key2 y) : x = y := by
  have h1 := key2_of hx.1 hx.2
  have h2 := key2_of hy.1 hy.2
  rw [h] at h1
  have := mp_law.inj h1 h2
  unfold pair2 at this
  simp at this
  exact Prod.ext this.1 this.2
/-- The map's datum when the pairs of a list have been laid in. -/
@[irreducible] def Sd (E : List (Int × Int)) : DataW Unit := Maps.setOf (.lit (.bool true)) (E.map key2)
theorem Sd_nil : Sd [] = .map [] := by unfold Sd; rfl
theorem Sd_snoc (E : List (Int × Int)) (x : Int × Int) : Sd (E ++ [x]) = (Sd E).put (key2 x) (.lit (.bool true)) := by unfold Sd; rw [List.map_append, List.map_cons, List.map_nil, Maps.setOf_snoc]
def Good (E : List (Int × Int)) : Prop := ∀ x ∈ E, I64 x.1 ∧ I64 x.2
theorem key2_key {x : Int × Int} (h : I64 x.1 ∧ I64 x.2) : WideAt.IsKeyLit (key2 x) := mp_law.key (key2_of h.1 h.2)
theorem Good.keys {E : List (Int × Int)} (h : Good E) : ∀ k ∈ E.map key2, WideAt.IsKeyLit k := by
  intro k hk
  obtain ⟨x, hx, rfl⟩ := List.mem_map.1 hk
  exact key2_key (h x hx)
theorem Good.mem {E : List (Int × Int)} {x : Int × Int} (h : Good E) (hx : I64 x.1 ∧ I64 x.2) : (E.map key2).any (fun k => k.sameKey (key2 x)) = decide (x ∈ E) := by
  by_cases hm : x ∈ E
  · rw [decide_eq_true hm, List.any_eq_true]
    exact ⟨key2 x, List.mem_map.2 ⟨x, hm, rfl⟩, WideAt.sameKey_self (key2_key hx)⟩
  · rw [decide_eq_false hm, List.any_eq_false]
    intro k hk
    obtain ⟨y, hy, rfl⟩ := List.mem_map.1 hk
    intro hs
    have := key2_inj (h y hy) hx (WideAt.sameKey_eq hs)
    exact hm (this ▸ hy)
theorem Sd_has {E : List (Int × Int)} {x : Int × Int} (h : Good E) (hx : I64 x.1 ∧ I64 x.2) : Maps.has (Sd E) (key2 x) = decide (x ∈ E) := by
  unfold Sd
  rw [Maps.has_setOf _ _ _ h.keys, h.mem hx]
theorem atKey_fold (u z : DataW Unit) (k : Lit) : ∀ (acc : List Lit) (m : DataW Unit), Maps.IsMap m → (∀ x ∈ acc, WideAt.IsKeyLit x) → (acc.foldl (fun m x => m.put x u) m).atKey k z = if acc.any (fun x => x.sameKey k) then u else m.atKey k z
  | [], m, _, _ => by simp
  | x :: r, m, hm, h => by
    rw [List.foldl_cons, atKey_fold u z k r (m.put x u) (hm.put x u) (fun y hy => h y (by simp [hy])), List.any_cons]
    by_cases e : k = x
    · subst e
      rw [Maps.atKey_put_same hm (h k (by simp)), WideAt.sameKey_self (h k (by simp))]
      simp
    · rw [Maps.atKey_put_other e, Maps.sameKey_ne (fun e' => e e'.symm)]
      simp
theorem Sd_at {E : List (Int × Int)} {x : Int × Int} (h : Good E) (hx : I64 x.1 ∧ I64 x.2) : (Sd E).atKey (key2 x) (.lit (.bool false)) = .lit (.bool (decide (x ∈ E))) := by
  unfold Sd Maps.setOf
  rw [atKey_fold _ _ _ _ _ Maps.isMap_empty h.keys, h.mem hx]
  by_cases hm : x ∈ E
  · simp [hm]
  · simp [hm, DataW.atKey]
/-- What a look-up in the set runs to. -/
theorem look2 {w : World} {b n : Nat} {E : List (Int × Int)} (hown : w.ownsMap Try.prog 80 (plainElem Try.prog 4) b n (Sd E)) (h : Good E) {x : Int × Int} (hx : I64 x.1 ∧ I64 x.2) :
    (Instr.lookup 79 (.map (some b)) (.agg #[.int .i64 x.1, .int .i64 x.2]) false).run Try.prog w = .ok (.bool (decide (x ∈ E))) w := by
  obtain ⟨v, ps, hrun, hv⟩ := hown.lookup mp_law Try.underlying79 (mp_zero w) (plainElem_bool Try.underlying4 false) (key2_of hx.1 hx.2)
  rw [Sd_at h hx] at hv
  unfold plainElem at hv
  rw [Try.underlying4] at hv
  cases v <;> simp at hv
  rw [hv.1] at hrun
  exact hrun
end Go.Proofs.Ytkpochkfijplaaa
