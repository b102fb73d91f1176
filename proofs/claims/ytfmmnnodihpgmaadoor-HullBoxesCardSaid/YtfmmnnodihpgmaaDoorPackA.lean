/-
  Maps whose keys are pairs of numbers and whose elements are bools, filled with 'true': a set of pairs.
  mesh.closed: a surface each of whose directed edges occurs once, and the opposite one too, is closed.
  The surface of a hull, no program in sight: its edges, each of which occurs once, and the opposite one too; what it encloses; its moment about the middle.
  The surface that hull.Mesh makes, as the plain law (SurfM) has it: its faces' indices and its points' coordinates, where they lie.
  (Written by wip/pack.py out of XMapA, XMeshK, XSurfM, XSurfK.)
-/
import Derived.Test.YtfmmnnodihpgmaaDoorHullB
import Derived.Maps.OwnSet
import Derived.Maps.RangeWalk
import Derived.Maps.OwnOps
import Derived.DeepKeys4
import Derived.Test.YtfmmnnodihpgmaaDoorMeshS
import Derived.WalkKit
import Derived.Test.YtfmmnnodihpgmaaDoorMeshD
namespace Go.Proofs.YtfmmnnodihpgmaaDoor
set_option linter.all false
open Go Go.RowKit Wd
set_option maxRecDepth 100000
theorem mp_laid : laidOutB Tryd.prog = true := by kernel_rfl
theorem mp_wide : (match Tryd.prog.underlying 80 with | some (.array _ _) | some (.struct _) => true | _ => false) = true := by rw [Tryd.underlying80]
theorem mp_row : (80 : TypeId) < Tryd.prog.types.size := of_decide_eq_true (by kernel_rfl)
theorem mp_size : ∃ m, Tryd.prog.types.size = m + 1 := ⟨Tryd.prog.types.size - 1, (Nat.succ_pred_eq_of_pos (Nat.lt_of_le_of_lt (Nat.zero_le _) mp_row)).symm⟩
theorem mp_law : Maps.Keyed Tryd.prog 80 := Maps.Keyed.of_law (deep_law_laid mp_laid (m := 2) (by omega) mp_row (by kernel_rfl) mp_wide)
theorem mp_cells2 : Tryd.prog.cellsOf 80 = 2 := by kernel_rfl
theorem mp_cells1 : Tryd.prog.cellsOf 3 = 1 := by kernel_rfl
theorem mp_type : Tryd.prog.keyType 80 = true := by kernel_rfl
theorem mp_zero (w : World) : (zeroValue 4).run Tryd.prog w = .ok (.bool false) w := by kernel_rfl
/-- Numbers that an int holds. -/
def I64 (a : Int) : Prop := -9223372036854775808 ≤ a ∧ a ≤ 9223372036854775807
theorem I64.wf {a : Int} (h : I64 a) : (Lit.int .i64 a).wf = true := by
  unfold I64 at h
  simp [Lit.wf, IntKind.has, IntKind.min, IntKind.max, IntKind.signed, IntKind.bits]
  exact h
theorem wf_I64 {a : Int} (h : (Lit.int .i64 a).wf = true) : I64 a := by
  simp [Lit.wf, IntKind.has, IntKind.min, IntKind.max, IntKind.signed, IntKind.bits] at h
  exact h
def pair2 (x : Int × Int) : Value := .agg #[.int .i64 x.1, .int .i64 x.2]
@[irreducible] def key2 (x : Int × Int) : Lit := .string (keyBytes [.int .i64 x.1, .int .i64 x.2])
theorem key2_of {x : Int × Int} (h1 : I64 x.1) (h2 : I64 x.2) : keyOf Tryd.prog 80 (pair2 x) = some (key2 x) := by
  obtain ⟨m, hm⟩ := mp_size
  have a := h1.wf
  have b := h2.wf
  unfold key2 pair2 keyOf
  simp [Tryd.underlying80, mp_type, Value.formed, mp_cells2, hm, Program.keyLits, Value.cells, mp_cells1, Tryd.underlying3, List.range, List.range.loop, a, b]
theorem key2_back {v : Value} {l : Lit} (h : keyOf Tryd.prog 80 v = some l) : ∃ x : Int × Int, v = pair2 x ∧ I64 x.1 ∧ I64 x.2 ∧ l = key2 x := by
  obtain ⟨m, hm⟩ := mp_size
  unfold keyOf at h
  simp only [Tryd.underlying80, mp_type, Bool.true_and] at h
  split at h
  case isFalse => cases h
  case isTrue hf =>
    cases v with
    | agg cs =>
      simp only [Value.formed, Tryd.underlying80, mp_cells2, beq_iff_eq] at hf
      obtain ⟨l0, hl0⟩ : ∃ l0, cs.toList = l0 := ⟨_, rfl⟩
      have hlen : l0.length = 2 := by rw [← hl0]; simpa using hf
      obtain ⟨c0, c1, rfl⟩ : ∃ c0 c1, l0 = [c0, c1] := by
        match l0, hlen with
        | [c0, c1], _ => exact ⟨c0, c1, rfl⟩
      have hcs : cs = #[c0, c1] := by rw [← Array.toArray_toList (xs := cs), hl0]
      subst hcs
      simp [Value.cells, hm, Program.keyLits, Tryd.underlying80, mp_cells2, mp_cells1, Tryd.underlying3, List.range, List.range.loop] at h
      cases c0 with
      | int q0 n0 =>
        by_cases h0 : q0 = .i64 ∧ (Lit.int .i64 n0).wf = true
        · obtain ⟨rfl, w0⟩ := h0
          simp [w0] at h
          cases c1 with
          | int q1 n1 =>
            by_cases h1 : q1 = .i64 ∧ (Lit.int .i64 n1).wf = true
            · obtain ⟨rfl, w1⟩ := h1
              simp [w1] at h
              exact ⟨(n0, n1), rfl, wf_I64 w0, wf_I64 w1, by unfold key2; rw [← h]⟩
            · simp [h1] at h
          | _ => simp at h
        · simp [h0] at h
      | _ => simp at h
    | _ => simp [Value.formed, Tryd.underlying80] at hf
theorem key2_inj {x y : Int × Int} (hx : I64 x.1 ∧ I64 x.2) (hy : I64 y.1 ∧ I64 y.2) (h : key2 x = key2 y) : x = y := by
  have h1 := key2_of hx.1 hx.2
  have h2 := key2_of hy.1 hy.2
  rw [h] at h1
  have := mp_law.inj h1 h2
  unfold pair2 at this
  simp at this
  exact Prod.ext this.1 this.2
/-- The map's datum when the pairs of a list have been laid in. -/
@[irreducible] def Sd (E : List (Int × Int)) : DataW Unit := Maps.setOf (.lit (.bool true)) (E.map key2)
theorem Sd_nil : Sd [] = .map [] := by unfold Sd; rfl
theorem Sd_snoc (E : List (Int × Int)) (x : Int × Int) : Sd (E ++ [x]) = (Sd E).put (key2 x) (.lit (.bool true)) := by unfold Sd; rw [List.map_append, List.map_cons, List.map_nil, Maps.setOf_snoc]
def Good (E : List (Int × Int)) : Prop := ∀ x ∈ E, I64 x.1 ∧ I64 x.2
theorem key2_key {x : Int × Int} (h : I64 x.1 ∧ I64 x.2) : WideAt.IsKeyLit (key2 x) := mp_law.key (key2_of h.1 h.2)
theorem Good.keys {E : List (Int × Int)} (h : Good E) : ∀ k ∈ E.map key2, WideAt.IsKeyLit k := by
  intro k hk
  obtain ⟨x, hx, rfl⟩ := List.mem_map.1 hk
  exact key2_key (h x hx)
theorem Good.mem {E : List (Int × Int)} {x : Int × Int} (h : Good E) (hx : I64 x.1 ∧ I64 x.2) : (E.map key2).any (fun k => k.sameKey (key2 x)) = decide (x ∈ E) := by
  by_cases hm : x ∈ E
  · rw [decide_eq_true hm, List.any_eq_true]
    exact ⟨key2 x, List.mem_map.2 ⟨x, hm, rfl⟩, WideAt.sameKey_self (key2_key hx)⟩
  · rw [decide_eq_false hm, List.any_eq_false]
    intro k hk
    obtain ⟨y, hy, rfl⟩ := List.mem_map.1 hk
    intro hs
    have := key2_inj (h y hy) hx (WideAt.sameKey_eq hs)
    exact hm (this ▸ hy)
theorem Sd_has {E : List (Int × Int)} {x : Int × Int} (h : Good E) (hx : I64 x.1 ∧ I64 x.2) : Maps.has (Sd E) (key2 x) = decide (x ∈ E) := by
  unfold Sd
  rw [Maps.has_setOf _ _ _ h.keys, h.mem hx]
theorem atKey_fold (u z : DataW Unit) (k : Lit) : ∀ (acc : List Lit) (m : DataW Unit), Maps.IsMap m → (∀ x ∈ acc, WideAt.IsKeyLit x) → (acc.foldl (fun m x => m.put x u) m).atKey k z = if acc.any (fun x => x.sameKey k) then u else m.atKey k z
  | [], m, _, _ => by simp
  | x :: r, m, hm, h => by
    rw [List.foldl_cons, atKey_fold u z k r (m.put x u) (hm.put x u) (fun y hy => h y (by simp [hy])), List.any_cons]
    by_cases e : k = x
    · subst e
      rw [Maps.atKey_put_same hm (h k (by simp)), WideAt.sameKey_self (h k (by simp))]
      simp
    · rw [Maps.atKey_put_other e, Maps.sameKey_ne (fun e' => e e'.symm)]
      simp
theorem Sd_at {E : List (Int × Int)} {x : Int × Int} (h : Good E) (hx : I64 x.1 ∧ I64 x.2) : (Sd E).atKey (key2 x) (.lit (.bool false)) = .lit (.bool (decide (x ∈ E))) := by
  unfold Sd Maps.setOf
  rw [atKey_fold _ _ _ _ _ Maps.isMap_empty h.keys, h.mem hx]
  by_cases hm : x ∈ E
  · simp [hm]
  · simp [hm, DataW.atKey]
/-- What a look-up in the set runs to. -/
theorem look2 {w : World} {b n : Nat} {E : List (Int × Int)} (hown : w.ownsMap Tryd.prog 80 (plainElem Tryd.prog 4) b n (Sd E)) (h : Good E) {x : Int × Int} (hx : I64 x.1 ∧ I64 x.2) :
    (Instr.lookup 121 (.map (some b)) (.agg #[.int .i64 x.1, .int .i64 x.2]) false).run Tryd.prog w = .ok (.bool (decide (x ∈ E))) w := by
  obtain ⟨v, ps, hrun, hv⟩ := hown.lookup mp_law Tryd.underlying121 (mp_zero w) (plainElem_bool Tryd.underlying4 false) (key2_of hx.1 hx.2)
  rw [Sd_at h hx] at hv
  unfold plainElem at hv
  rw [Tryd.underlying4] at hv
  cases v <;> simp at hv
  rw [hv.1] at hrun
  exact hrun
end Go.Proofs.YtfmmnnodihpgmaaDoor
namespace Go.Proofs.YtfmmnnodihpgmaaDoor
set_option linter.all false
open Go Go.RowKit Wd
set_option maxRecDepth 100000
/-- Edge number t of the faces whose corners are F. -/
@[irreducible] def eg (F : Nat → Int) (t : Nat) : Int × Int := (F t, F (3 * (t / 3) + (t % 3 + 1) % 3))
@[irreducible] def egs (F : Nat → Int) (t : Nat) : List (Int × Int) := (List.range t).map (eg F)
theorem egs_zero (F : Nat → Int) : egs F 0 = [] := by unfold egs; rfl
theorem egs_succ (F : Nat → Int) (t : Nat) : egs F (t + 1) = egs F t ++ [eg F t] := by unfold egs; rw [List.range_succ, List.map_append]; rfl
theorem egs_mem (F : Nat → Int) (t : Nat) (x : Int × Int) : x ∈ egs F t ↔ ∃ s, s < t ∧ eg F s = x := by unfold egs; simp
theorem eg_0 (F : Nat → Int) (j : Nat) : eg F (3 * j + 0) = (F (j * 3), F (j * 3 + 1)) := by
  unfold eg; rw [show 3 * j + 0 = j * 3 by omega, show 3 * (j * 3 / 3) + (j * 3 % 3 + 1) % 3 = j * 3 + 1 by omega]
theorem eg_1 (F : Nat → Int) (j : Nat) : eg F (3 * j + 1) = (F (j * 3 + 1), F (j * 3 + 2)) := by
  unfold eg; rw [show 3 * j + 1 = j * 3 + 1 by omega, show 3 * ((j * 3 + 1) / 3) + ((j * 3 + 1) % 3 + 1) % 3 = j * 3 + 2 by omega]
theorem eg_2 (F : Nat → Int) (j : Nat) : eg F (3 * j + 2) = (F (j * 3 + 2), F (j * 3)) := by
  unfold eg; rw [show 3 * j + 2 = j * 3 + 2 by omega, show 3 * ((j * 3 + 2) / 3) + ((j * 3 + 2) % 3 + 1) % 3 = j * 3 by omega]
/-- What makes a surface of n faces closed. -/
structure Shutd (F : Nat → Int) (n : Nat) : Prop where
  i64 : ∀ t, t < 3 * n → I64 (F t)
  ne : ∀ t, t < 3 * n → (eg F t).1 ≠ (eg F t).2
  once : ∀ s t, s < t → t < 3 * n → eg F s ≠ eg F t
  back : ∀ t, t < 3 * n → ∃ s, s < 3 * n ∧ eg F s = ((eg F t).2, (eg F t).1)
theorem Shutd.eg64 {F : Nat → Int} {n : Nat} (h : Shutd F n) {t : Nat} (ht : t < 3 * n) : I64 (eg F t).1 ∧ I64 (eg F t).2 := by
  unfold eg
  exact ⟨h.i64 _ ht, h.i64 _ (by omega)⟩
theorem Shutd.good {F : Nat → Int} {n : Nat} (h : Shutd F n) {t : Nat} (ht : t ≤ 3 * n) : Good (egs F t) := by
  intro x hx
  obtain ⟨s, hs, rfl⟩ := (egs_mem F t x).1 hx
  exact h.eg64 (by omega)
theorem Shutd.new {F : Nat → Int} {n : Nat} (h : Shutd F n) {t : Nat} (ht : t < 3 * n) : decide (eg F t ∈ egs F t) = false := by
  rw [decide_eq_false_iff_not, egs_mem]
  rintro ⟨s, hs, he⟩
  exact h.once s t hs ht he
theorem Shutd.rev {F : Nat → Int} {n : Nat} (h : Shutd F n) {x : Int × Int} (hx : x ∈ egs F (3 * n)) : decide ((x.2, x.1) ∈ egs F (3 * n)) = true := by
  obtain ⟨s, hs, rfl⟩ := (egs_mem F _ x).1 hx
  obtain ⟨u, hu, he⟩ := h.back s hs
  rw [decide_eq_true_iff, egs_mem]
  exact ⟨u, hu, he⟩
abbrev MapAt (w : World) (B n : Nat) (E : List (Int × Int)) : Prop := w.ownsMap (H := Unit) Tryd.prog 80 (plainElem Tryd.prog 4) B n (Sd E)
/-- The next of a set's pairs. -/
theorem wpList_next_pairs {w : World} {ops : Array Oper} {rest : List Oper} {o : Oper} {a : Act} {Q : Exit → Act → World → Prop} (hg : o.guard = none) (it : Operand) (hop : o.op = Op.next it false) (b r n : Nat) (D : DataW Unit) (left : Lit → Bool) (cnt : Nat)
    (hit : a.eval it = .pointer (some ⟨r, 0, none⟩)) (h : w.ranges Tryd.prog 80 (plainElem Tryd.prog 4) b r n D left cnt)
    (hDone : wpList Tryd.prog ops Q rest (a.put o.dst (.tuple #[.bool false])) w)
    (hMore : ∀ (x1 x2 : Int) (v : Value) (w' : World) (cnt' : Nat), I64 x1 → I64 x2 → left (key2 (x1, x2)) = true → w'.ranges Tryd.prog 80 (plainElem Tryd.prog 4) b r n D (fun z => left z && !z.sameKey (key2 (x1, x2))) cnt' → cnt' < cnt →
      w.grownBy w' (some r) → (Instr.entry (.pointer (some ⟨r, 0, none⟩))).run Tryd.prog w' = .ok (.tuple #[.agg #[.int .i64 x1, .int .i64 x2], v]) w' → wpList Tryd.prog ops Q rest (a.put o.dst (.tuple #[.bool true, .agg #[.int .i64 x1, .int .i64 x2], v])) w') :
    wpList Tryd.prog ops Q (o :: rest) a w :=
  wpList_next_ranges w hg it hop 80 mp_law (plainElem Tryd.prog 4) (fun x : Int × Int => .agg #[.int .i64 x.1, .int .i64 x.2]) (fun v : Value => v) (fun key kl hk => by obtain ⟨x, hx, -⟩ := key2_back hk; exact ⟨x, hx⟩) (fun v y hv => ⟨v, rfl⟩)
    b r n D left cnt hit h (fun _ _ => hDone) (fun x v kl y w' cnt' hkey hlk hv hat hrg hlt hgr hsz hen => by
      obtain ⟨x', hx', hi1, hi2, rfl⟩ := key2_back hkey
      have ex : x = x' := by unfold pair2 at hx'; simp at hx'; exact Prod.ext hx'.1 hx'.2
      subst ex
      exact hMore x.1 x.2 v w' cnt' hi1 hi2 hlk hrg hlt hgr hen)
set_option maxHeartbeats 4000000 in
theorem closed_any (g h np n c d : Nat) (F : Nat → Int) (hn : n ≤ 100000) (hS : Shutd F n) (w : World) (hF : RowI w h (n * 3) F) (lh : h < w.heap.size) :
    Calls Tryd.prog 61 #[.agg #[.slice (some ⟨g, 0, none⟩) np c, .slice (some ⟨h, 0, none⟩) n d]] w fun e w' => e = .returned (.bool true) ∧ Below w.heap.size w w' := by
  have HS := Lib.hid hS
  have HF := Lib.hid hF
  have hmm := @run_makeMap Tryd.prog
  clear hS hF
  go_enter Tryd.func61, Tryd.ntmps61
  go_upto_region 2 with (fail)
  refine wp_world (fun x => (∀ o, x.cell? ⟨w.heap.size, o, none⟩ = (#[.slice (some ⟨g, 0, none⟩) np c, .slice (some ⟨h, 0, none⟩) n d] : Array Value)[o]?) ∧ w.heap.size < x.heap.size ∧ w.heap.size + 1 < x.heap.size ∧ Hid (MapAt x (w.heap.size + 1) 0 []) ∧ Hid (Below w.heap.size w x))
    ⟨fun o => by simp [go_sem], by simp; omega, by simp, Lib.hid (by unfold MapAt; rw [Sd_nil]; have := World.ownsMap_made (H := Unit) (w.alloc (.cells #[.slice (some ⟨g, 0, none⟩) np c, .slice (some ⟨h, 0, none⟩) n d] 47)) Tryd.prog 80 (plainElem Tryd.prog 4); simpa using this), Lib.hid (by (repeat' (first | (with_reducible exact Below.refl _ _) | (with_reducible assumption) | (with_reducible refine below_alloc ?_ _) | (with_reducible refine Below.drew ?_) | (with_reducible refine Below.setCell ?_ ?_ _) | (with_reducible refine below_after ?_ (by assumption)) | go_size)))⟩ ?_
  rintro G ⟨c0, z0, z1, hO, hB⟩
  obtain ⟨B, hBd⟩ : ∃ B, B = w.heap.size + 1 := ⟨_, rfl⟩
  rw [← hBd] at z1 hO
  have hwB : w.heap.size < B := by omega
  rw [← hBd]
  clear hBd hmm
  go_wp2
  clear c0 z0
  go_loopg [13] n (fun gg v wr => ∃ j : Nat, j ≤ n ∧ n - j ≤ gg ∧ v = .int .i64 (j : Int) ∧ Hid (MapAt wr B (3 * j) (egs F (3 * j)) ∧ Below w.heap.size w wr))
  case atStart => exact ⟨0, by omega, by omega, rfl, Lib.hid ⟨by rw [Nat.mul_zero, egs_zero]; exact hO.out, hB.out⟩⟩
  case round =>
    obtain ⟨j, hj, hgj, rfl, HI⟩ := hrel
    by_cases hlt : j < n
    · have hjn : (j : Int) < (n : Int) := by omega
      have hlr := keep_lt HI.out.2 lh
      have f0 := (HI.out.2.cell (p := ⟨h, j * 3, none⟩) lh).trans (HF.out (j * 3) (by omega))
      have f1 := (HI.out.2.cell (p := ⟨h, j * 3 + 1, none⟩) lh).trans (HF.out (j * 3 + 1) (by omega))
      have f2 := (HI.out.2.cell (p := ⟨h, j * 3 + 2, none⟩) lh).trans (HF.out (j * 3 + 2) (by omega))
      have G0 := Lib.hid (eg_0 F j)
      have G1 := Lib.hid (eg_1 F j)
      have G2 := Lib.hid (eg_2 F j)
      obtain ⟨a0, ha0⟩ : ∃ a, a = F (j * 3) := ⟨_, rfl⟩
      obtain ⟨a1, ha1⟩ : ∃ a, a = F (j * 3 + 1) := ⟨_, rfl⟩
      obtain ⟨a2, ha2⟩ : ∃ a, a = F (j * 3 + 2) := ⟨_, rfl⟩
      rw [← ha0] at f0 G0 G2
      rw [← ha1] at f1 G0 G1
      rw [← ha2] at f2 G1 G2
      clear ha0 ha1 ha2
      go_upto_region 5 with (fail)
      refine wp_world (fun x => (∀ o, x.cell? ⟨wr.heap.size, o, none⟩ = (#[.int .i64 a0, .int .i64 a1, .int .i64 a2] : Array Value)[o]?) ∧ wr.heap.size < x.heap.size ∧ Hid (MapAt x B (3 * j) (egs F (3 * j)) ∧ Below w.heap.size w x))
        ⟨fun o => by simp [go_sem], by simp, Lib.hid ⟨HI.out.1.alloc _, by have := HI.out.2; (repeat' (first | (with_reducible exact Below.refl _ _) | (with_reducible assumption) | (with_reducible refine below_alloc ?_ _) | (with_reducible refine Below.drew ?_) | (with_reducible refine Below.setCell ?_ ?_ _) | (with_reducible refine below_after ?_ (by assumption)) | go_size))⟩⟩ ?_
      rintro E ⟨e0, y0, HE⟩
      have hBn : B ≠ wr.heap.size := Nat.ne_of_lt HI.out.1.lt
      have hwr : w.heap.size ≤ wr.heap.size := HI.out.2.size
      generalize wr.heap.size = b5 at *
      clear f0 f1 f2 hlr HI
      have E0 := Lib.hid e0
      go_wp2
      clear e0
      go_loopg [17] 3 (fun gg v wr => ∃ i : Nat, i ≤ 3 ∧ 3 - i ≤ gg ∧ v = .int .i64 (i : Int) ∧ Hid (MapAt wr B (3 * j + i) (egs F (3 * j + i)) ∧ Below w.heap.size w wr ∧ (∀ o, wr.cell? ⟨b5, o, none⟩ = (#[.int .i64 a0, .int .i64 a1, .int .i64 a2] : Array Value)[o]?) ∧ b5 < wr.heap.size))
      case atStart => exact ⟨0, by omega, by omega, rfl, Lib.hid ⟨HE.out.1, HE.out.2, E0.out, y0⟩⟩
      case round =>
        obtain ⟨i, hi, hgi, rfl, HK⟩ := hrel
        clear HE
        rcases (by omega : i = 0 ∨ i = 1 ∨ i = 2 ∨ i = 3) with rfl | rfl | rfl | rfl
        · have x64 := HS.out.eg64 (t := 3 * j + 0) (by omega)
          have xne := HS.out.ne (3 * j + 0) (by omega)
          have xnew := HS.out.new (t := 3 * j + 0) (by omega)
          have hsucc := egs_succ F (3 * j + 0)
          rw [G0.out] at x64 xne xnew hsucc
          have e5 := HK.out.2.2.1
          have y5 := HK.out.2.2.2
          have XN := Lib.hid xnew
          have XG := Lib.hid (HS.out.good (t := 3 * j + 0) (by omega))
          have XS := Lib.hid hsucc
          have X64 := Lib.hid x64
          simp only [] at xne
          clear xnew hsucc x64
          go_upto_region 8 with (fail)
          go_region
          go_upto_region 9 with (fail)
          refine wp_world (fun x => (∀ o, x.cell? ⟨wr.heap.size, o, none⟩ = (#[.int .i64 a0, .int .i64 a1] : Array Value)[o]?) ∧ wr.heap.size < x.heap.size ∧ Hid (MapAt x B (3 * j + 0) (egs F (3 * j + 0)) ∧ Below w.heap.size w x ∧ (∀ o, x.cell? ⟨b5, o, none⟩ = (#[.int .i64 a0, .int .i64 a1, .int .i64 a2] : Array Value)[o]?) ∧ b5 < x.heap.size))
            ⟨fun o => by simp [go_sem], by simp, Lib.hid ⟨HK.out.1.drew.alloc _, by have := HK.out.2.1; (repeat' (first | (with_reducible exact Below.refl _ _) | (with_reducible assumption) | (with_reducible refine below_alloc ?_ _) | (with_reducible refine Below.drew ?_) | (with_reducible refine Below.setCell ?_ ?_ _) | (with_reducible refine below_after ?_ (by assumption)) | go_size)), fun o => by simp [go_sem, e5, y5], by simp; omega⟩⟩ ?_
          rintro V ⟨v0, vz, HV⟩
          have hrun := look2 HV.out.1 XG.out X64.out
          rw [XN.out] at hrun
          have hBV : B ≠ wr.heap.size := Nat.ne_of_lt HK.out.1.lt
          generalize wr.heap.size = b7 at *
          clear HK e5 y5
          simp only [] at hrun
          go_wp2_with (first
            | (at_mapUpdate; refine wpList_mapUpdate_own _ rfl _ _ _ 121 rfl 80 4 mp_law Tryd.underlying121 _ B _ _ rfl HV.out.1 (by unfold maxLen; omega) _ _ _ rfl rfl (key2_of X64.out.1 X64.out.2) _ [] (plainElem_bool Tryd.underlying4 true) ?_; intro w1 hown1 hgrow1; go_frame)
            | go_in)
          have HW := Lib.hid hown1
          have hb1 : Below w.heap.size w w1 := HV.out.2.1.grown hgrow1 HV.out.2.1.size (fun a1 hq => by cases hq; omega)
          have hbl := hgrow1.block b5 HV.out.2.2.2 (fun e => by cases e; exact hBn rfl)
          go_roundg (3 - 1)
          case rel => exact ⟨1, by omega, by omega, by go_num, Lib.hid ⟨by unfold MapAt; rw [show 3 * j + 1 = 3 * j + 0 + 1 by omega, XS.out, Sd_snoc]; exact HW.out, hb1, fun o => (World.cell?_of_block (a := ⟨b5, o, none⟩) hbl).trans (HV.out.2.2.1 o), Nat.lt_of_lt_of_le HV.out.2.2.2 hgrow1.size⟩⟩
          case measure => omega
        · have x64 := HS.out.eg64 (t := 3 * j + 1) (by omega)
          have xne := HS.out.ne (3 * j + 1) (by omega)
          have xnew := HS.out.new (t := 3 * j + 1) (by omega)
          have hsucc := egs_succ F (3 * j + 1)
          rw [G1.out] at x64 xne xnew hsucc
          have e5 := HK.out.2.2.1
          have y5 := HK.out.2.2.2
          have XN := Lib.hid xnew
          have XG := Lib.hid (HS.out.good (t := 3 * j + 1) (by omega))
          have XS := Lib.hid hsucc
          have X64 := Lib.hid x64
          simp only [] at xne
          clear xnew hsucc x64
          go_upto_region 8 with (fail)
          go_region
          go_upto_region 9 with (fail)
          refine wp_world (fun x => (∀ o, x.cell? ⟨wr.heap.size, o, none⟩ = (#[.int .i64 a1, .int .i64 a2] : Array Value)[o]?) ∧ wr.heap.size < x.heap.size ∧ Hid (MapAt x B (3 * j + 1) (egs F (3 * j + 1)) ∧ Below w.heap.size w x ∧ (∀ o, x.cell? ⟨b5, o, none⟩ = (#[.int .i64 a0, .int .i64 a1, .int .i64 a2] : Array Value)[o]?) ∧ b5 < x.heap.size))
            ⟨fun o => by simp [go_sem], by simp, Lib.hid ⟨HK.out.1.drew.alloc _, by have := HK.out.2.1; (repeat' (first | (with_reducible exact Below.refl _ _) | (with_reducible assumption) | (with_reducible refine below_alloc ?_ _) | (with_reducible refine Below.drew ?_) | (with_reducible refine Below.setCell ?_ ?_ _) | (with_reducible refine below_after ?_ (by assumption)) | go_size)), fun o => by simp [go_sem, e5, y5], by simp; omega⟩⟩ ?_
          rintro V ⟨v0, vz, HV⟩
          have hrun := look2 HV.out.1 XG.out X64.out
          rw [XN.out] at hrun
          have hBV : B ≠ wr.heap.size := Nat.ne_of_lt HK.out.1.lt
          generalize wr.heap.size = b7 at *
          clear HK e5 y5
          simp only [] at hrun
          go_wp2_with (first
            | (at_mapUpdate; refine wpList_mapUpdate_own _ rfl _ _ _ 121 rfl 80 4 mp_law Tryd.underlying121 _ B _ _ rfl HV.out.1 (by unfold maxLen; omega) _ _ _ rfl rfl (key2_of X64.out.1 X64.out.2) _ [] (plainElem_bool Tryd.underlying4 true) ?_; intro w1 hown1 hgrow1; go_frame)
            | go_in)
          have HW := Lib.hid hown1
          have hb1 : Below w.heap.size w w1 := HV.out.2.1.grown hgrow1 HV.out.2.1.size (fun a2 hq => by cases hq; omega)
          have hbl := hgrow1.block b5 HV.out.2.2.2 (fun e => by cases e; exact hBn rfl)
          go_roundg (3 - 2)
          case rel => exact ⟨2, by omega, by omega, by go_num, Lib.hid ⟨by unfold MapAt; rw [show 3 * j + 2 = 3 * j + 1 + 1 by omega, XS.out, Sd_snoc]; exact HW.out, hb1, fun o => (World.cell?_of_block (a := ⟨b5, o, none⟩) hbl).trans (HV.out.2.2.1 o), Nat.lt_of_lt_of_le HV.out.2.2.2 hgrow1.size⟩⟩
          case measure => omega
        · have x64 := HS.out.eg64 (t := 3 * j + 2) (by omega)
          have xne := HS.out.ne (3 * j + 2) (by omega)
          have xnew := HS.out.new (t := 3 * j + 2) (by omega)
          have hsucc := egs_succ F (3 * j + 2)
          rw [G2.out] at x64 xne xnew hsucc
          have e5 := HK.out.2.2.1
          have y5 := HK.out.2.2.2
          have XN := Lib.hid xnew
          have XG := Lib.hid (HS.out.good (t := 3 * j + 2) (by omega))
          have XS := Lib.hid hsucc
          have X64 := Lib.hid x64
          simp only [] at xne
          clear xnew hsucc x64
          go_upto_region 8 with (fail)
          go_region
          go_upto_region 9 with (fail)
          refine wp_world (fun x => (∀ o, x.cell? ⟨wr.heap.size, o, none⟩ = (#[.int .i64 a2, .int .i64 a0] : Array Value)[o]?) ∧ wr.heap.size < x.heap.size ∧ Hid (MapAt x B (3 * j + 2) (egs F (3 * j + 2)) ∧ Below w.heap.size w x ∧ (∀ o, x.cell? ⟨b5, o, none⟩ = (#[.int .i64 a0, .int .i64 a1, .int .i64 a2] : Array Value)[o]?) ∧ b5 < x.heap.size))
            ⟨fun o => by simp [go_sem], by simp, Lib.hid ⟨HK.out.1.drew.alloc _, by have := HK.out.2.1; (repeat' (first | (with_reducible exact Below.refl _ _) | (with_reducible assumption) | (with_reducible refine below_alloc ?_ _) | (with_reducible refine Below.drew ?_) | (with_reducible refine Below.setCell ?_ ?_ _) | (with_reducible refine below_after ?_ (by assumption)) | go_size)), fun o => by simp [go_sem, e5, y5], by simp; omega⟩⟩ ?_
          rintro V ⟨v0, vz, HV⟩
          have hrun := look2 HV.out.1 XG.out X64.out
          rw [XN.out] at hrun
          have hBV : B ≠ wr.heap.size := Nat.ne_of_lt HK.out.1.lt
          generalize wr.heap.size = b7 at *
          clear HK e5 y5
          simp only [] at hrun
          go_wp2_with (first
            | (at_mapUpdate; refine wpList_mapUpdate_own _ rfl _ _ _ 121 rfl 80 4 mp_law Tryd.underlying121 _ B _ _ rfl HV.out.1 (by unfold maxLen; omega) _ _ _ rfl rfl (key2_of X64.out.1 X64.out.2) _ [] (plainElem_bool Tryd.underlying4 true) ?_; intro w1 hown1 hgrow1; go_frame)
            | go_in)
          have HW := Lib.hid hown1
          have hb1 : Below w.heap.size w w1 := HV.out.2.1.grown hgrow1 HV.out.2.1.size (fun a0 hq => by cases hq; omega)
          have hbl := hgrow1.block b5 HV.out.2.2.2 (fun e => by cases e; exact hBn rfl)
          go_roundg (3 - 3)
          case rel => exact ⟨3, by omega, by omega, by go_num, Lib.hid ⟨by unfold MapAt; rw [show 3 * j + 3 = 3 * j + 2 + 1 by omega, XS.out, Sd_snoc]; exact HW.out, hb1, fun o => (World.cell?_of_block (a := ⟨b5, o, none⟩) hbl).trans (HV.out.2.2.1 o), Nat.lt_of_lt_of_le HV.out.2.2.2 hgrow1.size⟩⟩
          case measure => omega
        · have e5 := HK.out.2.2.1
          have y5 := HK.out.2.2.2
          go_wp2
          go_roundg (n - (j + 1))
          case rel => exact ⟨j + 1, by omega, by omega, by go_num, Lib.hid ⟨HK.out.1, HK.out.2.1⟩⟩
          case measure => omega
    · obtain rfl : j = n := by omega
      have hjn : ¬ (j : Int) < (j : Int) := by omega
      go_wp2_with (first
        | (at_range; refine wpList_range_own _ rfl _ 121 rfl 80 4 mp_law Tryd.underlying121 _ B _ _ rfl HI.out.1 ?_; intro w0 hrg0 hg0 hs0)
        | go_in)
      (try go_frame)
      have hb0 : Below w.heap.size w w0 := HI.out.2.grown hg0 HI.out.2.size (fun q hq => by cases hq)
      have hwr : w.heap.size ≤ wr.heap.size := HI.out.2.size
      generalize wr.heap.size = r at *
      clear HI hg0 hs0
      go_loopw [8] (fun _ wr => ∃ (left : Lit → Bool) (cnt : Nat), wr.ranges (H := Unit) Tryd.prog 80 (plainElem Tryd.prog 4) B r (3 * j) (Sd (egs F (3 * j))) left cnt ∧ (∀ l, left l = true → Maps.has (Sd (egs F (3 * j))) l = true) ∧ Below w.heap.size w wr) (fun _ wr => wr.rangeLeft B r)
      case atStart => exact ⟨_, _, hrg0, fun l hl => hl, hb0⟩
      case round =>
        obtain ⟨left, cnt, hrg, hle, hnx⟩ := hrel
        go_wp2_with (first
          | (at_next; refine wpList_next_pairs rfl _ rfl B r _ _ _ _ rfl hrg ?_ ?_)
          | go_in)
        · go_wp2
          go_returns
          exact ⟨rfl, hnx⟩
        · intro x1 x2 v w1 cnt1 hi1 hi2 hlk hrg1 hlt hg1 hen
          have hin : (x1, x2) ∈ egs F (3 * j) := by
            have h1 := hle _ hlk
            rw [Sd_has (HS.out.good (by omega)) ⟨hi1, hi2⟩] at h1
            simpa using h1
          have HRV := Lib.hid (HS.out.rev hin)
          have hb1 : Below w.heap.size w w1 := hnx.grown hg1 hnx.size (fun q hq => by cases hq; exact hwr)
          have HB1 := Lib.hid hb1
          have HR1 := Lib.hid hrg1
          have HG := Lib.hid (⟨hi2, hi1⟩ : I64 x2 ∧ I64 x1)
          have HLE := Lib.hid hle
          have HLT := Lib.hid hlt
          have HOLD := Lib.hid hrg.left_eq
          clear hlk hin hi1 hi2 hle hb1 hnx hrg1 hg1 hlt
          go_upto_region 17 with (fail)
          refine wp_world (fun x => (∀ o, x.cell? ⟨w1.heap.size, o, none⟩ = (#[.int .i64 x1, .int .i64 x2] : Array Value)[o]?) ∧ w1.heap.size < x.heap.size ∧ Hid (x.ranges (H := Unit) Tryd.prog 80 (plainElem Tryd.prog 4) B r (3 * j) (Sd (egs F (3 * j))) (fun z => left z && !z.sameKey (key2 (x1, x2))) cnt1 ∧ Below w.heap.size w x))
            ⟨fun o => by simp [go_sem], by simp, Lib.hid ⟨HR1.out.alloc _, by have := HB1.out; (repeat' (first | (with_reducible exact Below.refl _ _) | (with_reducible assumption) | (with_reducible refine below_alloc ?_ _) | (with_reducible refine Below.drew ?_) | (with_reducible refine Below.setCell ?_ ?_ _) | (with_reducible refine below_after ?_ (by assumption)) | go_size))⟩⟩ ?_
          rintro V ⟨v0, vz, HV⟩
          have hrun := look2 (x := (x2, x1)) HV.out.1.owns (HS.out.good (by omega)) HG.out
          rw [HRV.out] at hrun
          simp only [] at hrun
          generalize w1.heap.size = b8 at *
          clear HRV HB1 HR1
          go_wp2
          go_roundw
          case rel => exact ⟨_, cnt1, HV.out.1, fun l hl => HLE.out l (by simp at hl; exact hl.1), HV.out.2⟩
          case measure => rw [HV.out.1.left_eq, HOLD.out]; exact HLT.out
end Go.Proofs.YtfmmnnodihpgmaaDoor
namespace Go.Proofs.YtfmmnnodihpgmaaDoor.Sf
set_option linter.all false
set_option maxRecDepth 100000
@[irreducible] def det3 (a b c p q r x y z : Int) : Int := a * (q * z - r * y) + b * (r * x - p * z) + c * (p * y - q * x)
/-- A point: its side (0 port, 1 starboard), station, waterline. -/
abbrev Pt := Nat × Nat × Nat
abbrev Fc := Pt × Pt × Pt
def cellS (i k : Nat) : List Fc := [((0, i, k), (0, i + 1, k + 1), (0, i + 1, k)), ((0, i, k), (0, i, k + 1), (0, i + 1, k + 1)), ((1, i, k), (1, i + 1, k), (1, i + 1, k + 1)), ((1, i, k), (1, i + 1, k + 1), (1, i, k + 1))]
def flatS (M i : Nat) : List Fc := [((1, i, 0), (0, i, 0), (0, i + 1, 0)), ((1, i, 0), (0, i + 1, 0), (1, i + 1, 0)), ((1, i, M), (0, i + 1, M), (0, i, M)), ((1, i, M), (1, i + 1, M), (0, i + 1, M))]
def endS (N k : Nat) : List Fc := [((1, 0, k), (1, 0, k + 1), (0, 0, k + 1)), ((1, 0, k), (0, 0, k + 1), (0, 0, k)), ((1, N, k), (0, N, k), (0, N, k + 1)), ((1, N, k), (0, N, k + 1), (1, N, k + 1))]
def faces (N M : Nat) : List Fc := ((List.range N).flatMap fun i => (List.range M).flatMap fun k => cellS i k) ++ (List.range N).flatMap (fun i => flatS M i) ++ (List.range M).flatMap (fun k => endS N k)
def fe (f : Fc) : List (Pt × Pt) := [(f.1, f.2.1), (f.2.1, f.2.2), (f.2.2, f.1)]
def cellE (i k : Nat) : List (Pt × Pt) := (cellS i k).flatMap fe
def flatE (M i : Nat) : List (Pt × Pt) := (flatS M i).flatMap fe
def endE (N k : Nat) : List (Pt × Pt) := (endS N k).flatMap fe
def edges (N M : Nat) : List (Pt × Pt) := (faces N M).flatMap fe
theorem edges_eq (N M : Nat) : edges N M = ((List.range N).flatMap fun i => (List.range M).flatMap fun k => cellE i k) ++ (List.range N).flatMap (fun i => flatE M i) ++ (List.range M).flatMap (fun k => endE N k) := by
  unfold edges faces cellE flatE endE
  simp only [List.flatMap_append, List.flatMap_assoc]
theorem cellE_mem (i k : Nat) (x : Pt × Pt) : x ∈ cellE i k ↔ x = ((0, i, k), (0, i + 1, k + 1)) ∨ x = ((0, i + 1, k + 1), (0, i + 1, k)) ∨ x = ((0, i + 1, k), (0, i, k)) ∨ x = ((0, i, k), (0, i, k + 1)) ∨ x = ((0, i, k + 1), (0, i + 1, k + 1)) ∨ x = ((0, i + 1, k + 1), (0, i, k))
    ∨ x = ((1, i, k), (1, i + 1, k)) ∨ x = ((1, i + 1, k), (1, i + 1, k + 1)) ∨ x = ((1, i + 1, k + 1), (1, i, k)) ∨ x = ((1, i, k), (1, i + 1, k + 1)) ∨ x = ((1, i + 1, k + 1), (1, i, k + 1)) ∨ x = ((1, i, k + 1), (1, i, k)) := by
  simp [cellE, cellS, fe]
theorem flatE_mem (M i : Nat) (x : Pt × Pt) : x ∈ flatE M i ↔ x = ((1, i, 0), (0, i, 0)) ∨ x = ((0, i, 0), (0, i + 1, 0)) ∨ x = ((0, i + 1, 0), (1, i, 0)) ∨ x = ((1, i, 0), (0, i + 1, 0)) ∨ x = ((0, i + 1, 0), (1, i + 1, 0)) ∨ x = ((1, i + 1, 0), (1, i, 0))
    ∨ x = ((1, i, M), (0, i + 1, M)) ∨ x = ((0, i + 1, M), (0, i, M)) ∨ x = ((0, i, M), (1, i, M)) ∨ x = ((1, i, M), (1, i + 1, M)) ∨ x = ((1, i + 1, M), (0, i + 1, M)) ∨ x = ((0, i + 1, M), (1, i, M)) := by
  simp [flatE, flatS, fe]
theorem endE_mem (N k : Nat) (x : Pt × Pt) : x ∈ endE N k ↔ x = ((1, 0, k), (1, 0, k + 1)) ∨ x = ((1, 0, k + 1), (0, 0, k + 1)) ∨ x = ((0, 0, k + 1), (1, 0, k)) ∨ x = ((1, 0, k), (0, 0, k + 1)) ∨ x = ((0, 0, k + 1), (0, 0, k)) ∨ x = ((0, 0, k), (1, 0, k))
    ∨ x = ((1, N, k), (0, N, k)) ∨ x = ((0, N, k), (0, N, k + 1)) ∨ x = ((0, N, k + 1), (1, N, k)) ∨ x = ((1, N, k), (0, N, k + 1)) ∨ x = ((0, N, k + 1), (1, N, k + 1)) ∨ x = ((1, N, k + 1), (1, N, k)) := by
  simp [endE, endS, fe]
theorem dj_cc (i k j l : Nat) (h : i ≠ j ∨ k ≠ l) : ∀ x ∈ cellE i k, ∀ y ∈ cellE j l, x ≠ y := by
  intro x hx y hy e
  rw [cellE_mem] at hx hy
  subst e
  rcases hx with rfl | rfl | rfl | rfl | rfl | rfl | rfl | rfl | rfl | rfl | rfl | rfl <;> simp only [Prod.mk.injEq] at hy <;> omega
theorem dj_cf (M i k j : Nat) (h : k < M) : ∀ x ∈ cellE i k, ∀ y ∈ flatE M j, x ≠ y := by
  intro x hx y hy e
  rw [cellE_mem] at hx
  rw [flatE_mem] at hy
  subst e
  rcases hx with rfl | rfl | rfl | rfl | rfl | rfl | rfl | rfl | rfl | rfl | rfl | rfl <;> simp only [Prod.mk.injEq] at hy <;> omega
theorem dj_ce (N i k l : Nat) (h : i < N) : ∀ x ∈ cellE i k, ∀ y ∈ endE N l, x ≠ y := by
  intro x hx y hy e
  rw [cellE_mem] at hx
  rw [endE_mem] at hy
  subst e
  rcases hx with rfl | rfl | rfl | rfl | rfl | rfl | rfl | rfl | rfl | rfl | rfl | rfl <;> simp only [Prod.mk.injEq] at hy <;> omega
theorem dj_ff (M i j : Nat) (hM : 0 < M) (h : i ≠ j) : ∀ x ∈ flatE M i, ∀ y ∈ flatE M j, x ≠ y := by
  intro x hx y hy e
  rw [flatE_mem] at hx hy
  subst e
  rcases hx with rfl | rfl | rfl | rfl | rfl | rfl | rfl | rfl | rfl | rfl | rfl | rfl <;> simp only [Prod.mk.injEq] at hy <;> omega
theorem dj_ee (N k l : Nat) (hN : 0 < N) (h : k ≠ l) : ∀ x ∈ endE N k, ∀ y ∈ endE N l, x ≠ y := by
  intro x hx y hy e
  rw [endE_mem] at hx hy
  subst e
  rcases hx with rfl | rfl | rfl | rfl | rfl | rfl | rfl | rfl | rfl | rfl | rfl | rfl <;> simp only [Prod.mk.injEq] at hy <;> omega
theorem dj_fe (N M i k : Nat) (hN : 0 < N) (hM : 0 < M) (hi : i < N) (hk : k < M) : ∀ x ∈ flatE M i, ∀ y ∈ endE N k, x ≠ y := by
  intro x hx y hy e
  rw [flatE_mem] at hx
  rw [endE_mem] at hy
  subst e
  rcases hx with rfl | rfl | rfl | rfl | rfl | rfl | rfl | rfl | rfl | rfl | rfl | rfl <;> simp only [Prod.mk.injEq] at hy <;> omega
theorem nd_c (i k : Nat) : (cellE i k).Nodup := by simp [cellE, cellS, fe]
theorem nd_f (M i : Nat) (hM : 0 < M) : (flatE M i).Nodup := by
  have h : M ≠ 0 := by omega
  have h' : 0 ≠ M := by omega
  simp [flatE, flatS, fe, h, h']
theorem nd_e (N k : Nat) (hN : 0 < N) : (endE N k).Nodup := by
  have h : N ≠ 0 := by omega
  have h' : 0 ≠ N := by omega
  simp [endE, endS, fe, h, h']
theorem nd_flatMap {α β : Type} (f : α → List β) (l : List α) (h1 : ∀ a ∈ l, (f a).Nodup) (h2 : l.Pairwise fun a b => ∀ x ∈ f a, ∀ y ∈ f b, x ≠ y) : (l.flatMap f).Nodup := by
  unfold List.Nodup
  rw [List.pairwise_flatMap]
  exact ⟨h1, h2⟩
theorem nd_range {β : Type} (f : Nat → List β) (n : Nat) (h1 : ∀ a, a < n → (f a).Nodup) (h2 : ∀ a b, a < b → b < n → ∀ x ∈ f a, ∀ y ∈ f b, x ≠ y) : ((List.range n).flatMap f).Nodup := by
  refine nd_flatMap _ _ (fun a ha => h1 a (List.mem_range.1 ha)) ?_
  exact List.Pairwise.imp_of_mem (fun {a b} ha hb hab => h2 a b hab (List.mem_range.1 hb)) List.pairwise_lt_range
theorem nodup (N M : Nat) (hN : 0 < N) (hM : 0 < M) : (edges N M).Nodup := by
  rw [edges_eq, List.nodup_append, List.nodup_append]
  refine ⟨⟨?_, ?_, ?_⟩, ?_, ?_⟩
  · refine nd_range _ _ (fun i hi => nd_range _ _ (fun k hk => nd_c i k) (fun k l hkl hl => dj_cc i k i l (by omega))) ?_
    intro i j hij hj x hx y hy
    obtain ⟨k, hk, hx⟩ := List.mem_flatMap.1 hx
    obtain ⟨l, hl, hy⟩ := List.mem_flatMap.1 hy
    exact dj_cc i k j l (by omega) x hx y hy
  · exact nd_range _ _ (fun i hi => nd_f M i hM) (fun i j hij hj => dj_ff M i j hM (by omega))
  · intro x hx y hy
    obtain ⟨i, hi, hx⟩ := List.mem_flatMap.1 hx
    obtain ⟨k, hk, hx⟩ := List.mem_flatMap.1 hx
    obtain ⟨j, hj, hy⟩ := List.mem_flatMap.1 hy
    rw [List.mem_range] at hi hk hj
    exact dj_cf M i k j hk x hx y hy
  · exact nd_range _ _ (fun k hk => nd_e N k hN) (fun k l hkl hl => dj_ee N k l hN (by omega))
  · intro x hx y hy
    obtain ⟨l, hl, hy⟩ := List.mem_flatMap.1 hy
    rw [List.mem_range] at hl
    rcases List.mem_append.1 hx with hx | hx
    · obtain ⟨i, hi, hx⟩ := List.mem_flatMap.1 hx
      obtain ⟨k, hk, hx⟩ := List.mem_flatMap.1 hx
      rw [List.mem_range] at hi hk
      exact dj_ce N i k l hi x hx y hy
    · obtain ⟨i, hi, hx⟩ := List.mem_flatMap.1 hx
      rw [List.mem_range] at hi
      exact dj_fe N M i l hN hM hi hl x hx y hy
theorem in_c {N M i k : Nat} (hi : i < N) (hk : k < M) {x : Pt × Pt} (h : x ∈ cellE i k) : x ∈ edges N M := by
  rw [edges_eq]
  exact List.mem_append_left _ (List.mem_append_left _ (List.mem_flatMap.2 ⟨i, List.mem_range.2 hi, List.mem_flatMap.2 ⟨k, List.mem_range.2 hk, h⟩⟩))
theorem in_f {N M i : Nat} (hi : i < N) {x : Pt × Pt} (h : x ∈ flatE M i) : x ∈ edges N M := by
  rw [edges_eq]
  exact List.mem_append_left _ (List.mem_append_right _ (List.mem_flatMap.2 ⟨i, List.mem_range.2 hi, h⟩))
theorem in_e {N M k : Nat} (hk : k < M) {x : Pt × Pt} (h : x ∈ endE N k) : x ∈ edges N M := by
  rw [edges_eq]
  exact List.mem_append_right _ (List.mem_flatMap.2 ⟨k, List.mem_range.2 hk, h⟩)
theorem edge_cases {N M : Nat} {x : Pt × Pt} (h : x ∈ edges N M) : (∃ i k, i < N ∧ k < M ∧ x ∈ cellE i k) ∨ (∃ i, i < N ∧ x ∈ flatE M i) ∨ (∃ k, k < M ∧ x ∈ endE N k) := by
  rw [edges_eq] at h
  rcases List.mem_append.1 h with h | h
  · rcases List.mem_append.1 h with h | h
    · obtain ⟨i, hi, h⟩ := List.mem_flatMap.1 h
      obtain ⟨k, hk, h⟩ := List.mem_flatMap.1 h
      exact Or.inl ⟨i, k, List.mem_range.1 hi, List.mem_range.1 hk, h⟩
    · obtain ⟨i, hi, h⟩ := List.mem_flatMap.1 h
      exact Or.inr (Or.inl ⟨i, List.mem_range.1 hi, h⟩)
  · obtain ⟨k, hk, h⟩ := List.mem_flatMap.1 h
    exact Or.inr (Or.inr ⟨k, List.mem_range.1 hk, h⟩)
theorem back (N M : Nat) (hN : 0 < N) (hM : 0 < M) (x : Pt × Pt) (h : x ∈ edges N M) : (x.2, x.1) ∈ edges N M := by
  rcases edge_cases h with ⟨i, k, hi, hk, h⟩ | ⟨i, hi, h⟩ | ⟨k, hk, h⟩
  · rw [cellE_mem] at h
    rcases h with rfl | rfl | rfl | rfl | rfl | rfl | rfl | rfl | rfl | rfl | rfl | rfl
    · skip
      exact in_c (i := i) (k := k) (by omega) (by omega) ((cellE_mem _ _ _).2 (Or.inr (Or.inr (Or.inr (Or.inr (Or.inr (Or.inl rfl)))))))
    · skip
      rcases (by omega : i + 1 < N ∨ N = i + 1) with h1 | rfl
      · exact in_c (i := i + 1) (k := k) (by omega) (by omega) ((cellE_mem _ _ _).2 (Or.inr (Or.inr (Or.inr (Or.inl rfl)))))
      · exact in_e (k := k) (by omega) ((endE_mem _ _ _).2 (Or.inr (Or.inr (Or.inr (Or.inr (Or.inr (Or.inr (Or.inr (Or.inl rfl)))))))))
    · skip
      rcases k with _ | k
      · exact in_f (i := i) (by omega) ((flatE_mem _ _ _).2 (Or.inr (Or.inl rfl)))
      · exact in_c (i := i) (k := k) (by omega) (by omega) ((cellE_mem _ _ _).2 (Or.inr (Or.inr (Or.inr (Or.inr (Or.inl rfl))))))
    · skip
      rcases i with _ | i
      · exact in_e (k := k) (by omega) ((endE_mem _ _ _).2 (Or.inr (Or.inr (Or.inr (Or.inr (Or.inl rfl))))))
      · exact in_c (i := i) (k := k) (by omega) (by omega) ((cellE_mem _ _ _).2 (Or.inr (Or.inl rfl)))
    · skip
      rcases (by omega : k + 1 < M ∨ M = k + 1) with h1 | rfl
      · exact in_c (i := i) (k := k + 1) (by omega) (by omega) ((cellE_mem _ _ _).2 (Or.inr (Or.inr (Or.inl rfl))))
      · exact in_f (i := i) (by omega) ((flatE_mem _ _ _).2 (Or.inr (Or.inr (Or.inr (Or.inr (Or.inr (Or.inr (Or.inr (Or.inl rfl)))))))))
    · skip
      exact in_c (i := i) (k := k) (by omega) (by omega) ((cellE_mem _ _ _).2 (Or.inl rfl))
    · skip
      rcases k with _ | k
      · exact in_f (i := i) (by omega) ((flatE_mem _ _ _).2 (Or.inr (Or.inr (Or.inr (Or.inr (Or.inr (Or.inl rfl)))))))
      · exact in_c (i := i) (k := k) (by omega) (by omega) ((cellE_mem _ _ _).2 (Or.inr (Or.inr (Or.inr (Or.inr (Or.inr (Or.inr (Or.inr (Or.inr (Or.inr (Or.inr (Or.inl rfl))))))))))))
    · skip
      rcases (by omega : i + 1 < N ∨ N = i + 1) with h1 | rfl
      · exact in_c (i := i + 1) (k := k) (by omega) (by omega) ((cellE_mem _ _ _).2 (Or.inr (Or.inr (Or.inr (Or.inr (Or.inr (Or.inr (Or.inr (Or.inr (Or.inr (Or.inr (Or.inr (rfl)))))))))))))
      · exact in_e (k := k) (by omega) ((endE_mem _ _ _).2 (Or.inr (Or.inr (Or.inr (Or.inr (Or.inr (Or.inr (Or.inr (Or.inr (Or.inr (Or.inr (Or.inr (rfl)))))))))))))
    · skip
      exact in_c (i := i) (k := k) (by omega) (by omega) ((cellE_mem _ _ _).2 (Or.inr (Or.inr (Or.inr (Or.inr (Or.inr (Or.inr (Or.inr (Or.inr (Or.inr (Or.inl rfl)))))))))))
    · skip
      exact in_c (i := i) (k := k) (by omega) (by omega) ((cellE_mem _ _ _).2 (Or.inr (Or.inr (Or.inr (Or.inr (Or.inr (Or.inr (Or.inr (Or.inr (Or.inl rfl))))))))))
    · skip
      rcases (by omega : k + 1 < M ∨ M = k + 1) with h1 | rfl
      · exact in_c (i := i) (k := k + 1) (by omega) (by omega) ((cellE_mem _ _ _).2 (Or.inr (Or.inr (Or.inr (Or.inr (Or.inr (Or.inr (Or.inl rfl))))))))
      · exact in_f (i := i) (by omega) ((flatE_mem _ _ _).2 (Or.inr (Or.inr (Or.inr (Or.inr (Or.inr (Or.inr (Or.inr (Or.inr (Or.inr (Or.inl rfl)))))))))))
    · skip
      rcases i with _ | i
      · exact in_e (k := k) (by omega) ((endE_mem _ _ _).2 (Or.inl rfl))
      · exact in_c (i := i) (k := k) (by omega) (by omega) ((cellE_mem _ _ _).2 (Or.inr (Or.inr (Or.inr (Or.inr (Or.inr (Or.inr (Or.inr (Or.inl rfl)))))))))
  · rw [flatE_mem] at h
    rcases h with rfl | rfl | rfl | rfl | rfl | rfl | rfl | rfl | rfl | rfl | rfl | rfl
    · skip
      rcases i with _ | i
      · exact in_e (k := 0) (by omega) ((endE_mem _ _ _).2 (Or.inr (Or.inr (Or.inr (Or.inr (Or.inr (Or.inl rfl)))))))
      · exact in_f (i := i) (by omega) ((flatE_mem _ _ _).2 (Or.inr (Or.inr (Or.inr (Or.inr (Or.inl rfl))))))
    · skip
      exact in_c (i := i) (k := 0) (by omega) (by omega) ((cellE_mem _ _ _).2 (Or.inr (Or.inr (Or.inl rfl))))
    · skip
      exact in_f (i := i) (by omega) ((flatE_mem _ _ _).2 (Or.inr (Or.inr (Or.inr (Or.inl rfl)))))
    · skip
      exact in_f (i := i) (by omega) ((flatE_mem _ _ _).2 (Or.inr (Or.inr (Or.inl rfl))))
    · skip
      rcases (by omega : i + 1 < N ∨ N = i + 1) with h1 | rfl
      · exact in_f (i := i + 1) (by omega) ((flatE_mem _ _ _).2 (Or.inl rfl))
      · exact in_e (k := 0) (by omega) ((endE_mem _ _ _).2 (Or.inr (Or.inr (Or.inr (Or.inr (Or.inr (Or.inr (Or.inl rfl))))))))
    · skip
      exact in_c (i := i) (k := 0) (by omega) (by omega) ((cellE_mem _ _ _).2 (Or.inr (Or.inr (Or.inr (Or.inr (Or.inr (Or.inr (Or.inl rfl))))))))
    · skip
      obtain ⟨K, rfl⟩ : ∃ K, M = K + 1 := ⟨M - 1, by omega⟩
      exact in_f (i := i) (by omega) ((flatE_mem _ _ _).2 (Or.inr (Or.inr (Or.inr (Or.inr (Or.inr (Or.inr (Or.inr (Or.inr (Or.inr (Or.inr (Or.inr (rfl)))))))))))))
    · skip
      obtain ⟨K, rfl⟩ : ∃ K, M = K + 1 := ⟨M - 1, by omega⟩
      exact in_c (i := i) (k := K) (by omega) (by omega) ((cellE_mem _ _ _).2 (Or.inr (Or.inr (Or.inr (Or.inr (Or.inl rfl))))))
    · skip
      obtain ⟨K, rfl⟩ : ∃ K, M = K + 1 := ⟨M - 1, by omega⟩
      rcases i with _ | i
      · exact in_e (k := K) (by omega) ((endE_mem _ _ _).2 (Or.inr (Or.inl rfl)))
      · exact in_f (i := i) (by omega) ((flatE_mem _ _ _).2 (Or.inr (Or.inr (Or.inr (Or.inr (Or.inr (Or.inr (Or.inr (Or.inr (Or.inr (Or.inr (Or.inl rfl))))))))))))
    · skip
      obtain ⟨K, rfl⟩ : ∃ K, M = K + 1 := ⟨M - 1, by omega⟩
      exact in_c (i := i) (k := K) (by omega) (by omega) ((cellE_mem _ _ _).2 (Or.inr (Or.inr (Or.inr (Or.inr (Or.inr (Or.inr (Or.inr (Or.inr (Or.inr (Or.inr (Or.inl rfl))))))))))))
    · skip
      obtain ⟨K, rfl⟩ : ∃ K, M = K + 1 := ⟨M - 1, by omega⟩
      rcases (by omega : i + 1 < N ∨ N = i + 1) with h1 | rfl
      · exact in_f (i := i + 1) (by omega) ((flatE_mem _ _ _).2 (Or.inr (Or.inr (Or.inr (Or.inr (Or.inr (Or.inr (Or.inr (Or.inr (Or.inl rfl))))))))))
      · exact in_e (k := K) (by omega) ((endE_mem _ _ _).2 (Or.inr (Or.inr (Or.inr (Or.inr (Or.inr (Or.inr (Or.inr (Or.inr (Or.inr (Or.inr (Or.inl rfl))))))))))))
    · skip
      obtain ⟨K, rfl⟩ : ∃ K, M = K + 1 := ⟨M - 1, by omega⟩
      exact in_f (i := i) (by omega) ((flatE_mem _ _ _).2 (Or.inr (Or.inr (Or.inr (Or.inr (Or.inr (Or.inr (Or.inl rfl))))))))
  · rw [endE_mem] at h
    rcases h with rfl | rfl | rfl | rfl | rfl | rfl | rfl | rfl | rfl | rfl | rfl | rfl
    · skip
      exact in_c (i := 0) (k := k) (by omega) (by omega) ((cellE_mem _ _ _).2 (Or.inr (Or.inr (Or.inr (Or.inr (Or.inr (Or.inr (Or.inr (Or.inr (Or.inr (Or.inr (Or.inr (rfl)))))))))))))
    · skip
      rcases (by omega : k + 1 < M ∨ M = k + 1) with h1 | rfl
      · exact in_e (k := k + 1) (by omega) ((endE_mem _ _ _).2 (Or.inr (Or.inr (Or.inr (Or.inr (Or.inr (Or.inl rfl)))))))
      · exact in_f (i := 0) (by omega) ((flatE_mem _ _ _).2 (Or.inr (Or.inr (Or.inr (Or.inr (Or.inr (Or.inr (Or.inr (Or.inr (Or.inl rfl))))))))))
    · skip
      exact in_e (k := k) (by omega) ((endE_mem _ _ _).2 (Or.inr (Or.inr (Or.inr (Or.inl rfl)))))
    · skip
      exact in_e (k := k) (by omega) ((endE_mem _ _ _).2 (Or.inr (Or.inr (Or.inl rfl))))
    · skip
      exact in_c (i := 0) (k := k) (by omega) (by omega) ((cellE_mem _ _ _).2 (Or.inr (Or.inr (Or.inr (Or.inl rfl)))))
    · skip
      rcases k with _ | k
      · exact in_f (i := 0) (by omega) ((flatE_mem _ _ _).2 (Or.inl rfl))
      · exact in_e (k := k) (by omega) ((endE_mem _ _ _).2 (Or.inr (Or.inl rfl)))
    · skip
      obtain ⟨J, rfl⟩ : ∃ J, N = J + 1 := ⟨N - 1, by omega⟩
      rcases k with _ | k
      · exact in_f (i := J) (by omega) ((flatE_mem _ _ _).2 (Or.inr (Or.inr (Or.inr (Or.inr (Or.inl rfl))))))
      · exact in_e (k := k) (by omega) ((endE_mem _ _ _).2 (Or.inr (Or.inr (Or.inr (Or.inr (Or.inr (Or.inr (Or.inr (Or.inr (Or.inr (Or.inr (Or.inl rfl))))))))))))
    · skip
      obtain ⟨J, rfl⟩ : ∃ J, N = J + 1 := ⟨N - 1, by omega⟩
      exact in_c (i := J) (k := k) (by omega) (by omega) ((cellE_mem _ _ _).2 (Or.inr (Or.inl rfl)))
    · skip
      obtain ⟨J, rfl⟩ : ∃ J, N = J + 1 := ⟨N - 1, by omega⟩
      exact in_e (k := k) (by omega) ((endE_mem _ _ _).2 (Or.inr (Or.inr (Or.inr (Or.inr (Or.inr (Or.inr (Or.inr (Or.inr (Or.inr (Or.inl rfl)))))))))))
    · skip
      obtain ⟨J, rfl⟩ : ∃ J, N = J + 1 := ⟨N - 1, by omega⟩
      exact in_e (k := k) (by omega) ((endE_mem _ _ _).2 (Or.inr (Or.inr (Or.inr (Or.inr (Or.inr (Or.inr (Or.inr (Or.inr (Or.inl rfl))))))))))
    · skip
      obtain ⟨J, rfl⟩ : ∃ J, N = J + 1 := ⟨N - 1, by omega⟩
      rcases (by omega : k + 1 < M ∨ M = k + 1) with h1 | rfl
      · exact in_e (k := k + 1) (by omega) ((endE_mem _ _ _).2 (Or.inr (Or.inr (Or.inr (Or.inr (Or.inr (Or.inr (Or.inl rfl))))))))
      · exact in_f (i := J) (by omega) ((flatE_mem _ _ _).2 (Or.inr (Or.inr (Or.inr (Or.inr (Or.inr (Or.inr (Or.inr (Or.inr (Or.inr (Or.inr (Or.inl rfl))))))))))))
    · skip
      obtain ⟨J, rfl⟩ : ∃ J, N = J + 1 := ⟨N - 1, by omega⟩
      exact in_c (i := J) (k := k) (by omega) (by omega) ((cellE_mem _ _ _).2 (Or.inr (Or.inr (Or.inr (Or.inr (Or.inr (Or.inr (Or.inr (Or.inl rfl)))))))))
theorem ne_edge (N M : Nat) (x : Pt × Pt) (h : x ∈ edges N M) : x.1 ≠ x.2 := by
  rcases edge_cases h with ⟨i, k, hi, hk, h⟩ | ⟨i, hi, h⟩ | ⟨k, hk, h⟩
  · rw [cellE_mem] at h
    rcases h with rfl | rfl | rfl | rfl | rfl | rfl | rfl | rfl | rfl | rfl | rfl | rfl <;> simp
  · rw [flatE_mem] at h
    rcases h with rfl | rfl | rfl | rfl | rfl | rfl | rfl | rfl | rfl | rfl | rfl | rfl <;> simp
  · rw [endE_mem] at h
    rcases h with rfl | rfl | rfl | rfl | rfl | rfl | rfl | rfl | rfl | rfl | rfl | rfl <;> simp
/-- A point's index. -/
def idx (N M : Nat) (p : Pt) : Nat := p.1 * ((N + 1) * (M + 1)) + p.2.1 * (M + 1) + p.2.2
def Okp (N M : Nat) (p : Pt) : Prop := p.1 < 2 ∧ p.2.1 ≤ N ∧ p.2.2 ≤ M
theorem edge_ok (N M : Nat) (x : Pt × Pt) (h : x ∈ edges N M) : Okp N M x.1 ∧ Okp N M x.2 := by
  unfold Okp
  rcases edge_cases h with ⟨i, k, hi, hk, h⟩ | ⟨i, hi, h⟩ | ⟨k, hk, h⟩
  · rw [cellE_mem] at h
    rcases h with rfl | rfl | rfl | rfl | rfl | rfl | rfl | rfl | rfl | rfl | rfl | rfl <;> simp only [] <;> omega
  · rw [flatE_mem] at h
    rcases h with rfl | rfl | rfl | rfl | rfl | rfl | rfl | rfl | rfl | rfl | rfl | rfl <;> simp only [] <;> omega
  · rw [endE_mem] at h
    rcases h with rfl | rfl | rfl | rfl | rfl | rfl | rfl | rfl | rfl | rfl | rfl | rfl <;> simp only [] <;> omega
theorem idx_lt {N M : Nat} {p : Pt} (h : Okp N M p) : idx N M p < 2 * ((N + 1) * (M + 1)) := by
  obtain ⟨h1, h2, h3⟩ := h
  unfold idx
  have a := Nat.mul_le_mul_right (M + 1) h2
  have b := Nat.mul_le_mul_right ((N + 1) * (M + 1)) (by omega : p.1 ≤ 1)
  have e : (N + 1) * (M + 1) = N * (M + 1) + (M + 1) := by rw [Nat.add_mul]; omega
  omega
theorem idx_inj {N M : Nat} {p q : Pt} (hp : Okp N M p) (hq : Okp N M q) (h : idx N M p = idx N M q) : p = q := by
  obtain ⟨p1, p2, p3⟩ := p
  obtain ⟨q1, q2, q3⟩ := q
  obtain ⟨a1, a2, a3⟩ := hp
  obtain ⟨b1, b2, b3⟩ := hq
  simp only [] at a1 a2 a3 b1 b2 b3
  unfold idx at h
  simp only [] at h
  have l1 := Nat.mul_le_mul_right (M + 1) a2
  have l2 := Nat.mul_le_mul_right (M + 1) b2
  have e : (N + 1) * (M + 1) = N * (M + 1) + (M + 1) := by rw [Nat.add_mul]; omega
  have e1 : p1 = q1 := by
    rcases (by omega : p1 = 0 ∨ p1 = 1) with rfl | rfl <;> rcases (by omega : q1 = 0 ∨ q1 = 1) with rfl | rfl <;> simp at h ⊢ <;> omega
  subst e1
  have h' : p2 * (M + 1) + p3 = q2 * (M + 1) + q3 := by omega
  have e3 : p3 = q3 := by
    have := congrArg (· % (M + 1)) h'
    simp only [Nat.mul_add_mod'] at this
    rwa [Nat.mod_eq_of_lt (by omega), Nat.mod_eq_of_lt (by omega)] at this
  subst e3
  have e2 : p2 = q2 := Nat.eq_of_mul_eq_mul_right (Nat.succ_pos M) (show p2 * (M + 1) = q2 * (M + 1) by omega)
  subst e2
  rfl
/-- The coordinates of a point. -/
def py (H : Nat → Nat → Int) (p : Pt) : Int := if p.1 = 0 then H p.2.1 p.2.2 else -1 * H p.2.1 p.2.2
def fdet (X Z : Nat → Int) (H : Nat → Nat → Int) (f : Fc) : Int := det3 (X f.1.2.1) (py H f.1) (Z f.1.2.2) (X f.2.1.2.1) (py H f.2.1) (Z f.2.1.2.2) (X f.2.2.2.1) (py H f.2.2) (Z f.2.2.2.2)
def fy (H : Nat → Nat → Int) (f : Fc) : Int := py H f.1 + py H f.2.1 + py H f.2.2
def su (g : Fc → Int) : List Fc → Int
  | [] => 0
  | f :: l => g f + su g l
theorem su_append (g : Fc → Int) : ∀ a b : List Fc, su g (a ++ b) = su g a + su g b
  | [], b => by simp [su]
  | f :: l, b => by simp only [List.cons_append, su, su_append g l b]; omega
def sr (g : Nat → Int) : Nat → Int
  | 0 => 0
  | n + 1 => sr g n + g n
theorem su_range (g : Fc → Int) (f : Nat → List Fc) : ∀ n, su g ((List.range n).flatMap f) = sr (fun i => su g (f i)) n
  | 0 => rfl
  | n + 1 => by rw [List.range_succ, List.flatMap_append, su_append, su_range g f n]; simp [sr]
theorem sr_congr {g h : Nat → Int} : ∀ n, (∀ i, i < n → g i = h i) → sr g n = sr h n
  | 0, _ => rfl
  | n + 1, e => by rw [sr, sr, sr_congr n (fun i hi => e i (by omega)), e n (by omega)]
theorem sr_add (g h : Nat → Int) : ∀ n, sr (fun i => g i + h i) n = sr g n + sr h n
  | 0 => rfl
  | n + 1 => by rw [sr, sr, sr, sr_add g h n]; omega
theorem sr_tele (g : Nat → Int) : ∀ n, sr (fun i => g (i + 1) - g i) n = g n - g 0
  | 0 => by simp [sr]
  | n + 1 => by rw [sr, sr_tele g n]; omega
theorem sr_zero : ∀ n, sr (fun _ => 0) n = 0
  | 0 => rfl
  | n + 1 => by rw [sr, sr_zero n]; rfl
theorem sr_mul (c : Int) (g : Nat → Int) : ∀ n, sr (fun i => c * g i) n = c * sr g n
  | 0 => by simp [sr]
  | n + 1 => by rw [sr, sr, sr_mul c g n, Int.mul_add]
theorem sr_nonneg {g : Nat → Int} : ∀ n, (∀ i, i < n → 0 ≤ g i) → 0 ≤ sr g n
  | 0, _ => Int.le_refl _
  | n + 1, h => by have := sr_nonneg n (fun i hi => h i (by omega)); have := h n (by omega); rw [sr]; omega
theorem sr_pos {g : Nat → Int} (n : Nat) (h : ∀ i, i < n → 0 ≤ g i) (j : Nat) (hj : j < n) (hp : 0 < g j) : 0 < sr g n := by
  induction n with
  | zero => omega
  | succ n ih =>
    rw [sr]
    have h0 := sr_nonneg n (fun i hi => h i (by omega))
    have h1 := h n (by omega)
    by_cases e : j = n
    · subst e; omega
    · have := ih (fun i hi => h i (by omega)) (by omega); omega
/-- What a cell, its two sides, encloses (six times). -/
def pri (X Z : Nat → Int) (H : Nat → Nat → Int) (i k : Nat) : Int := 2 * ((X (i + 1) - X i) * (Z (k + 1) - Z k)) * (2 * H i k + H (i + 1) k + H i (k + 1) + 2 * H (i + 1) (k + 1))
def hq (X Z : Nat → Int) (H : Nat → Nat → Int) (i k : Nat) : Int := 2 * (H i k + H (i + 1) k) * (Z k * (X (i + 1) - X i))
def vq (X Z : Nat → Int) (H : Nat → Nat → Int) (i k : Nat) : Int := 2 * (H i k + H i (k + 1)) * (X i * (Z (k + 1) - Z k))
theorem cell_vol (X Z : Nat → Int) (H : Nat → Nat → Int) (i k : Nat) : su (fdet X Z H) (cellS i k) = pri X Z H i k + (-1 * (hq X Z H i (k + 1) - hq X Z H i k) + -1 * (vq X Z H (i + 1) k - vq X Z H i k)) := by
  simp only [cellS, su, fdet, py, det3, pri, hq, vq]
  simp only [if_true, if_false, Nat.one_ne_zero]
  grind
theorem flat_vol (X Z : Nat → Int) (H : Nat → Nat → Int) (M i : Nat) : su (fdet X Z H) (flatS M i) = hq X Z H i M - hq X Z H i 0 := by
  simp only [flatS, su, fdet, py, det3, pri, hq, vq]
  simp only [if_true, if_false, Nat.one_ne_zero]
  grind
theorem end_vol (X Z : Nat → Int) (H : Nat → Nat → Int) (N k : Nat) : su (fdet X Z H) (endS N k) = vq X Z H N k - vq X Z H 0 k := by
  simp only [endS, su, fdet, py, det3, pri, hq, vq]
  simp only [if_true, if_false, Nat.one_ne_zero]
  grind

theorem sr_swap (g : Nat → Nat → Int) (m : Nat) : ∀ n, sr (fun i => sr (fun k => g i k) m) n = sr (fun k => sr (fun i => g i k) n) m
  | 0 => by
    have := sr_zero m
    simp only [sr]
    exact this.symm
  | n + 1 => by
    rw [sr, sr_swap g m n, ← sr_add]
    exact sr_congr m (fun k _ => rfl)
/-- The surface encloses what its cells enclose. -/
theorem vol (X Z : Nat → Int) (H : Nat → Nat → Int) (N M : Nat) : su (fdet X Z H) (faces N M) = sr (fun i => sr (fun k => pri X Z H i k) M) N := by
  unfold faces
  rw [su_append, su_append, su_range, su_range, su_range]
  rw [sr_congr (h := fun i => sr (fun k => pri X Z H i k) M + (-1 * (hq X Z H i M - hq X Z H i 0) + sr (fun k => -1 * (vq X Z H (i + 1) k - vq X Z H i k)) M)) N (fun i _ => by
    rw [su_range, sr_congr (h := fun k => pri X Z H i k + (-1 * (hq X Z H i (k + 1) - hq X Z H i k) + -1 * (vq X Z H (i + 1) k - vq X Z H i k))) M (fun k _ => cell_vol X Z H i k), sr_add, sr_add, sr_mul, sr_tele (fun k => hq X Z H i k)])]
  rw [sr_congr (h := fun i => hq X Z H i M - hq X Z H i 0) N (fun i _ => flat_vol X Z H M i)]
  rw [sr_congr (h := fun k => vq X Z H N k - vq X Z H 0 k) M (fun k _ => end_vol X Z H N k)]
  rw [sr_add, sr_add, sr_mul, sr_swap (fun i k => -1 * (vq X Z H (i + 1) k - vq X Z H i k)) M N]
  rw [sr_congr (g := fun k => sr (fun i => -1 * (vq X Z H (i + 1) k - vq X Z H i k)) N) (h := fun k => -1 * (vq X Z H N k - vq X Z H 0 k)) M (fun k _ => by rw [sr_mul, sr_tele (fun i => vq X Z H i k)]), sr_mul]
  omega
/-- The moment about the middle is 0. -/
theorem cell_mid (X Z : Nat → Int) (H : Nat → Nat → Int) (i k : Nat) : su (fun f => fdet X Z H f * fy H f) (cellS i k) = 0 := by
  simp only [cellS, su, fdet, fy, py, det3]
  simp only [if_true, if_false, Nat.one_ne_zero]
  first | done | grind
theorem flat_mid (X Z : Nat → Int) (H : Nat → Nat → Int) (M i : Nat) : su (fun f => fdet X Z H f * fy H f) (flatS M i) = 0 := by
  simp only [flatS, su, fdet, fy, py, det3]
  simp only [if_true, if_false, Nat.one_ne_zero]
  first | done | grind
theorem end_mid (X Z : Nat → Int) (H : Nat → Nat → Int) (N k : Nat) : su (fun f => fdet X Z H f * fy H f) (endS N k) = 0 := by
  simp only [endS, su, fdet, fy, py, det3]
  simp only [if_true, if_false, Nat.one_ne_zero]
  first | done | grind
theorem mid (X Z : Nat → Int) (H : Nat → Nat → Int) (N M : Nat) : su (fun f => fdet X Z H f * fy H f) (faces N M) = 0 := by
  unfold faces
  rw [su_append, su_append, su_range, su_range, su_range]
  rw [sr_congr (g := fun i => su _ ((List.range M).flatMap fun k => cellS i k)) (h := fun _ => 0) N (fun i _ => by rw [su_range, sr_congr (h := fun _ => 0) M (fun k _ => cell_mid X Z H i k), sr_zero])]
  rw [sr_congr (g := fun i => su _ (flatS M i)) (h := fun _ => 0) N (fun i _ => flat_mid X Z H M i)]
  rw [sr_congr (g := fun k => su _ (endS N k)) (h := fun _ => 0) M (fun k _ => end_mid X Z H N k)]
  rw [sr_zero, sr_zero]
  rfl
/-- A form has a volume. -/
theorem vol_pos (X Z : Nat → Int) (H : Nat → Nat → Int) (N M : Nat) (hX : ∀ i, i < N → X i < X (i + 1)) (hZ : ∀ k, k < M → Z k < Z (k + 1)) (hH : ∀ i k, i ≤ N → k ≤ M → 0 ≤ H i k) (hN : 0 < N) (hM : 0 < M) (i k : Nat) (hi : i ≤ N) (hk : k ≤ M) (hp : 0 < H i k) :
    0 < su (fdet X Z H) (faces N M) := by
  have dx : ∀ i, i < N → 0 < X (i + 1) - X i := fun i hi => by have := hX i hi; omega
  have dz : ∀ k, k < M → 0 < Z (k + 1) - Z k := fun k hk => by have := hZ k hk; omega
  have h0 : ∀ i k, i < N → k < M → 0 ≤ pri X Z H i k := fun i k hi hk => by
    unfold pri
    have a := hH i k (by omega) (by omega)
    have b := hH (i + 1) k (by omega) (by omega)
    have c := hH i (k + 1) (by omega) (by omega)
    have d := hH (i + 1) (k + 1) (by omega) (by omega)
    exact Int.mul_nonneg (Int.mul_nonneg (by omega) (Int.le_of_lt (Int.mul_pos (dx i hi) (dz k hk)))) (by omega)
  have hpos : ∀ i k, i < N → k < M → (0 < H i k ∨ 0 < H (i + 1) k ∨ 0 < H i (k + 1) ∨ 0 < H (i + 1) (k + 1)) → 0 < pri X Z H i k := fun i k hi hk h => by
    unfold pri
    have a := hH i k (by omega) (by omega)
    have b := hH (i + 1) k (by omega) (by omega)
    have c := hH i (k + 1) (by omega) (by omega)
    have d := hH (i + 1) (k + 1) (by omega) (by omega)
    exact Int.mul_pos (Int.mul_pos (by omega) (Int.mul_pos (dx i hi) (dz k hk))) (by omega)
  rw [vol]
  obtain ⟨j, hj, ej⟩ : ∃ j, j < N ∧ (i = j ∨ i = j + 1) := by
    rcases (by omega : i < N ∨ i = N) with h | h
    · exact ⟨i, h, Or.inl rfl⟩
    · exact ⟨N - 1, by omega, Or.inr (by omega)⟩
  obtain ⟨l, hl, el⟩ : ∃ l, l < M ∧ (k = l ∨ k = l + 1) := by
    rcases (by omega : k < M ∨ k = M) with h | h
    · exact ⟨k, h, Or.inl rfl⟩
    · exact ⟨M - 1, by omega, Or.inr (by omega)⟩
  refine sr_pos N (fun i hi => sr_nonneg M (fun k hk => h0 i k hi hk)) j hj (sr_pos M (fun k hk => h0 j k hj hk) l hl (hpos j l hj hl ?_))
  rcases ej with rfl | rfl <;> rcases el with rfl | rfl
  · exact Or.inl hp
  · exact Or.inr (Or.inr (Or.inl hp))
  · exact Or.inr (Or.inl hp)
  · exact Or.inr (Or.inr (Or.inr hp))
/-- A box's volume. -/
theorem vol_box (X Z : Nat → Int) (b : Int) (N M : Nat) (H : Nat → Nat → Int) (hH : ∀ i k, i ≤ N → k ≤ M → H i k = b) : su (fdet X Z H) (faces N M) = 12 * b * ((X N - X 0) * (Z M - Z 0)) := by
  rw [vol]
  rw [sr_congr (h := fun i => (12 * b * (Z M - Z 0)) * (X (i + 1) - X i)) N (fun i hi => by
    rw [sr_congr (h := fun k => (12 * b * (X (i + 1) - X i)) * (Z (k + 1) - Z k)) M (fun k hk => by
      unfold pri
      rw [hH i k (by omega) (by omega), hH (i + 1) k (by omega) (by omega), hH i (k + 1) (by omega) (by omega), hH (i + 1) (k + 1) (by omega) (by omega)]
      grind), sr_mul, sr_tele]
    grind), sr_mul, sr_tele]
  grind

theorem su_take (g : Fc → Int) : ∀ (l : List Fc) (j : Nat) (h : j < l.length), su g (l.take (j + 1)) = su g (l.take j) + g l[j]
  | [], j, h => absurd h (by simp)
  | f :: l, 0, h => by simp [su]
  | f :: l, j + 1, h => by
    have := su_take g l j (by simpa using h)
    simp only [List.take_succ_cons, su, List.getElem_cons_succ]
    rw [this]; omega
theorem su_abs (g : Fc → Int) (B : Int) : ∀ l : List Fc, (∀ f ∈ l, -B ≤ g f ∧ g f ≤ B) → -(B * (l.length : Int)) ≤ su g l ∧ su g l ≤ B * (l.length : Int)
  | [], _ => by simp [su]
  | f :: l, h => by
    have h1 := h f (by simp)
    have h2 := su_abs g B l (fun x hx => h x (by simp [hx]))
    have e : B * (((f :: l).length : Nat) : Int) = B * (l.length : Int) + B := by rw [List.length_cons, Int.natCast_add, Int.mul_add]; simp
    rw [e, su]
    omega
def cor (f : Fc) : List Pt := [f.1, f.2.1, f.2.2]
def corners (N M : Nat) : List Pt := (faces N M).flatMap cor
theorem get3 {α : Type} (u : Fc → List α) (hu : ∀ f, (u f).length = 3) : ∀ (l : List Fc) (j c : Nat) (_ : c < 3) (h : j < l.length), (l.flatMap u)[3 * j + c]? = (u l[j])[c]?
  | [], j, c, hc, h => absurd h (by simp)
  | f :: l, 0, c, hc, h => by
    rw [List.flatMap_cons, List.getElem?_append_left (by rw [hu]; omega)]
    simp
  | f :: l, j + 1, c, hc, h => by
    have := get3 u hu l j c hc (by simpa using h)
    rw [List.flatMap_cons, List.getElem?_append_right (by rw [hu]; omega), hu]
    rw [show 3 * (j + 1) + c - 3 = 3 * j + c by omega, this]
    simp
theorem len3 {α : Type} (u : Fc → List α) (hu : ∀ f, (u f).length = 3) : ∀ l : List Fc, (l.flatMap u).length = 3 * l.length
  | [] => rfl
  | f :: l => by rw [List.flatMap_cons, List.length_append, hu, len3 u hu l, List.length_cons]; omega
theorem len_flat {α : Type} (u : Nat → List α) (c : Nat) (hu : ∀ i, (u i).length = c) : ∀ n, ((List.range n).flatMap u).length = c * n
  | 0 => by simp
  | n + 1 => by rw [List.range_succ, List.flatMap_append, List.length_append, len_flat u c hu n]; simp [hu, Nat.mul_add]
theorem faces_len (N M : Nat) : (faces N M).length = 4 * M * N + 4 * N + 4 * M := by
  unfold faces
  rw [List.length_append, List.length_append, len_flat _ (4 * M) (fun i => by rw [len_flat _ 4 (fun k => rfl)]), len_flat _ 4 (fun i => rfl), len_flat _ 4 (fun i => rfl)]
theorem face_ok {N M : Nat} {f : Fc} (h : f ∈ faces N M) : Okp N M f.1 ∧ Okp N M f.2.1 ∧ Okp N M f.2.2 := by
  have h1 : (f.1, f.2.1) ∈ edges N M := List.mem_flatMap.2 ⟨f, h, by simp [fe]⟩
  have h2 : (f.2.1, f.2.2) ∈ edges N M := List.mem_flatMap.2 ⟨f, h, by simp [fe]⟩
  exact ⟨(edge_ok N M _ h1).1, (edge_ok N M _ h1).2, (edge_ok N M _ h2).2⟩
theorem edges_len (N M : Nat) : (edges N M).length = 3 * (faces N M).length := len3 fe (fun f => rfl) _
theorem corners_len (N M : Nat) : (corners N M).length = 3 * (faces N M).length := len3 cor (fun f => rfl) _
/-- The corners' indices, one after the other. -/
@[irreducible] def cF (N M : Nat) (t : Nat) : Int := match (corners N M)[t]? with
  | some p => (idx N M p : Int)
  | none => 0
theorem cF_at (N M j c : Nat) (hc : c < 3) (h : j < (faces N M).length) : cF N M (3 * j + c) = match (cor (faces N M)[j])[c]? with
  | some p => (idx N M p : Int)
  | none => 0 := by
  unfold cF corners
  rw [get3 cor (fun f => rfl) _ j c hc h]
theorem cF_0 (N M j : Nat) (h : j < (faces N M).length) : cF N M (3 * j) = (idx N M (faces N M)[j].1 : Int) := by have := cF_at N M j 0 (by omega) h; simpa [cor] using this
theorem cF_1 (N M j : Nat) (h : j < (faces N M).length) : cF N M (3 * j + 1) = (idx N M (faces N M)[j].2.1 : Int) := by have := cF_at N M j 1 (by omega) h; simpa [cor] using this
theorem cF_2 (N M j : Nat) (h : j < (faces N M).length) : cF N M (3 * j + 2) = (idx N M (faces N M)[j].2.2 : Int) := by have := cF_at N M j 2 (by omega) h; simpa [cor] using this
/-- Edge t, by its corners' indices. -/
theorem eg_edge (N M t : Nat) (h : t < 3 * (faces N M).length) : ∃ x, (edges N M)[t]? = some x ∧ cF N M t = (idx N M x.1 : Int) ∧ cF N M (3 * (t / 3) + (t % 3 + 1) % 3) = (idx N M x.2 : Int) := by
  have hj : t / 3 < (faces N M).length := by omega
  have e0 := cF_0 N M (t / 3) hj
  have e1 := cF_1 N M (t / 3) hj
  have e2 := cF_2 N M (t / 3) hj
  have ee := fun c hc => get3 fe (fun f => rfl) (faces N M) (t / 3) c hc hj
  rcases (by omega : t = 3 * (t / 3) ∨ t = 3 * (t / 3) + 1 ∨ t = 3 * (t / 3) + 2) with e | e | e
  · refine ⟨((faces N M)[t / 3].1, (faces N M)[t / 3].2.1), ?_, ?_, ?_⟩
    · have := ee 0 (by omega)
      rw [Nat.add_zero, ← e] at this
      exact this
    · exact (congrArg (cF N M) e).trans e0
    · rw [show (t % 3 + 1) % 3 = 1 by omega]; exact e1
  · refine ⟨((faces N M)[t / 3].2.1, (faces N M)[t / 3].2.2), ?_, ?_, ?_⟩
    · have := ee 1 (by omega)
      rw [← e] at this
      exact this
    · exact (congrArg (cF N M) e).trans e1
    · rw [show (t % 3 + 1) % 3 = 2 by omega]; exact e2
  · refine ⟨((faces N M)[t / 3].2.2, (faces N M)[t / 3].1), ?_, ?_, ?_⟩
    · have := ee 2 (by omega)
      rw [← e] at this
      exact this
    · exact (congrArg (cF N M) e).trans e2
    · rw [show (t % 3 + 1) % 3 = 0 by omega]; exact e0
end Go.Proofs.YtfmmnnodihpgmaaDoor.Sf
namespace Go.Proofs.YtfmmnnodihpgmaaDoor
set_option linter.all false
open Go Go.RowKit Wd
set_option maxRecDepth 100000
theorem eg_at (N M t : Nat) (h : t < 3 * (Sf.faces N M).length) : ∃ x, (Sf.edges N M)[t]? = some x ∧ eg (Sf.cF N M) t = ((Sf.idx N M x.1 : Int), (Sf.idx N M x.2 : Int)) := by
  obtain ⟨x, h1, h2, h3⟩ := Sf.eg_edge N M t h
  refine ⟨x, h1, ?_⟩
  unfold eg
  rw [h2, h3]
theorem edge_mem {N M t : Nat} {x : Sf.Pt × Sf.Pt} (h : (Sf.edges N M)[t]? = some x) : x ∈ Sf.edges N M := List.mem_of_getElem? h
/-- A hull's surface is closed. -/
theorem shut_hull (N M : Nat) (hN : 0 < N) (hM : 0 < M) (hN' : N ≤ 23) (hM' : M ≤ 15) : Shutd (Sf.cF N M) (Sf.faces N M).length := by
  have hNM : 2 * ((N + 1) * (M + 1)) ≤ 2 * (24 * 16) := Nat.mul_le_mul_left 2 (Nat.mul_le_mul (by omega) (by omega))
  refine ⟨fun t ht => ?_, fun t ht => ?_, fun s t hst ht => ?_, fun t ht => ?_⟩
  · obtain ⟨x, h1, h2, -⟩ := Sf.eg_edge N M t ht
    have := Sf.idx_lt (Sf.edge_ok N M x (edge_mem h1)).1
    rw [h2]
    unfold I64
    omega
  · obtain ⟨x, h1, h2⟩ := eg_at N M t ht
    rw [h2]
    intro e
    have ok := Sf.edge_ok N M x (edge_mem h1)
    exact Sf.ne_edge N M x (edge_mem h1) (Sf.idx_inj ok.1 ok.2 (by simp only [] at e; omega))
  · obtain ⟨x, h1, h2⟩ := eg_at N M s (by omega)
    obtain ⟨y, h3, h4⟩ := eg_at N M t ht
    rw [h2, h4]
    intro e
    have okx := Sf.edge_ok N M x (edge_mem h1)
    have oky := Sf.edge_ok N M y (edge_mem h3)
    simp only [Prod.mk.injEq] at e
    have e1 := Sf.idx_inj okx.1 oky.1 (by omega)
    have e2 := Sf.idx_inj okx.2 oky.2 (by omega)
    have exy : x = y := Prod.ext e1 e2
    have hl : s < (Sf.edges N M).length := by rw [Sf.edges_len]; omega
    have := (List.getElem?_inj hl (Sf.nodup N M hN hM)).1 (h1.trans (by rw [h3, exy]))
    omega
  · obtain ⟨x, h1, h2⟩ := eg_at N M t ht
    have hb := Sf.back N M hN hM x (edge_mem h1)
    obtain ⟨s, hs⟩ := List.getElem?_of_mem hb
    have hl : s < 3 * (Sf.faces N M).length := by
      rw [← Sf.edges_len]
      exact (List.getElem?_eq_some_iff.1 hs).1
    obtain ⟨y, h3, h4⟩ := eg_at N M s hl
    rw [hs] at h3
    cases h3
    exact ⟨s, hl, by rw [h4, h2]⟩
/-- A point's index as a cell's value. -/
def vI (N M : Nat) (p : Sf.Pt) : Value := .int .i64 (Sf.idx N M p : Int)
theorem pI_idx (N M i k : Nat) (a b : Int) (ha : a = i) (hb : b = k) : Value.int .i64 (pI (M + 1) a b) = vI N M (0, i, k) := by
  subst ha hb
  unfold pI vI Sf.idx
  simp
theorem sI_idx (N M i k : Nat) (a b : Int) (ha : a = i) (hb : b = k) : Value.int .i64 (sI (N + 1) (M + 1) a b) = vI N M (1, i, k) := by
  subst ha hb
  unfold sI vI Sf.idx
  simp
theorem face4_vals (N M i k : Nat) : face4 (N + 1) (M + 1) (i : Int) (k : Int) = ((Sf.cellS i k).flatMap Sf.cor).map (vI N M) := by
  unfold face4 iv
  simp only [List.map_cons, List.map_nil, List.cons_append, List.nil_append, Sf.cellS, Sf.cor, List.flatMap_cons, List.flatMap_nil, List.append_nil]
  rw [pI_idx N M i k (i : Int) (k : Int) rfl rfl, pI_idx N M (i + 1) (k + 1) ((i : Int) + 1) ((k : Int) + 1) (by simp) (by simp), pI_idx N M (i + 1) k ((i : Int) + 1) (k : Int) (by simp) rfl, pI_idx N M i (k + 1) (i : Int) ((k : Int) + 1) rfl (by simp),
    sI_idx N M i k (i : Int) (k : Int) rfl rfl, sI_idx N M (i + 1) (k + 1) ((i : Int) + 1) ((k : Int) + 1) (by simp) (by simp), sI_idx N M (i + 1) k ((i : Int) + 1) (k : Int) (by simp) rfl, sI_idx N M i (k + 1) (i : Int) ((k : Int) + 1) rfl (by simp)]
theorem flats_vals (N M i : Nat) : flatsF1 (N + 1) (M + 1) i = ((Sf.flatS M i).flatMap Sf.cor).map (vI N M) := by
  unfold flatsF1
  simp only [List.map_cons, List.map_nil, List.cons_append, List.nil_append, Sf.flatS, Sf.cor, List.flatMap_cons, List.flatMap_nil, List.append_nil]
  rw [pI_idx N M i 0 (i : Int) (0 : Int) rfl rfl, pI_idx N M (i + 1) 0 ((i : Int) + 1) (0 : Int) (by simp) rfl, sI_idx N M i 0 (i : Int) (0 : Int) rfl rfl, sI_idx N M (i + 1) 0 ((i : Int) + 1) (0 : Int) (by simp) rfl,
    pI_idx N M i M (i : Int) (((M + 1 : Nat) : Int) - 1) rfl (by simp), pI_idx N M (i + 1) M ((i : Int) + 1) (((M + 1 : Nat) : Int) - 1) (by simp) (by simp), sI_idx N M i M (i : Int) (((M + 1 : Nat) : Int) - 1) rfl (by simp), sI_idx N M (i + 1) M ((i : Int) + 1) (((M + 1 : Nat) : Int) - 1) (by simp) (by simp)]
theorem ends_vals (N M k : Nat) : endsF1 (N + 1) (M + 1) k = ((Sf.endS N k).flatMap Sf.cor).map (vI N M) := by
  unfold endsF1
  simp only [List.map_cons, List.map_nil, List.cons_append, List.nil_append, Sf.endS, Sf.cor, List.flatMap_cons, List.flatMap_nil, List.append_nil]
  rw [pI_idx N M 0 k (0 : Int) (k : Int) rfl rfl, pI_idx N M 0 (k + 1) (0 : Int) ((k : Int) + 1) rfl (by simp), sI_idx N M 0 k (0 : Int) (k : Int) rfl rfl, sI_idx N M 0 (k + 1) (0 : Int) ((k : Int) + 1) rfl (by simp),
    pI_idx N M N k (((N + 1 : Nat) : Int) - 1) (k : Int) (by simp) rfl, pI_idx N M N (k + 1) (((N + 1 : Nat) : Int) - 1) ((k : Int) + 1) (by simp) (by simp), sI_idx N M N k (((N + 1 : Nat) : Int) - 1) (k : Int) (by simp) rfl, sI_idx N M N (k + 1) (((N + 1 : Nat) : Int) - 1) ((k : Int) + 1) (by simp) (by simp)]
/-- The faces of hull.Mesh. -/
theorem faces_vals (N M : Nat) : sidesF (N + 1) (M + 1) N ++ flatsF (N + 1) (M + 1) N ++ endsF (N + 1) (M + 1) M = (Sf.corners N M).map (vI N M) := by
  unfold Sf.corners Sf.faces
  simp only [List.flatMap_append, List.map_append, List.flatMap_assoc, List.map_flatMap]
  have e1 : ∀ i k, (Sf.cellS i k).flatMap (fun b => (Sf.cor b).map (vI N M)) = face4 (N + 1) (M + 1) (i : Int) (k : Int) := fun i k => by rw [face4_vals, List.map_flatMap]
  have e2 : ∀ i, (Sf.flatS M i).flatMap (fun b => (Sf.cor b).map (vI N M)) = flatsF1 (N + 1) (M + 1) i := fun i => by rw [flats_vals, List.map_flatMap]
  have e3 : ∀ k, (Sf.endS N k).flatMap (fun b => (Sf.cor b).map (vI N M)) = endsF1 (N + 1) (M + 1) k := fun k => by rw [ends_vals, List.map_flatMap]
  simp only [e1, e2, e3]
  unfold sidesF innerF flatsF endsF
  rfl
theorem faces_get (N M j : Nat) (h : j < 3 * (Sf.faces N M).length) : intOf (((Sf.corners N M).map (vI N M)).getD j (.int .i64 0)) = Sf.cF N M j := by
  have hl : j < (Sf.corners N M).length := by rw [Sf.corners_len]; exact h
  unfold Sf.cF
  rw [List.getD_eq_getElem?_getD, List.getElem?_map, List.getElem?_eq_getElem hl]
  simp [vI, intOf]
/-- A row of equal pieces. -/
theorem get_range {α : Type} (u : Nat → List α) (c : Nat) (hu : ∀ i, (u i).length = c) : ∀ (n i r : Nat) (_ : i < n) (_ : r < c), ((List.range n).flatMap u)[i * c + r]? = (u i)[r]?
  | 0, i, r, hi, hr => absurd hi (by omega)
  | n + 1, i, r, hi, hr => by
    rw [List.range_succ, List.flatMap_append]
    have hl := Sf.len_flat u c hu n
    by_cases h : i < n
    · have h1 := Nat.mul_le_mul_right c (by omega : i + 1 ≤ n)
      rw [Nat.add_mul] at h1
      have h2 := Nat.mul_comm n c
      rw [List.getElem?_append_left (by rw [hl]; omega)]
      exact get_range u c hu n i r h hr
    · obtain rfl : i = n := by omega
      have h2 := Nat.mul_comm i c
      rw [List.getElem?_append_right (by rw [hl]; omega), hl, h2, Nat.add_sub_cancel_left]
      simp
theorem rowP_len' (X Z : List Int) (H : List (List Int)) (s : Int) (i k : Nat) : (rowP X Z H s i k).length = k * 3 := by
  unfold rowP
  rw [Sf.len_flat _ 3 (fun j => rfl), Nat.mul_comm]
theorem sideP_len' (X Z : List Int) (H : List (List Int)) (s : Int) (i : Nat) : (sideP X Z H s i).length = Z.length * 3 * i := by
  unfold sideP
  rw [Sf.len_flat _ (Z.length * 3) (fun j => rowP_len' X Z H s j _)]
/-- The coordinates of the points of hull.Mesh. -/
theorem pts_get (X Z : List Int) (H : List (List Int)) (N M : Nat) (hX : X.length = N + 1) (hZ : Z.length = M + 1) (s i k c : Nat) (hs : s < 2) (hi : i ≤ N) (hk : k ≤ M) (hc : c < 3) :
    (ptsP X Z H 2)[Sf.idx N M (s, i, k) * 3 + c]? = (vec3 (ix X i) (sg s * ix (row H i) k) (ix Z k))[c]? := by
  have e : Sf.idx N M (s, i, k) * 3 + c = s * (Z.length * 3 * X.length) + (i * (Z.length * 3) + (k * 3 + c)) := by
    unfold Sf.idx
    simp only []
    rw [hX, hZ, Nat.add_mul, Nat.add_mul, Nat.mul_assoc i, show s * ((N + 1) * (M + 1)) * 3 = s * ((M + 1) * 3 * (N + 1)) by rw [Nat.mul_assoc, Nat.mul_comm (N + 1) (M + 1), Nat.mul_assoc, Nat.mul_comm (N + 1) 3, Nat.mul_assoc]]
    omega
  have h1 : k * 3 + c < Z.length * 3 := by omega
  have h2 : i * (Z.length * 3) + (k * 3 + c) < Z.length * 3 * X.length := by
    have := Nat.mul_le_mul_right (Z.length * 3) (by omega : i + 1 ≤ X.length)
    rw [Nat.add_mul, Nat.one_mul] at this
    rw [Nat.mul_comm (Z.length * 3) X.length]
    omega
  rw [e]
  unfold ptsP
  rw [get_range _ (Z.length * 3 * X.length) (fun j => sideP_len' X Z H (sg j) X.length) 2 s _ hs h2]
  unfold sideP
  rw [get_range _ (Z.length * 3) (fun j => rowP_len' X Z H (sg s) j _) X.length i _ (by omega) h1]
  unfold rowP
  rw [get_range _ 3 (fun j => rfl) Z.length k c (by omega) hc]
end Go.Proofs.YtfmmnnodihpgmaaDoor
