/-
  What hull.Check returns, for all forms.
-/
import Derived.Test.YtfmmnnodihpgmaaDoorHullA
namespace Go.Proofs.YtfmmnnodihpgmaaDoor
set_option linter.all false
open Go Go.RowKit Wd
set_option maxRecDepth 100000
theorem Ints.kp {w x : World} {b off : Nat} {l : List Int} (h : Ints w b off l) (k : Kp w.heap.size [] w x) : Ints x b off l :=
  ⟨Nat.lt_of_lt_of_le h.lt k.size, fun j hj => (k.cell _ _ h.lt (by simp)).trans (h.cell j hj)⟩
theorem Has.kp {w x : World} {a : Option Addr} {l : List Int} (h : Has w a l) (k : Kp w.heap.size [] w x) : Has x a l := fun h0 => by
  obtain ⟨b, o, e, hi⟩ := h h0
  exact ⟨b, o, e, hi.kp k⟩
theorem Rws.kp {w x : World} {b off : Nat} {A : Nat → Option Addr} {C : Nat → Nat} {H : List (List Int)} (h : Rws w b off A C H) (k : Kp w.heap.size [] w x) : Rws x b off A C H :=
  ⟨Nat.lt_of_lt_of_le h.lt k.size, fun j hj => (k.cell _ _ h.lt (by simp)).trans (h.cell j hj), fun j hj => (h.row j hj).kp k⟩
theorem HasRws.kp {w x : World} {a : Option Addr} {A : Nat → Option Addr} {C : Nat → Nat} {H : List (List Int)} (h : HasRws w a A C H) (k : Kp w.heap.size [] w x) : HasRws x a A C H := fun h0 => by
  obtain ⟨b, o, e, hi⟩ := h h0
  exact ⟨b, o, e, hi.kp k⟩
/-- A form lies in memory. -/
structure Frm (w : World) (ax az ah : Option Addr) (A : Nat → Option Addr) (C : Nat → Nat) (X Z : List Int) (H : List (List Int)) : Prop where
  x : Has w ax X
  z : Has w az Z
  h : HasRws w ah A C H
theorem Frm.later {w w' : World} {ax az ah : Option Addr} {A : Nat → Option Addr} {C : Nat → Nat} {X Z : List Int} {H : List (List Int)} (h : Frm w ax az ah A C X Z H) (hb : Below w.heap.size w w') : Frm w' ax az ah A C X Z H := ⟨h.x.later hb, h.z.later hb, h.h.later hb⟩
theorem Frm.kp {w w' : World} {ax az ah : Option Addr} {A : Nat → Option Addr} {C : Nat → Nat} {X Z : List Int} {H : List (List Int)} (h : Frm w ax az ah A C X Z H) (hb : Kp w.heap.size [] w w') : Frm w' ax az ah A C X Z H := ⟨h.x.kp hb, h.z.kp hb, h.h.kp hb⟩
/-- Below, said by what is kept. -/
theorem Below.kp {w x : World} (h : Below w.heap.size w x) : Kp w.heap.size [] w x := (Kp.refl (Nat.le_refl _)).later h
instance : Inhabited (Option Addr × Nat × Nat) := ⟨(none, 0, 0)⟩
theorem rowlen_pred (m : Nat) (az : Option Addr) (cz B : Nat) (w : World) (hB : B < w.heap.size) (hc : w.cell? ⟨B, 1, none⟩ = some (.slice az m cz)) :
    PredAt Tryd.prog 30 #[.pointer (some ⟨B, 0, none⟩)] (fun t : Option Addr × Nat × Nat => .slice t.1 t.2.1 t.2.2) (fun t => !decide (t.2.1 = m)) w := fun W x hb => by
  obtain ⟨a, n, c⟩ := x
  have hc' : W.cell? ⟨B, 1, none⟩ = some (.slice az m cz) := (hb.cell (p := ⟨B, 1, none⟩) hB).trans hc
  unfold FnGives
  by_cases h : n = m
  · subst h
    go_enter Tryd.func30, Tryd.ntmps30
    go_wp2
    go_returns
    exact ⟨ret_bool (by simp), 0, rfl⟩
  · have h' : ¬ (n : Int) = (m : Int) := by omega
    go_enter Tryd.func30, Tryd.ntmps30
    go_wp2
    go_returns
    exact ⟨ret_bool (by simp [h]; omega), 0, rfl⟩
/-- Whether a row's length is another one. -/
theorem badRows_call (m : Nat) (az : Option Addr) (cz B : Nat) (H : List (List Int)) (a : Option Addr) (A : Nat → Option Addr) (C : Nat → Nat) (c : Nat) (hl : H.length ≤ 9223372036854775807) (w : World) (h : HasRws w a A C H) (hB : B < w.heap.size) (hc : w.cell? ⟨B, 1, none⟩ = some (.slice az m cz)) :
    Calls Tryd.prog 29 #[.slice a H.length c, .func (.func 30) #[] #[.pointer (some ⟨B, 0, none⟩)]] w fun e w' => e = .returned (.bool (badRows m H)) ∧ Below w.heap.size w w' := by
  by_cases h0 : 0 < H.length
  · obtain ⟨b, o, rfl, hi⟩ := h h0
    have hlen : ((List.range H.length).map fun i => (A i, (row H i).length, C i)).length = H.length := by simp
    refine (Tryd.slices_ContainsFunc_f29 (fun t : Option Addr × Nat × Nat => .slice t.1 t.2.1 t.2.2) (fun t => !decide (t.2.1 = m)) _ _ (enters_of Tryd.func30 (by kernel_rfl) rfl) b o H.length c ((List.range H.length).map fun i => (A i, (row H i).length, C i)) w (rowlen_pred m az cz B w hB hc) (by rw [hlen]; exact Nat.le_refl _) hl (fun j hj => ?_)).mono ?_
    · rw [hlen] at hj
      rw [hi.cell j hj, getElem!_pos _ j (by rw [hlen]; exact hj)]
      simp
    · rintro e w' ⟨rfl, q, rfl⟩
      refine ⟨ret_bool ?_, below_drewN' (Below.refl _ w) q⟩
      rw [List.take_of_length_le (by rw [hlen]; exact Nat.le_refl _)]
      unfold badRows
      rw [Bool.eq_iff_iff, List.any_eq_true, List.any_eq_true]
      constructor
      · rintro ⟨t, ht, h1⟩
        obtain ⟨i, hi2, rfl⟩ := List.mem_map.1 ht
        have hi3 := List.mem_range.1 hi2
        refine ⟨H[i], List.getElem_mem hi3, ?_⟩
        rw [row_get hi3] at h1
        exact h1
      · rintro ⟨l, hl2, h1⟩
        obtain ⟨i, hi3, rfl⟩ := List.mem_iff_getElem.1 hl2
        refine ⟨(A i, (row H i).length, C i), List.mem_map.2 ⟨i, List.mem_range.2 hi3, rfl⟩, ?_⟩
        simp only [row_get hi3]
        exact h1
  · have e0 : H = [] := List.length_eq_zero_iff.1 (by omega)
    subst e0
    refine (Tryd.slices_ContainsFunc_empty_f29 (α := Int) a c _ w).mono ?_
    rintro e w' ⟨rfl, rfl⟩
    exact ⟨by unfold badRows; rfl, Below.refl _ _⟩
end Go.Proofs.YtfmmnnodihpgmaaDoor
