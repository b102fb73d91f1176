/-
  What a world keeps of another one: all blocks below a number but some; for regions that draw their order.
-/
import Derived.Test.YtkpochkfijplaaaQBase
import Derived.Deep.CutBlock
import Derived.Deep.DeepCutAuto
import Derived.Deep.DrawnRows

namespace Go.Proofs.Ytkpochkfijplaaa
set_option linter.all false
open Go Go.RowKit Wd
/-- Below block H, but for the blocks of L, the world x is as W was; no mark of frozen cells below H has turned; nothing has gone. -/
structure Kp (H : Nat) (L : List Nat) (W x : World) : Prop where
  top : H ≤ W.heap.size
  size : W.heap.size ≤ x.heap.size
  cell : ∀ b o, b < H → b ∉ L → x.cell? ⟨b, o, none⟩ = W.cell? ⟨b, o, none⟩
  froz : ∀ b o, b < H → x.frozen? ⟨b, o, none⟩ = W.frozen? ⟨b, o, none⟩
theorem Kp.refl {H : Nat} {L : List Nat} {W : World} (h : H ≤ W.heap.size) : Kp H L W W := ⟨h, Nat.le_refl _, fun _ _ _ _ => rfl, fun _ _ _ => rfl⟩
theorem Kp.drew {H : Nat} {L : List Nat} {W x : World} (h : Kp H L W x) : Kp H L W x.drew := ⟨h.top, h.size, h.cell, h.froz⟩
theorem Kp.alloc {H : Nat} {L : List Nat} {W x : World} (h : Kp H L W x) (O : Obj) : Kp H L W (x.alloc O) := by
  obtain ⟨h1, h2, h3, h4⟩ := h
  refine ⟨h1, ?_, fun b o hb hl => ?_, fun b o hb => ?_⟩
  · simp; omega
  · rw [World.cell?_alloc_past O b o (by omega)]; exact h3 b o hb hl
  · rw [World.frozen?_alloc_past O b o (by omega)]; exact h4 b o hb
theorem Kp.set {H : Nat} {L : List Nat} {W x : World} (h : Kp H L W x) {p : Addr} (hp : H ≤ p.block ∨ p.block ∈ L) (v : Value) : Kp H L W (x.setCell p v) := by
  obtain ⟨h1, h2, h3, h4⟩ := h
  refine ⟨h1, by simpa using h2, fun b o hb hl => ?_, fun b o hb => ?_⟩
  · rw [World.cell?_setCell_other _ _ _ _ (fun e => ?_)]
    · exact h3 b o hb hl
    · have e2 : p.block = b := congrArg Addr.block e
      rcases hp with h | h
      · omega
      · rw [e2] at h; exact hl h
  · rw [World.frozen?_setCell]; exact h4 b o hb
theorem Kp.after {H : Nat} {L : List Nat} {W X x : World} (h : Kp H L W X) (hb : Below X.heap.size X x) : Kp H L W x := by
  obtain ⟨h1, h2, h3, h4⟩ := h
  refine ⟨h1, Nat.le_trans h2 hb.size, fun b o hb' hl => ?_, fun b o hb' => ?_⟩
  · rw [hb.cell (p := ⟨b, o, none⟩) (by simp only []; omega)]; exact h3 b o hb' hl
  · rw [hb.frozen (p := ⟨b, o, none⟩) (by simp only []; omega)]; exact h4 b o hb'
/-- One cell of a block that is known whole is set. -/
theorem set_at {W : World} {B i : Nat} {v : Value} {xs : Array Value} (h : ∀ o, W.cell? ⟨B, o, none⟩ = xs[o]?) : ∀ o, (W.setCell ⟨B, i, none⟩ v).cell? ⟨B, o, none⟩ = (xs.setIfInBounds i v)[o]? := by
  intro o
  by_cases ho : o = i
  · subst ho
    rw [Array.getElem?_setIfInBounds_self]
    by_cases hs : o < xs.size
    · rw [if_pos hs, World.cell?_setCell_same _ _ _ (u := xs[o]) (by rw [h]; simp [hs])]
    · have h0 : W.cell? ⟨B, o, none⟩ = none := by rw [h]; simp; omega
      rw [if_neg hs]
      unfold World.setCell World.cell? at *
      simp only [Array.getElem?_modify] at *
      cases hB : W.heap[B]? with
      | none => simp
      | some O =>
        rw [hB] at h0
        cases O <;> simp_all
        have h1 := h o
        rw [Array.getElem?_eq_none hs] at h1
        simpa using h1
  · rw [World.cell?_setCell_other _ _ _ _ (by intro e; exact ho (congrArg Addr.off e).symm), h, Array.getElem?_setIfInBounds_ne (by omega)]
theorem Kp.put {H : Nat} {L : List Nat} {W x : World} {p : Addr} (hp : H ≤ p.block ∨ p.block ∈ L) (h : Kp H L W x) (v : Value) : Kp H L W (x.setCell p v) := h.set hp v
theorem Kp.later {H : Nat} {L : List Nat} {W X x : World} (hb : Below X.heap.size X x) (h : Kp H L W X) : Kp H L W x := h.after hb
end Go.Proofs.Ytkpochkfijplaaa
