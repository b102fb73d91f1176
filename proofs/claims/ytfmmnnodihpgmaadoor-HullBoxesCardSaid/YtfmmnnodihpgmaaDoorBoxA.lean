/-
  A form that is being made in memory: rows of one number, one after the other.
-/
import Derived.Test.YtfmmnnodihpgmaaDoorMeshD
namespace Go.Proofs.YtfmmnnodihpgmaaDoor
set_option linter.all false
open Go Go.RowKit Wd
set_option maxRecDepth 100000
theorem own_below {w w' : World} {base B : Nat} {e : TypeId} {size n : Nat} {v : Value} {xs : List Value} (h : w.ownsRow base e size v n xs) (hv : ∀ k, v.ownBlock = some k → k < B) (hb : Below B w w') : w'.ownsRow base e size v n xs := by
  obtain ⟨h1, h2⟩ := h
  refine ⟨h1, ?_⟩
  rcases h2 with h2 | ⟨g, cap, cur, rfl, hg, hh, r⟩
  · exact Or.inl h2
  · refine Or.inr ⟨g, cap, cur, rfl, hg, ?_, r⟩
    rw [hb.block g (hv g (by simp [Value.ownBlock]))]
    exact hh
/-- The form lies in block B; its rows' slices are its own; each row is there, whole. -/
structure Bx (b0 : Nat) (w0 w : World) (B : Nat) (vx vz hv : Value) (n m : Nat) (A : Nat → Option Addr) (C : Nat → Nat) (b : Int) : Prop where
  cell : ∀ o, w.cell? ⟨B, o, none⟩ = (#[vx, vz, hv] : Array Value)[o]?
  froz : ∀ o, w.frozen? ⟨B, o, none⟩ = false
  lo : b0 ≤ B
  hi : B < w.heap.size
  own : w.ownsRow b0 22 1 hv n ((List.range n).map fun j => .slice (A j) m (C j))
  sh : hv.ownBlock ≠ some B
  row : ∀ j, j < n → 0 < m → ∃ g, A j = some ⟨g, 0, none⟩ ∧ g < w.heap.size ∧ hv.ownBlock ≠ some g ∧ g ≠ B ∧ b0 ≤ g ∧ ∀ k, k < m → w.cell? ⟨g, k, none⟩ = some (.int .i64 b)
  below : Below b0 w0 w
theorem Bx.later {b0 : Nat} {w0 w w' : World} {B : Nat} {vx vz hv : Value} {n m : Nat} {A : Nat → Option Addr} {C : Nat → Nat} {b : Int} (h : Bx b0 w0 w B vx vz hv n m A C b) (hb : Below w.heap.size w w') : Bx b0 w0 w' B vx vz hv n m A C b :=
  ⟨keep_cell hb h.hi h.cell, keep_frozen hb h.hi h.froz, h.lo, keep_lt hb h.hi, own_below h.own (fun k hk => (h.own.lt k hk).2) hb, h.sh,
    fun j hj hm => by
      obtain ⟨g, e1, e2, e3, e4, e5, e6⟩ := h.row j hj hm
      exact ⟨g, e1, keep_lt hb e2, e3, e4, e5, fun k hk => (hb.cell (p := ⟨g, k, none⟩) e2).trans (e6 k hk)⟩,
    h.below.trans (hb.mono (Nat.le_trans h.lo (Nat.le_of_lt h.hi)))⟩
theorem Bx.congr {b0 : Nat} {w0 w : World} {B : Nat} {vx vz hv : Value} {n m : Nat} {A A' : Nat → Option Addr} {C C' : Nat → Nat} {b : Int} (h : Bx b0 w0 w B vx vz hv n m A C b) (hA : ∀ j, j < n → A' j = A j) (hC : ∀ j, j < n → C' j = C j) : Bx b0 w0 w B vx vz hv n m A' C' b :=
  ⟨h.cell, h.froz, h.lo, h.hi, by
      have e : (List.range n).map (fun j => Value.slice (A' j) m (C' j)) = (List.range n).map fun j => .slice (A j) m (C j) := List.map_congr_left fun j hj => by rw [hA j (List.mem_range.1 hj), hC j (List.mem_range.1 hj)]
      rw [e]; exact h.own, h.sh, fun j hj hm => by rw [hA j hj]; exact h.row j hj hm, h.below⟩
/-- One row more. -/
theorem Bx.push {b0 : Nat} {w0 w w1 : World} {B : Nat} {vx vz hv : Value} {n m : Nat} {A : Nat → Option Addr} {C : Nat → Nat} {b : Int} {g cap : Nat} {a : Option Addr} {c : Nat} (h : Bx b0 w0 w B vx vz hv n m A C b)
    (hrow : 0 < m → ∃ q, a = some ⟨q, 0, none⟩ ∧ q < w.heap.size ∧ hv.ownBlock ≠ some q ∧ q ≠ B ∧ b0 ≤ q ∧ ∀ k, k < m → w.cell? ⟨q, k, none⟩ = some (.int .i64 b))
    (hown : w1.ownsRow b0 22 1 (.slice (some ⟨g, 0, none⟩) (n + 1) cap) (n + 1) ((List.range n).map (fun j => .slice (A j) m (C j)) ++ [.slice a m c])) (hg : w.grownBy w1 hv.ownBlock) (hat : hv.ownBlock = some g ∨ g = w.heap.size) :
    Bx b0 w0 (w1.setCell ⟨B, 2, none⟩ (.slice (some ⟨g, 0, none⟩) (n + 1) cap)) B vx vz (.slice (some ⟨g, 0, none⟩) (n + 1) cap) (n + 1) m (fun j => if j < n then A j else a) (fun j => if j < n then C j else c) b := by
  have hi := h.hi
  have hblk := hg.block B hi (fun e => h.sh e.symm)
  have hgB : g ≠ B := by
    rcases hat with e | e
    · intro e2; rw [e2] at e; exact h.sh e
    · omega
  have hc1 : ∀ o, w1.cell? ⟨B, o, none⟩ = (#[vx, vz, hv] : Array Value)[o]? := fun o => (World.cell?_of_block (a := ⟨B, o, none⟩) hblk).trans (h.cell o)
  have hf1 : ∀ o, w1.frozen? ⟨B, o, none⟩ = false := fun o => (World.frozen?_of_block (a := ⟨B, o, none⟩) hblk).trans (h.froz o)
  have hset := set_at (i := 2) (v := .slice (some ⟨g, 0, none⟩) (n + 1) cap) hc1
  have keep : ∀ q, q < w.heap.size → hv.ownBlock ≠ some q → q ≠ B → (∀ k, k < m → w.cell? ⟨q, k, none⟩ = some (.int .i64 b)) → ∀ k, k < m → (w1.setCell ⟨B, 2, none⟩ (.slice (some ⟨g, 0, none⟩) (n + 1) cap)).cell? ⟨q, k, none⟩ = some (.int .i64 b) := by
    intro q h1 h2 h3 h4 k hk
    rw [World.cell?_setCell_other _ _ _ _ (fun e => h3 (congrArg Addr.block e).symm)]
    exact (World.cell?_of_block (a := ⟨q, k, none⟩) (hg.block q h1 (fun e => h2 e.symm))).trans (h4 k hk)
  have gq : ∀ q, q < w.heap.size → hv.ownBlock ≠ some q → (Value.slice (some ⟨g, 0, none⟩) (n + 1) cap).ownBlock ≠ some q := by
    intro q h1 h2
    simp only [Value.ownBlock]
    intro e
    have e' : g = q := by simpa using e
    rcases hat with e2 | e2
    · rw [e'] at e2; exact h2 e2
    · omega
  refine ⟨hset, fun o => by rw [World.frozen?_setCell]; exact hf1 o, h.lo, by simpa using Nat.lt_of_lt_of_le hi hg.size, ?_, by simpa [Value.ownBlock] using hgB, ?_, ?_⟩
  · have e : (List.range (n + 1)).map (fun j => Value.slice (if j < n then A j else a) m (if j < n then C j else c)) = (List.range n).map (fun j => .slice (A j) m (C j)) ++ [.slice a m c] := by
      rw [List.range_succ, List.map_append]
      congr 1
      · exact List.map_congr_left fun j hj => by have := List.mem_range.1 hj; simp [this]
      · simp
    rw [e]
    exact own_set hown (by simpa [Value.ownBlock] using hgB) _
  · intro j hj hm
    by_cases hjn : j < n
    · obtain ⟨q, e1, e2, e3, e4, e5, e6⟩ := h.row j hjn hm
      refine ⟨q, by simp only [hjn, if_true]; exact e1, by simpa using Nat.lt_of_lt_of_le e2 hg.size, gq q e2 e3, e4, e5, keep q e2 e3 e4 e6⟩
    · obtain ⟨q, e1, e2, e3, e4, e5, e6⟩ := hrow hm
      refine ⟨q, by simp only [hjn, if_false]; exact e1, by simpa using Nat.lt_of_lt_of_le e2 hg.size, gq q e2 e3, e4, e5, keep q e2 e3 e4 e6⟩
  · exact (h.below.grown hg (Nat.le_trans h.lo (Nat.le_of_lt hi)) (fun k hk => (h.own.lt k hk).1)).setCell h.lo _
theorem row_repl {n m j : Nat} {b : Int} (hj : j < n) : row (List.replicate n (List.replicate m b)) j = List.replicate m b := by
  rw [row_get (by simpa using hj), List.getElem_replicate]
theorem ix_repl {m k : Nat} {b : Int} (hk : k < m) : ix (List.replicate m b) k = b := by
  rw [ix_get (by simpa using hk), List.getElem_replicate]
theorem Bx.rows {b0 : Nat} {w0 w : World} {B : Nat} {vx vz hv : Value} {n m : Nat} {A : Nat → Option Addr} {C : Nat → Nat} {b : Int} (h : Bx b0 w0 w B vx vz hv n m A C b) :
    ∃ a c, hv = .slice a n c ∧ HasRws w a A C (List.replicate n (List.replicate m b)) := by
  by_cases h0 : 0 < n
  · obtain ⟨g, cap, rfl, hg, hl⟩ := h.own.form h0
    refine ⟨some ⟨g, 0, none⟩, cap, rfl, fun _ => ⟨g, 0, rfl, hl, fun i hi => ?_, fun i hi hm => ?_⟩⟩
    · have hi' : i < n := by simpa using hi
      rw [Nat.zero_add, h.own.cellAt i (by omega), row_repl hi']
      simp [hi']
    · have hi' : i < n := by simpa using hi
      rw [row_repl hi'] at hm ⊢
      obtain ⟨q, e1, e2, -, -, -, e6⟩ := h.row i hi' (by simpa using hm)
      refine ⟨q, 0, e1, e2, fun k hk => ?_⟩
      have hk' : k < m := by simpa using hk
      rw [Nat.zero_add, ix_repl hk']
      exact e6 k hk'
  · obtain rfl : n = 0 := by omega
    obtain ⟨a, k, c, rfl⟩ := own_slice h.own
    rcases h.own.2 with ⟨h2, _⟩ | ⟨g, cap, cur, hv2, _⟩
    · cases h2
      exact ⟨none, 0, rfl, fun h => by simp at h⟩
    · cases hv2
      exact ⟨_, _, rfl, fun h => by simp at h⟩
end Go.Proofs.YtfmmnnodihpgmaaDoor
