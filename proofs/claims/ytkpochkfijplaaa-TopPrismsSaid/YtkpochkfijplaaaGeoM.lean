/-
  The surface of a prism in memory.
-/
import Derived.Test.YtkpochkfijplaaaGeoH
namespace Go.Proofs.Ytkpochkfijplaaa
set_option linter.all false
open Go Go.RowKit Wd
set_option maxRecDepth 100000
theorem own_set {w : World} {base : Nat} {e : TypeId} {size : Nat} {v : Value} {n : Nat} {xs : List Value} {B i : Nat} (h : w.ownsRow base e size v n xs) (hn : v.ownBlock ≠ some B) (u : Value) : (w.setCell ⟨B, i, none⟩ u).ownsRow base e size v n xs := by
  obtain ⟨h1, h2⟩ := h
  refine ⟨h1, ?_⟩
  rcases h2 with h2 | ⟨g, cap, cur, hv, hg, hh, r⟩
  · exact Or.inl h2
  · subst hv
    have hgB : g ≠ B := by simpa [Value.ownBlock] using hn
    exact Or.inr ⟨g, cap, cur, rfl, hg, by rw [Below.heap_setCell _ _ _ _ (by first | exact hgB | exact Ne.symm hgB | omega)]; exact hh, r⟩
/-- The surface under way lies in the second block of the call's own, the result in the first one. -/
structure PrS (w wr : World) (pv fv : Value) (np nf : Nat) (ps fs : List Value) : Prop where
  cell : ∀ o, wr.cell? ⟨w.heap.size + 1, o, none⟩ = (#[pv, fv] : Array Value)[o]?
  froz : ∀ o, wr.frozen? ⟨w.heap.size + 1, o, none⟩ = false
  hi : w.heap.size + 1 < wr.heap.size
  rc : ∀ o, wr.cell? ⟨w.heap.size, o, none⟩ = (#[.slice none 0 0, .slice none 0 0] : Array Value)[o]?
  rf : ∀ o, wr.frozen? ⟨w.heap.size, o, none⟩ = false
  p : wr.ownsRow (w.heap.size + 2) 61 3 pv np ps
  f : wr.ownsRow (w.heap.size + 2) 62 3 fv nf fs
  sep : pv.ownBlock = none ∨ pv.ownBlock ≠ fv.ownBlock
  below : Below w.heap.size w wr
theorem PrS.later {w wr w' : World} {pv fv : Value} {np nf : Nat} {ps fs : List Value} (h : PrS w wr pv fv np nf ps fs) (hb : Below wr.heap.size wr w') : PrS w w' pv fv np nf ps fs :=
  ⟨keep_cell hb h.hi h.cell, keep_frozen hb h.hi h.froz, keep_lt hb h.hi, keep_cell hb (Nat.lt_of_succ_lt h.hi) h.rc, keep_frozen hb (Nat.lt_of_succ_lt h.hi) h.rf, own_later h.p hb, own_later h.f hb, h.sep, below_in h.below h.below.size hb⟩
theorem PrS.pne {w wr : World} {pv fv : Value} {np nf : Nat} {ps fs : List Value} (h : PrS w wr pv fv np nf ps fs) (q : Nat) (hq : q < w.heap.size + 2) : pv.ownBlock ≠ some q := fun e => by have := (h.p.lt q e).1; omega
theorem PrS.fne {w wr : World} {pv fv : Value} {np nf : Nat} {ps fs : List Value} (h : PrS w wr pv fv np nf ps fs) (q : Nat) (hq : q < w.heap.size + 2) : fv.ownBlock ≠ some q := fun e => by have := (h.f.lt q e).1; omega
theorem own_val {w : World} {b : Nat} {e : TypeId} {size g n c : Nat} {xs : List Value} (h : w.ownsRow b e size (.slice (some ⟨g, 0, none⟩) n c) n xs) : b ≤ g ∧ g < w.heap.size := h.lt g rfl
theorem PrS.pushP {w wq w1 : World} {pv fv : Value} {np nf np' : Nat} {ps fs ps' : List Value} {g cap : Nat} (h : PrS w wq pv fv np nf ps fs)
    (hown : w1.ownsRow (w.heap.size + 2) 61 3 (.slice (some ⟨g, 0, none⟩) np' cap) np' ps') (hg : wq.grownBy w1 pv.ownBlock) (hat : pv.ownBlock = some g ∨ g = wq.heap.size) :
    PrS w (w1.setCell ⟨w.heap.size + 1, 0, none⟩ (.slice (some ⟨g, 0, none⟩) np' cap)) (.slice (some ⟨g, 0, none⟩) np' cap) fv np' nf ps' fs := by
  have b1 := hg.block (w.heap.size + 1) h.hi (fun e => h.pne _ (by omega) e.symm)
  have b2 := hg.block w.heap.size (Nat.lt_of_succ_lt h.hi) (fun e => h.pne _ (by omega) e.symm)
  have hgl := own_val hown
  have hfg : fv.ownBlock = none ∨ fv.ownBlock ≠ pv.ownBlock := by
    rcases h.sep with e | e
    · cases hf : fv.ownBlock with
      | none => exact Or.inl rfl
      | some k => right; rw [e]; simp
    · exact Or.inr (Ne.symm e)
  have hgf : fv.ownBlock ≠ some g := by
    intro e3
    rcases hat with e | e
    · rcases h.sep with e2 | e2
      · rw [e2] at e; cases e
      · rw [e, e3] at e2; exact e2 rfl
    · have := (h.f.lt g e3).2
      omega
  have hc1 : ∀ o, w1.cell? ⟨w.heap.size + 1, o, none⟩ = (#[pv, fv] : Array Value)[o]? := fun o => (World.cell?_of_block (a := ⟨w.heap.size + 1, o, none⟩) b1).trans (h.cell o)
  have hset := set_at (i := 0) (v := .slice (some ⟨g, 0, none⟩) np' cap) hc1
  refine ⟨hset, fun o => by rw [World.frozen?_setCell]; exact (World.frozen?_of_block (a := ⟨w.heap.size + 1, o, none⟩) b1).trans (h.froz o), by simpa using Nat.lt_of_lt_of_le h.hi hg.size, fun o => ?_, fun o => by rw [World.frozen?_setCell]; exact (World.frozen?_of_block (a := ⟨w.heap.size, o, none⟩) b2).trans (h.rf o), own_set hown (by simp [Value.ownBlock]; omega) _, own_set (h.f.kept hg hfg) (h.fne _ (by omega)) _, Or.inr (by rw [show (Value.slice (some ⟨g, 0, none⟩) np' cap).ownBlock = some g from rfl]; exact Ne.symm hgf), (h.below.grown hg (Nat.le_of_lt (Nat.lt_of_succ_lt h.hi)) (fun k hk => Nat.le_trans (by omega) (h.p.lt k hk).1)).setCell (Nat.le_succ _) _⟩
  rw [World.cell?_setCell_other _ _ _ _ (fun e => by have := congrArg Addr.block e; simp at this)]
  exact (World.cell?_of_block (a := ⟨w.heap.size, o, none⟩) b2).trans (h.rc o)
theorem PrS.pushF {w wq w1 : World} {pv fv : Value} {np nf nf' : Nat} {ps fs fs' : List Value} {g cap : Nat} (h : PrS w wq pv fv np nf ps fs)
    (hown : w1.ownsRow (w.heap.size + 2) 62 3 (.slice (some ⟨g, 0, none⟩) nf' cap) nf' fs') (hg : wq.grownBy w1 fv.ownBlock) (hat : fv.ownBlock = some g ∨ g = wq.heap.size) :
    PrS w (w1.setCell ⟨w.heap.size + 1, 1, none⟩ (.slice (some ⟨g, 0, none⟩) nf' cap)) pv (.slice (some ⟨g, 0, none⟩) nf' cap) np nf' ps fs' := by
  have b1 := hg.block (w.heap.size + 1) h.hi (fun e => h.fne _ (by omega) e.symm)
  have b2 := hg.block w.heap.size (Nat.lt_of_succ_lt h.hi) (fun e => h.fne _ (by omega) e.symm)
  have hgl := own_val hown
  have hgp : pv.ownBlock ≠ some g := by
    intro e3
    rcases hat with e | e
    · rcases h.sep with e2 | e2
      · rw [e2] at e3; cases e3
      · rw [e, e3] at e2; exact e2 rfl
    · have := (h.p.lt g e3).2
      omega
  have hc1 : ∀ o, w1.cell? ⟨w.heap.size + 1, o, none⟩ = (#[pv, fv] : Array Value)[o]? := fun o => (World.cell?_of_block (a := ⟨w.heap.size + 1, o, none⟩) b1).trans (h.cell o)
  have hset := set_at (i := 1) (v := .slice (some ⟨g, 0, none⟩) nf' cap) hc1
  refine ⟨hset, fun o => by rw [World.frozen?_setCell]; exact (World.frozen?_of_block (a := ⟨w.heap.size + 1, o, none⟩) b1).trans (h.froz o), by simpa using Nat.lt_of_lt_of_le h.hi hg.size, fun o => ?_, fun o => by rw [World.frozen?_setCell]; exact (World.frozen?_of_block (a := ⟨w.heap.size, o, none⟩) b2).trans (h.rf o), own_set (h.p.kept hg h.sep) (h.pne _ (by omega)) _, own_set hown (by simp [Value.ownBlock]; omega) _, Or.inr (by rw [show (Value.slice (some ⟨g, 0, none⟩) nf' cap).ownBlock = some g from rfl]; exact hgp), (h.below.grown hg (Nat.le_of_lt (Nat.lt_of_succ_lt h.hi)) (fun k hk => Nat.le_trans (by omega) (h.f.lt k hk).1)).setCell (Nat.le_succ _) _⟩
  rw [World.cell?_setCell_other _ _ _ _ (fun e => by have := congrArg Addr.block e; simp at this)]
  exact (World.cell?_of_block (a := ⟨w.heap.size, o, none⟩) b2).trans (h.rc o)
theorem infoF : (Try.prog.info? 62).map (fun i => (i.zero, i.size, i.bytes)) = some (some (.agg #[.int .i64 0, .int .i64 0, .int .i64 0]), 3, 24) := by kernel_rfl
theorem infoV : (Try.prog.info? 61).map (fun i => (i.zero, i.size, i.bytes)) = some (some (.agg #[.int .i64 0, .int .i64 0, .int .i64 0]), 3, 24) := by kernel_rfl
/-- The points' cells after i corners. -/
@[irreducible] def plL (X Y : Nat → Int) (t : Int) (i : Nat) : List Value := (List.range i).flatMap fun a => [.int .i64 (X a), .int .i64 (Y a), .int .i64 0, .int .i64 (X a), .int .i64 (Y a), .int .i64 t]
theorem plL_zero (X Y : Nat → Int) (t : Int) : plL X Y t 0 = [] := by unfold plL; rfl
theorem plL_succ (X Y : Nat → Int) (t : Int) (i : Nat) : plL X Y t (i + 1) = plL X Y t i ++ [.int .i64 (X i), .int .i64 (Y i), .int .i64 0, .int .i64 (X i), .int .i64 (Y i), .int .i64 t] := by unfold plL; rw [List.range_succ, List.flatMap_append]; simp
theorem plL_len (X Y : Nat → Int) (t : Int) : ∀ i, (plL X Y t i).length = i * 6
  | 0 => by rw [plL_zero]; rfl
  | i + 1 => by rw [plL_succ, List.length_append, plL_len X Y t i]; simp; omega
theorem plL_at (X Y : Nat → Int) (t : Int) : ∀ i j, j < i * 6 → (plL X Y t i)[j]? = some (.int .i64 (prP X Y t j))
  | 0, j, h => by omega
  | i + 1, j, h => by
    rw [plL_succ]
    rcases Nat.lt_or_ge j (i * 6) with g | g
    · rw [List.getElem?_append_left (by rw [plL_len]; exact g)]
      exact plL_at X Y t i j g
    · rw [List.getElem?_append_right (by rw [plL_len]; exact g), plL_len]
      obtain ⟨a0, a1, a2⟩ := prP_at X Y t i 0 (by omega)
      obtain ⟨b0, b1, b2⟩ := prP_at X Y t i 1 (by omega)
      rw [zt_0] at a2
      rw [zt_1] at b2
      rcases (by omega : j = (2 * i + 0) * 3 ∨ j = (2 * i + 0) * 3 + 1 ∨ j = (2 * i + 0) * 3 + 2 ∨ j = (2 * i + 1) * 3 ∨ j = (2 * i + 1) * 3 + 1 ∨ j = (2 * i + 1) * 3 + 2) with e | e | e | e | e | e
      · rw [show j - i * 6 = 0 by omega, e, a0]; rfl
      · rw [show j - i * 6 = 1 by omega, e, a1]; rfl
      · rw [show j - i * 6 = 2 by omega, e, a2]; rfl
      · rw [show j - i * 6 = 3 by omega, e, b0]; rfl
      · rw [show j - i * 6 = 4 by omega, e, b1]; rfl
      · rw [show j - i * 6 = 5 by omega, e, b2]; rfl
/-- The faces' cells after i rounds. -/
@[irreducible] def flV (n i : Nat) : List Value := (fl n i).map fun a : Nat => Value.int .i64 (a : Int)
theorem flV_zero (n : Nat) : flV n 0 = [] := by unfold flV fl; rfl
theorem flV_succ (n i k : Nat) (hk : (i + 1) % n = k) : flV n (i + 1) = (flV n i ++ [.int .i64 (2 * (i : Int)), .int .i64 (2 * (k : Int)), .int .i64 (2 * (k : Int) + 1), .int .i64 (2 * (i : Int)), .int .i64 (2 * (k : Int) + 1), .int .i64 (2 * (i : Int) + 1)]) ++
    (if 0 < i ∧ 0 < k then [.int .i64 0, .int .i64 (2 * (k : Int)), .int .i64 (2 * (i : Int)), .int .i64 1, .int .i64 (2 * (i : Int) + 1), .int .i64 (2 * (k : Int) + 1)] else []) := by
  unfold flV
  rw [show fl n (i + 1) = fl n i ++ ([2 * i, 2 * ((i + 1) % n), 2 * ((i + 1) % n) + 1, 2 * i, 2 * ((i + 1) % n) + 1, 2 * i + 1] ++ (if 0 < i ∧ 0 < (i + 1) % n then [0, 2 * ((i + 1) % n), 2 * i, 1, 2 * i + 1, 2 * ((i + 1) % n) + 1] else [])) from rfl, hk]
  by_cases h : 0 < i ∧ 0 < k
  · rw [if_pos h, if_pos h]; simp
  · rw [if_neg h, if_neg h]; simp
theorem flV_at {n : Nat} (h3 : 3 ≤ n) (hn : n ≤ 32) (j : Nat) (hj : j < (4 * n - 4) * 3) : (flV n n)[j]? = some (.int .i64 (prF n j)) := by
  have hl := fl_len h3 hn
  unfold flV prF
  rw [List.getElem?_map, List.getElem?_eq_getElem (by omega), List.getD_eq_getElem?_getD, List.getElem?_eq_getElem (by omega)]
  rfl
theorem PrS.keepP {w wq w1 : World} {pv fv : Value} {np nf : Nat} {ps fs : List Value} (h : PrS w wq pv fv np nf ps fs) (hg : wq.grownBy w1 pv.ownBlock) :
    (∀ o, w1.cell? ⟨w.heap.size + 1, o, none⟩ = (#[pv, fv] : Array Value)[o]?) ∧ (∀ o, w1.frozen? ⟨w.heap.size + 1, o, none⟩ = false) ∧ Below w.heap.size w w1 := by
  have b1 := hg.block (w.heap.size + 1) h.hi (fun e => h.pne _ (by omega) e.symm)
  exact ⟨fun o => (World.cell?_of_block (a := ⟨w.heap.size + 1, o, none⟩) b1).trans (h.cell o), fun o => (World.frozen?_of_block (a := ⟨w.heap.size + 1, o, none⟩) b1).trans (h.froz o), h.below.grown hg (Nat.le_of_lt (Nat.lt_of_succ_lt h.hi)) (fun k hk => Nat.le_trans (by omega) (h.p.lt k hk).1)⟩
theorem PrS.keepF {w wq w1 : World} {pv fv : Value} {np nf : Nat} {ps fs : List Value} (h : PrS w wq pv fv np nf ps fs) (hg : wq.grownBy w1 fv.ownBlock) :
    (∀ o, w1.cell? ⟨w.heap.size + 1, o, none⟩ = (#[pv, fv] : Array Value)[o]?) ∧ (∀ o, w1.frozen? ⟨w.heap.size + 1, o, none⟩ = false) ∧ Below w.heap.size w w1 := by
  have b1 := hg.block (w.heap.size + 1) h.hi (fun e => h.fne _ (by omega) e.symm)
  exact ⟨fun o => (World.cell?_of_block (a := ⟨w.heap.size + 1, o, none⟩) b1).trans (h.cell o), fun o => (World.frozen?_of_block (a := ⟨w.heap.size + 1, o, none⟩) b1).trans (h.froz o), h.below.grown hg (Nat.le_of_lt (Nat.lt_of_succ_lt h.hi)) (fun k hk => Nat.le_trans (by omega) (h.f.lt k hk).1)⟩
theorem set2_far {wr : World} {B g : Nat} {u v : Value} (h : B ≠ g) (s : Nat) : ((wr.setCell ⟨B, 0, none⟩ u).setCell ⟨B, 1, none⟩ v).cell? ⟨g, s, none⟩ = wr.cell? ⟨g, s, none⟩ := by
  rw [World.cell?_setCell_other _ _ _ _ (fun e => h (congrArg Addr.block e)), World.cell?_setCell_other _ _ _ _ (fun e => h (congrArg Addr.block e))]
/-- What prism returns. -/
def PrismAt (w : World) (n : Nat) (X Y : Nat → Int) (t : Int) (e : Ending) (w' : World) : Prop := ∃ g h cp cf, e = .returned (.agg #[.slice (some ⟨g, 0, none⟩) (2 * n) cp, .slice (some ⟨h, 0, none⟩) (4 * n - 4) cf]) ∧ Below w.heap.size w w' ∧ RowI w' g (2 * n * 3) (prP X Y t) ∧ RowI w' h ((4 * n - 4) * 3) (prF n) ∧ g < w'.heap.size ∧ h < w'.heap.size
set_option maxHeartbeats 8000000 in
theorem prism_any (b o n c : Nat) (X Y : Nat → Int) (t : Int) (h3 : 3 ≤ n) (h32 : n ≤ 32) (w : World) (hp : Pts w b o n X Y) :
    Calls Try.prog 10 #[.slice (some ⟨b, o, none⟩) n c, .int .i64 t] w (PrismAt w n X Y t) := by
  have HPt := Lib.hid hp
  have P0 := Lib.hid (plL_zero X Y t)
  obtain ⟨i0, hinf, hz0, hz1, hz2⟩ := info_parts infoV
  obtain ⟨j0, hjnf, jz0, jz1, jz2⟩ := info_parts infoF
  have hmx := Lib.hid (show ∀ q : Nat, q ≤ 1000 → q + 2 ≤ maxLen from fun q hq => by unfold maxLen; omega)
  clear hp
  go_enter Try.func10, Try.ntmps10
  go_wp2
  go_loopg [7] n (fun gg v wr => ∃ i : Nat, i ≤ n ∧ n - i ≤ gg ∧ v = .int .i64 (i : Int) ∧ ∃ pv, Hid (PrS w wr pv (.slice none 0 0) (2 * i) 0 (plL X Y t i) []))
  case atStart => exact ⟨0, by omega, by omega, rfl, .slice none 0 0, Lib.hid ⟨fun o => by simp [go_sem], fun o => by simp [go_sem], by simp, fun o => by simp [go_sem], fun o => by simp [go_sem], by rw [P0.out]; exact World.ownsRow_nil _ _ _ _, World.ownsRow_nil _ _ _ _, Or.inl rfl, by (repeat' (first | (with_reducible exact Below.refl _ _) | (with_reducible assumption) | (with_reducible refine below_alloc ?_ _) | (with_reducible refine Below.drew ?_) | (with_reducible refine Below.setCell ?_ ?_ _) | (with_reducible refine below_after ?_ (by assumption)) | go_size))⟩⟩
  case round =>
    obtain ⟨i, hi, hgi, rfl, pv, HR⟩ := hrel
    by_cases hlt : i < n
    · have hin : (i : Int) < (n : Int) := by omega
      have hS := Lib.hid (show ∀ x : World, Below w.heap.size w x → x.cell? ⟨b, o + i * 2, none⟩ = some (.int .i64 (X i)) ∧ x.cell? ⟨b, o + i * 2 + 1, none⟩ = some (.int .i64 (Y i)) from fun x hx => ⟨(HPt.out.later hx).x i hlt, (HPt.out.later hx).y i hlt⟩)
      have c5 := HR.out.cell
      have f5 := HR.out.froz
      have z5 := HR.out.hi
      have hbr := HR.out.below
      have hsz := hbr.size
      have HML := Lib.hid (hmx.out (2 * i) (by omega))
      have hb24 : (2 * i + 2) * 24 ≤ 140737488355328 := by omega
      have HBD := Lib.hid (show ∀ O : Obj, Below wr.heap.size wr (wr.alloc O).drew from fun O => ((Below.refl _ _).alloc (Nat.le_refl _) O).drew)
      go_upto_region 6 with (fail)
      refine wp_region_held_drew (S := fun x => x.cell? ⟨b, o + i * 2, none⟩ = some (.int .i64 (X i)) ∧ x.cell? ⟨b, o + i * 2 + 1, none⟩ = some (.int .i64 (Y i))) (by kernel_rfl) (by (refine hS.out _ ?_; (repeat (first | (with_reducible assumption) | (with_reducible refine Below.drew ?_) | ((with_reducible refine below_alloc' ?_ ?_ _); (focus (first | omega | (simp; omega)))) | ((with_reducible refine below_set' ?_ ?_ _); (focus (first | exact Nat.le_succ _ | omega))))))) (fun hHeld => ?_)
      (refine wpAnyH_take (i := 0) (v := ?tv158) rfl (by kernel_rfl) (by kernel_rfl) (by kernel_rfl) (fun _ _ _ h => h) (Or.inl ⟨by rfl, fun x hx => ?th158⟩) hHeld ?tr158; (case th158 => ((try dsimp only at hx); go_simp; (try with_reducible rfl))); (try simp only [List.getElem_toArray, List.getElem_cons_succ, List.getElem_cons_zero, Act.put, List.setIfInBounds_toArray, List.set_cons_zero, List.set_cons_succ]))
      (refine wpAnyH_take (i := 2) (v := ?tv159) rfl (by kernel_rfl) (by kernel_rfl) (by kernel_rfl) (fun _ _ _ h => h) (Or.inl ⟨by rfl, fun x hx => ?th159⟩) hHeld ?tr159; (case th159 => ((try dsimp only at hx); go_simp; (try with_reducible rfl))); (try simp only [List.getElem_toArray, List.getElem_cons_succ, List.getElem_cons_zero, Act.put, List.setIfInBounds_toArray, List.set_cons_zero, List.set_cons_succ]))
      (refine wpAnyH_take (i := 3) (v := ?tv160) rfl (by kernel_rfl) (by kernel_rfl) (by kernel_rfl) (fun _ _ _ h => h) (Or.inl ⟨by rfl, fun x hx => ?th160⟩) hHeld ?tr160; (case th160 => ((try dsimp only at hx); go_simp; (try with_reducible rfl))); (try simp only [List.getElem_toArray, List.getElem_cons_succ, List.getElem_cons_zero, Act.put, List.setIfInBounds_toArray, List.set_cons_zero, List.set_cons_succ]))
      (refine wpAnyH_take (i := 4) (v := ?tv161) rfl (by kernel_rfl) (by kernel_rfl) (by kernel_rfl) (fun _ _ _ h => h) (Or.inl ⟨by rfl, fun x hx => ?th161⟩) hHeld ?tr161; (case th161 => ((try dsimp only at hx); go_simp; (try with_reducible rfl))); (try simp only [List.getElem_toArray, List.getElem_cons_succ, List.getElem_cons_zero, Act.put, List.setIfInBounds_toArray, List.set_cons_zero, List.set_cons_succ]))
      (refine wpAnyH_take (i := 5) (v := ?tv162) rfl (by kernel_rfl) (by kernel_rfl) (by kernel_rfl) (fun _ _ _ h => h) (Or.inl ⟨by rfl, fun x hx => ?th162⟩) hHeld ?tr162; (case th162 => ((try dsimp only at hx); go_simp; (try with_reducible rfl))); (try simp only [List.getElem_toArray, List.getElem_cons_succ, List.getElem_cons_zero, Act.put, List.setIfInBounds_toArray, List.set_cons_zero, List.set_cons_succ]))
      (refine wpAnyH_take (i := 6) (v := ?tv163) rfl (by kernel_rfl) (by kernel_rfl) (by kernel_rfl) (fun _ _ _ h => h) (Or.inl ⟨by rfl, fun x hx => ?th163⟩) hHeld ?tr163; (case th163 => ((try dsimp only at hx); go_simp; (try with_reducible rfl))); (try simp only [List.getElem_toArray, List.getElem_cons_succ, List.getElem_cons_zero, Act.put, List.setIfInBounds_toArray, List.set_cons_zero, List.set_cons_succ]))
      (refine wpAnyH_take (i := 7) (v := ?tv164) rfl (by kernel_rfl) (by kernel_rfl) (by kernel_rfl) (fun _ _ _ h => h) (Or.inl ⟨by rfl, fun x hx => ?th164⟩) hHeld ?tr164; (case th164 => ((try dsimp only at hx); go_simp; (try with_reducible rfl))); (try simp only [List.getElem_toArray, List.getElem_cons_succ, List.getElem_cons_zero, Act.put, List.setIfInBounds_toArray, List.set_cons_zero, List.set_cons_succ]))
      (refine wpAnyH_take (i := 8) (v := ?tv165) rfl (by kernel_rfl) (by kernel_rfl) (by kernel_rfl) (fun _ _ _ h => h) (Or.inl ⟨by rfl, fun x hx => ?th165⟩) hHeld ?tr165; (case th165 => ((try dsimp only at hx); go_simp; (try with_reducible rfl))); (try simp only [List.getElem_toArray, List.getElem_cons_succ, List.getElem_cons_zero, Act.put, List.setIfInBounds_toArray, List.set_cons_zero, List.set_cons_succ]))
      (refine wpAnyH_take (i := 9) (v := ?tv166) rfl (by kernel_rfl) (by kernel_rfl) (by kernel_rfl) (fun _ _ _ h => h) (Or.inl ⟨by rfl, fun x hx => ?th166⟩) hHeld ?tr166; (case th166 => ((try dsimp only at hx); go_simp; (try with_reducible rfl))); (try simp only [List.getElem_toArray, List.getElem_cons_succ, List.getElem_cons_zero, Act.put, List.setIfInBounds_toArray, List.set_cons_zero, List.set_cons_succ]))
      (refine wpAnyH_take (i := 10) (v := ?tv167) rfl (by kernel_rfl) (by kernel_rfl) (by kernel_rfl) (fun _ _ _ h => h) (Or.inl ⟨by rfl, fun x hx => ?th167⟩) hHeld ?tr167; (case th167 => ((try dsimp only at hx); go_simp; (try with_reducible rfl))); (try simp only [List.getElem_toArray, List.getElem_cons_succ, List.getElem_cons_zero, Act.put, List.setIfInBounds_toArray, List.set_cons_zero, List.set_cons_succ]))
      (refine wpAnyH_take (i := 11) (v := ?tv168) rfl (by kernel_rfl) (by kernel_rfl) (by kernel_rfl) (fun _ _ _ h => h) (Or.inl ⟨by rfl, fun x hx => ?th168⟩) hHeld ?tr168; (case th168 => ((try dsimp only at hx); go_simp; (try with_reducible rfl))); (try simp only [List.getElem_toArray, List.getElem_cons_succ, List.getElem_cons_zero, Act.put, List.setIfInBounds_toArray, List.set_cons_zero, List.set_cons_succ]))
      (refine wpAnyH_take (i := 12) (v := ?tv169) rfl (by kernel_rfl) (by kernel_rfl) (by kernel_rfl) (fun _ _ _ h => h) (Or.inl ⟨by rfl, fun x hx => ?th169⟩) hHeld ?tr169; (case th169 => ((try dsimp only at hx); go_simp; (try with_reducible rfl))); (try simp only [List.getElem_toArray, List.getElem_cons_succ, List.getElem_cons_zero, Act.put, List.setIfInBounds_toArray, List.set_cons_zero, List.set_cons_succ]))
      (refine wpAnyH_take (i := 13) (v := ?tv170) rfl (by kernel_rfl) (by kernel_rfl) (by kernel_rfl) (fun _ _ _ h => h) (Or.inl ⟨by rfl, fun x hx => ?th170⟩) hHeld ?tr170; (case th170 => ((try dsimp only at hx); go_simp; (try with_reducible rfl))); (try simp only [List.getElem_toArray, List.getElem_cons_succ, List.getElem_cons_zero, Act.put, List.setIfInBounds_toArray, List.set_cons_zero, List.set_cons_succ]))
      (refine wpAnyH_take (i := 14) (v := ?tv171) rfl (by kernel_rfl) (by kernel_rfl) (by kernel_rfl) (fun _ _ _ h => h) (Or.inl ⟨by rfl, fun x hx => ?th171⟩) hHeld ?tr171; (case th171 => ((try dsimp only at hx); go_simp; (try with_reducible rfl))); (try simp only [List.getElem_toArray, List.getElem_cons_succ, List.getElem_cons_zero, Act.put, List.setIfInBounds_toArray, List.set_cons_zero, List.set_cons_succ]))
      (refine wpAnyH_take (i := 15) (v := ?tv172) rfl (by kernel_rfl) (by kernel_rfl) (by kernel_rfl) (fun _ _ _ h => h) (Or.inl ⟨by rfl, fun x hx => ?th172⟩) hHeld ?tr172; (case th172 => ((try dsimp only at hx); go_simp; (try with_reducible rfl))); (try simp only [List.getElem_toArray, List.getElem_cons_succ, List.getElem_cons_zero, Act.put, List.setIfInBounds_toArray, List.set_cons_zero, List.set_cons_succ]))
      (refine wpAnyH_take (i := 16) (v := ?tv173) rfl (by kernel_rfl) (by kernel_rfl) (by kernel_rfl) (fun _ _ _ h => h) (Or.inl ⟨by rfl, fun x hx => ?th173⟩) hHeld ?tr173; (case th173 => ((try dsimp only at hx); go_simp; (try with_reducible rfl))); (try simp only [List.getElem_toArray, List.getElem_cons_succ, List.getElem_cons_zero, Act.put, List.setIfInBounds_toArray, List.set_cons_zero, List.set_cons_succ]))
      (refine wpAnyH_take (i := 17) (v := ?tv174) rfl (by kernel_rfl) (by kernel_rfl) (by kernel_rfl) (fun _ _ _ h => h) (Or.inl ⟨by rfl, fun x hx => ?th174⟩) hHeld ?tr174; (case th174 => ((try dsimp only at hx); go_simp; (try with_reducible rfl))); (try simp only [List.getElem_toArray, List.getElem_cons_succ, List.getElem_cons_zero, Act.put, List.setIfInBounds_toArray, List.set_cons_zero, List.set_cons_succ]))
      (refine wpAnyH_take (i := 18) (v := ?tv175) rfl (by kernel_rfl) (by kernel_rfl) (by kernel_rfl) (fun _ _ _ h => h) (Or.inl ⟨by rfl, fun x hx => ?th175⟩) hHeld ?tr175; (case th175 => ((try dsimp only at hx); go_simp; (try with_reducible rfl))); (try simp only [List.getElem_toArray, List.getElem_cons_succ, List.getElem_cons_zero, Act.put, List.setIfInBounds_toArray, List.set_cons_zero, List.set_cons_succ]))
      (refine wpAnyH_take (i := 19) (v := ?tv176) rfl (by kernel_rfl) (by kernel_rfl) (by kernel_rfl) (fun _ _ _ h => h) (Or.inl ⟨by rfl, fun x hx => ?th176⟩) hHeld ?tr176; (case th176 => ((try dsimp only at hx); go_simp; (try with_reducible rfl))); (try simp only [List.getElem_toArray, List.getElem_cons_succ, List.getElem_cons_zero, Act.put, List.setIfInBounds_toArray, List.set_cons_zero, List.set_cons_succ]))
      (refine wpAnyH_take (i := 20) (v := ?tv177) rfl (by kernel_rfl) (by kernel_rfl) (by kernel_rfl) (fun _ _ _ h => h) (Or.inl ⟨by rfl, fun x hx => ?th177⟩) hHeld ?tr177; (case th177 => ((try dsimp only at hx); go_simp; (try with_reducible rfl))); (try simp only [List.getElem_toArray, List.getElem_cons_succ, List.getElem_cons_zero, Act.put, List.setIfInBounds_toArray, List.set_cons_zero, List.set_cons_succ]))
      (refine wpAnyH_take (i := 21) (v := ?tv178) rfl (by kernel_rfl) (by kernel_rfl) (by kernel_rfl) (fun _ _ _ h => h) (Or.inl ⟨by rfl, fun x hx => ?th178⟩) hHeld ?tr178; (case th178 => ((try dsimp only at hx); go_simp; (try with_reducible rfl))); (try simp only [List.getElem_toArray, List.getElem_cons_succ, List.getElem_cons_zero, Act.put, List.setIfInBounds_toArray, List.set_cons_zero, List.set_cons_succ]))
      (refine wpAnyH_take (i := 22) (v := ?tv179) rfl (by kernel_rfl) (by kernel_rfl) (by kernel_rfl) (fun _ _ _ h => h) (Or.inl ⟨by rfl, fun x hx => ?th179⟩) hHeld ?tr179; (case th179 => ((try dsimp only at hx); go_simp; (try with_reducible rfl))); (try simp only [List.getElem_toArray, List.getElem_cons_succ, List.getElem_cons_zero, Act.put, List.setIfInBounds_toArray, List.set_cons_zero, List.set_cons_succ]))
      (refine wpAnyH_take (i := 23) (v := ?tv180) rfl (by kernel_rfl) (by kernel_rfl) (by kernel_rfl) (fun _ _ _ h => h) (Or.inl ⟨by rfl, fun x hx => ?th180⟩) hHeld ?tr180; (case th180 => ((try dsimp only at hx); go_simp; (try with_reducible rfl))); (try simp only [List.getElem_toArray, List.getElem_cons_succ, List.getElem_cons_zero, Act.put, List.setIfInBounds_toArray, List.set_cons_zero, List.set_cons_succ]))
      (refine wpAnyH_take (i := 24) (v := ?tv181) rfl (by kernel_rfl) (by kernel_rfl) (by kernel_rfl) (fun _ _ _ h => h) (Or.inl ⟨by rfl, fun x hx => ?th181⟩) hHeld ?tr181; (case th181 => ((try dsimp only at hx); go_simp; (try with_reducible rfl))); (try simp only [List.getElem_toArray, List.getElem_cons_succ, List.getElem_cons_zero, Act.put, List.setIfInBounds_toArray, List.set_cons_zero, List.set_cons_succ]))
      iterate 5 (all_goals (first
        | ((refine wpAnyH_ready (rs := [1, 25]) (by decide +kernel) (by simp) (AllReadyH.cons rfl (fun K hK => ?_) (AllReadyH.cons rfl (fun K hK => ?_) AllReadyH.nil))) <;> ((first | (first | (refine step_append_lies _ (by rfl) _ _ _ (by rfl) (w.heap.size + 2) 61 i0 _ 3 24 Try.underlying34 hinf hz0 hz1 hz2 rfl (by decide) pv (2 * i) (plL X Y t i) (by rfl) ((HR.out.later (HBD.out _)).p) ⟨wr.heap.size, 0, none⟩ 2 2 [.int .i64 (X i), .int .i64 (Y i), .int .i64 0, .int .i64 (X i), .int .i64 (Y i), .int .i64 t] (by rfl) (by rfl) (World.news_of_block (cs := #[.int .i64 (X i), .int .i64 (Y i), .int .i64 0, .int .i64 (X i), .int .i64 (Y i), .int .i64 t]) (t := 61) (fr := (0, 0)) (heap_alloc_new wr _)) (by simp [Value.oneCell']) (by omega) HML.out hb24 (by simp; omega) (wr.heap.size + 1) (by simp) ?_; intro g cap v1 hown hgrow hat hltg; have HP1 := Lib.hid ((HR.out.later (HBD.out _)).pushP hown hgrow (by simpa using hat)); obtain ⟨hc5, hf5, hbel1⟩ := (HR.out.later (HBD.out _)).keepP hgrow)) | (go_simp; (first | (refine step_append_lies _ (by rfl) _ _ _ (by rfl) (w.heap.size + 2) 61 i0 _ 3 24 Try.underlying34 hinf hz0 hz1 hz2 rfl (by decide) pv (2 * i) (plL X Y t i) (by rfl) ((HR.out.later (HBD.out _)).p) ⟨wr.heap.size, 0, none⟩ 2 2 [.int .i64 (X i), .int .i64 (Y i), .int .i64 0, .int .i64 (X i), .int .i64 (Y i), .int .i64 t] (by rfl) (by rfl) (World.news_of_block (cs := #[.int .i64 (X i), .int .i64 (Y i), .int .i64 0, .int .i64 (X i), .int .i64 (Y i), .int .i64 t]) (t := 61) (fr := (0, 0)) (heap_alloc_new wr _)) (by simp [Value.oneCell']) (by omega) HML.out hb24 (by simp; omega) (wr.heap.size + 1) (by simp) ?_; intro g cap v1 hown hgrow hat hltg; have HP1 := Lib.hid ((HR.out.later (HBD.out _)).pushP hown hgrow (by simpa using hat)); obtain ⟨hc5, hf5, hbel1⟩ := (HR.out.later (HBD.out _)).keepP hgrow) | skip))); (refine hK.out _ _ ?_ (fun hNew => ?_)); (focus (refine hS.out _ ?_; (repeat (first | (with_reducible assumption) | (with_reducible refine Below.drew ?_) | ((with_reducible refine below_alloc' ?_ ?_ _); (focus (first | omega | (simp; omega)))) | ((with_reducible refine below_set' ?_ ?_ _); (focus (first | exact Nat.le_succ _ | omega))))))); clear hHeld hK K; have hHeld := hNew; clear hNew; (try simp only [List.getElem_toArray, List.getElem_cons_succ, List.getElem_cons_zero, Act.put, List.setIfInBounds_toArray, List.set_cons_zero, List.set_cons_succ])))
        | ((refine wpAnyH_ready (rs := [1]) (by decide +kernel) (by simp) (AllReadyH.cons rfl (fun K hK => ?_) AllReadyH.nil)) <;> ((first | (first | (refine step_append_lies _ (by rfl) _ _ _ (by rfl) (w.heap.size + 2) 61 i0 _ 3 24 Try.underlying34 hinf hz0 hz1 hz2 rfl (by decide) pv (2 * i) (plL X Y t i) (by rfl) ((HR.out.later (HBD.out _)).p) ⟨wr.heap.size, 0, none⟩ 2 2 [.int .i64 (X i), .int .i64 (Y i), .int .i64 0, .int .i64 (X i), .int .i64 (Y i), .int .i64 t] (by rfl) (by rfl) (World.news_of_block (cs := #[.int .i64 (X i), .int .i64 (Y i), .int .i64 0, .int .i64 (X i), .int .i64 (Y i), .int .i64 t]) (t := 61) (fr := (0, 0)) (heap_alloc_new wr _)) (by simp [Value.oneCell']) (by omega) HML.out hb24 (by simp; omega) (wr.heap.size + 1) (by simp) ?_; intro g cap v1 hown hgrow hat hltg; have HP1 := Lib.hid ((HR.out.later (HBD.out _)).pushP hown hgrow (by simpa using hat)); obtain ⟨hc5, hf5, hbel1⟩ := (HR.out.later (HBD.out _)).keepP hgrow)) | (go_simp; (first | (refine step_append_lies _ (by rfl) _ _ _ (by rfl) (w.heap.size + 2) 61 i0 _ 3 24 Try.underlying34 hinf hz0 hz1 hz2 rfl (by decide) pv (2 * i) (plL X Y t i) (by rfl) ((HR.out.later (HBD.out _)).p) ⟨wr.heap.size, 0, none⟩ 2 2 [.int .i64 (X i), .int .i64 (Y i), .int .i64 0, .int .i64 (X i), .int .i64 (Y i), .int .i64 t] (by rfl) (by rfl) (World.news_of_block (cs := #[.int .i64 (X i), .int .i64 (Y i), .int .i64 0, .int .i64 (X i), .int .i64 (Y i), .int .i64 t]) (t := 61) (fr := (0, 0)) (heap_alloc_new wr _)) (by simp [Value.oneCell']) (by omega) HML.out hb24 (by simp; omega) (wr.heap.size + 1) (by simp) ?_; intro g cap v1 hown hgrow hat hltg; have HP1 := Lib.hid ((HR.out.later (HBD.out _)).pushP hown hgrow (by simpa using hat)); obtain ⟨hc5, hf5, hbel1⟩ := (HR.out.later (HBD.out _)).keepP hgrow) | skip))); (refine hK.out _ _ ?_ (fun hNew => ?_)); (focus (refine hS.out _ ?_; (repeat (first | (with_reducible assumption) | (with_reducible refine Below.drew ?_) | ((with_reducible refine below_alloc' ?_ ?_ _); (focus (first | omega | (simp; omega)))) | ((with_reducible refine below_set' ?_ ?_ _); (focus (first | exact Nat.le_succ _ | omega))))))); clear hHeld hK K; have hHeld := hNew; clear hNew; (try simp only [List.getElem_toArray, List.getElem_cons_succ, List.getElem_cons_zero, Act.put, List.setIfInBounds_toArray, List.set_cons_zero, List.set_cons_succ])))
        | ((refine wpAnyH_ready (rs := [25]) (by decide +kernel) (by simp) (AllReadyH.cons rfl (fun K hK => ?_) AllReadyH.nil)) <;> ((first | (first | (refine step_append_lies _ (by rfl) _ _ _ (by rfl) (w.heap.size + 2) 61 i0 _ 3 24 Try.underlying34 hinf hz0 hz1 hz2 rfl (by decide) pv (2 * i) (plL X Y t i) (by rfl) ((HR.out.later (HBD.out _)).p) ⟨wr.heap.size, 0, none⟩ 2 2 [.int .i64 (X i), .int .i64 (Y i), .int .i64 0, .int .i64 (X i), .int .i64 (Y i), .int .i64 t] (by rfl) (by rfl) (World.news_of_block (cs := #[.int .i64 (X i), .int .i64 (Y i), .int .i64 0, .int .i64 (X i), .int .i64 (Y i), .int .i64 t]) (t := 61) (fr := (0, 0)) (heap_alloc_new wr _)) (by simp [Value.oneCell']) (by omega) HML.out hb24 (by simp; omega) (wr.heap.size + 1) (by simp) ?_; intro g cap v1 hown hgrow hat hltg; have HP1 := Lib.hid ((HR.out.later (HBD.out _)).pushP hown hgrow (by simpa using hat)); obtain ⟨hc5, hf5, hbel1⟩ := (HR.out.later (HBD.out _)).keepP hgrow)) | (go_simp; (first | (refine step_append_lies _ (by rfl) _ _ _ (by rfl) (w.heap.size + 2) 61 i0 _ 3 24 Try.underlying34 hinf hz0 hz1 hz2 rfl (by decide) pv (2 * i) (plL X Y t i) (by rfl) ((HR.out.later (HBD.out _)).p) ⟨wr.heap.size, 0, none⟩ 2 2 [.int .i64 (X i), .int .i64 (Y i), .int .i64 0, .int .i64 (X i), .int .i64 (Y i), .int .i64 t] (by rfl) (by rfl) (World.news_of_block (cs := #[.int .i64 (X i), .int .i64 (Y i), .int .i64 0, .int .i64 (X i), .int .i64 (Y i), .int .i64 t]) (t := 61) (fr := (0, 0)) (heap_alloc_new wr _)) (by simp [Value.oneCell']) (by omega) HML.out hb24 (by simp; omega) (wr.heap.size + 1) (by simp) ?_; intro g cap v1 hown hgrow hat hltg; have HP1 := Lib.hid ((HR.out.later (HBD.out _)).pushP hown hgrow (by simpa using hat)); obtain ⟨hc5, hf5, hbel1⟩ := (HR.out.later (HBD.out _)).keepP hgrow) | skip))); (refine hK.out _ _ ?_ (fun hNew => ?_)); (focus (refine hS.out _ ?_; (repeat (first | (with_reducible assumption) | (with_reducible refine Below.drew ?_) | ((with_reducible refine below_alloc' ?_ ?_ _); (focus (first | omega | (simp; omega)))) | ((with_reducible refine below_set' ?_ ?_ _); (focus (first | exact Nat.le_succ _ | omega))))))); clear hHeld hK K; have hHeld := hNew; clear hNew; (try simp only [List.getElem_toArray, List.getElem_cons_succ, List.getElem_cons_zero, Act.put, List.setIfInBounds_toArray, List.set_cons_zero, List.set_cons_succ])))
        | ((refine wpAnyH_ready (rs := [26]) (by decide +kernel) (by simp) (AllReadyH.cons rfl (fun K hK => ?_) AllReadyH.nil)) <;> ((first | (first | (refine step_append_lies _ (by rfl) _ _ _ (by rfl) (w.heap.size + 2) 61 i0 _ 3 24 Try.underlying34 hinf hz0 hz1 hz2 rfl (by decide) pv (2 * i) (plL X Y t i) (by rfl) ((HR.out.later (HBD.out _)).p) ⟨wr.heap.size, 0, none⟩ 2 2 [.int .i64 (X i), .int .i64 (Y i), .int .i64 0, .int .i64 (X i), .int .i64 (Y i), .int .i64 t] (by rfl) (by rfl) (World.news_of_block (cs := #[.int .i64 (X i), .int .i64 (Y i), .int .i64 0, .int .i64 (X i), .int .i64 (Y i), .int .i64 t]) (t := 61) (fr := (0, 0)) (heap_alloc_new wr _)) (by simp [Value.oneCell']) (by omega) HML.out hb24 (by simp; omega) (wr.heap.size + 1) (by simp) ?_; intro g cap v1 hown hgrow hat hltg; have HP1 := Lib.hid ((HR.out.later (HBD.out _)).pushP hown hgrow (by simpa using hat)); obtain ⟨hc5, hf5, hbel1⟩ := (HR.out.later (HBD.out _)).keepP hgrow)) | (go_simp; (first | (refine step_append_lies _ (by rfl) _ _ _ (by rfl) (w.heap.size + 2) 61 i0 _ 3 24 Try.underlying34 hinf hz0 hz1 hz2 rfl (by decide) pv (2 * i) (plL X Y t i) (by rfl) ((HR.out.later (HBD.out _)).p) ⟨wr.heap.size, 0, none⟩ 2 2 [.int .i64 (X i), .int .i64 (Y i), .int .i64 0, .int .i64 (X i), .int .i64 (Y i), .int .i64 t] (by rfl) (by rfl) (World.news_of_block (cs := #[.int .i64 (X i), .int .i64 (Y i), .int .i64 0, .int .i64 (X i), .int .i64 (Y i), .int .i64 t]) (t := 61) (fr := (0, 0)) (heap_alloc_new wr _)) (by simp [Value.oneCell']) (by omega) HML.out hb24 (by simp; omega) (wr.heap.size + 1) (by simp) ?_; intro g cap v1 hown hgrow hat hltg; have HP1 := Lib.hid ((HR.out.later (HBD.out _)).pushP hown hgrow (by simpa using hat)); obtain ⟨hc5, hf5, hbel1⟩ := (HR.out.later (HBD.out _)).keepP hgrow) | skip))); (refine hK.out _ _ ?_ (fun hNew => ?_)); (focus (refine hS.out _ ?_; (repeat (first | (with_reducible assumption) | (with_reducible refine Below.drew ?_) | ((with_reducible refine below_alloc' ?_ ?_ _); (focus (first | omega | (simp; omega)))) | ((with_reducible refine below_set' ?_ ?_ _); (focus (first | exact Nat.le_succ _ | omega))))))); clear hHeld hK K; have hHeld := hNew; clear hNew; (try simp only [List.getElem_toArray, List.getElem_cons_succ, List.getElem_cons_zero, Act.put, List.setIfInBounds_toArray, List.set_cons_zero, List.set_cons_succ])))
        | ((refine wpAnyH_ready (rs := [27]) (by decide +kernel) (by simp) (AllReadyH.cons rfl (fun K hK => ?_) AllReadyH.nil)) <;> ((first | (first | (refine step_append_lies _ (by rfl) _ _ _ (by rfl) (w.heap.size + 2) 61 i0 _ 3 24 Try.underlying34 hinf hz0 hz1 hz2 rfl (by decide) pv (2 * i) (plL X Y t i) (by rfl) ((HR.out.later (HBD.out _)).p) ⟨wr.heap.size, 0, none⟩ 2 2 [.int .i64 (X i), .int .i64 (Y i), .int .i64 0, .int .i64 (X i), .int .i64 (Y i), .int .i64 t] (by rfl) (by rfl) (World.news_of_block (cs := #[.int .i64 (X i), .int .i64 (Y i), .int .i64 0, .int .i64 (X i), .int .i64 (Y i), .int .i64 t]) (t := 61) (fr := (0, 0)) (heap_alloc_new wr _)) (by simp [Value.oneCell']) (by omega) HML.out hb24 (by simp; omega) (wr.heap.size + 1) (by simp) ?_; intro g cap v1 hown hgrow hat hltg; have HP1 := Lib.hid ((HR.out.later (HBD.out _)).pushP hown hgrow (by simpa using hat)); obtain ⟨hc5, hf5, hbel1⟩ := (HR.out.later (HBD.out _)).keepP hgrow)) | (go_simp; (first | (refine step_append_lies _ (by rfl) _ _ _ (by rfl) (w.heap.size + 2) 61 i0 _ 3 24 Try.underlying34 hinf hz0 hz1 hz2 rfl (by decide) pv (2 * i) (plL X Y t i) (by rfl) ((HR.out.later (HBD.out _)).p) ⟨wr.heap.size, 0, none⟩ 2 2 [.int .i64 (X i), .int .i64 (Y i), .int .i64 0, .int .i64 (X i), .int .i64 (Y i), .int .i64 t] (by rfl) (by rfl) (World.news_of_block (cs := #[.int .i64 (X i), .int .i64 (Y i), .int .i64 0, .int .i64 (X i), .int .i64 (Y i), .int .i64 t]) (t := 61) (fr := (0, 0)) (heap_alloc_new wr _)) (by simp [Value.oneCell']) (by omega) HML.out hb24 (by simp; omega) (wr.heap.size + 1) (by simp) ?_; intro g cap v1 hown hgrow hat hltg; have HP1 := Lib.hid ((HR.out.later (HBD.out _)).pushP hown hgrow (by simpa using hat)); obtain ⟨hc5, hf5, hbel1⟩ := (HR.out.later (HBD.out _)).keepP hgrow) | skip))); (refine hK.out _ _ ?_ (fun hNew => ?_)); (focus (refine hS.out _ ?_; (repeat (first | (with_reducible assumption) | (with_reducible refine Below.drew ?_) | ((with_reducible refine below_alloc' ?_ ?_ _); (focus (first | omega | (simp; omega)))) | ((with_reducible refine below_set' ?_ ?_ _); (focus (first | exact Nat.le_succ _ | omega))))))); clear hHeld hK K; have hHeld := hNew; clear hNew; (try simp only [List.getElem_toArray, List.getElem_cons_succ, List.getElem_cons_zero, Act.put, List.setIfInBounds_toArray, List.set_cons_zero, List.set_cons_succ])))
        | ((refine wpAnyH_ready (rs := [28]) (by decide +kernel) (by simp) (AllReadyH.cons rfl (fun K hK => ?_) AllReadyH.nil)) <;> ((first | (first | (refine step_append_lies _ (by rfl) _ _ _ (by rfl) (w.heap.size + 2) 61 i0 _ 3 24 Try.underlying34 hinf hz0 hz1 hz2 rfl (by decide) pv (2 * i) (plL X Y t i) (by rfl) ((HR.out.later (HBD.out _)).p) ⟨wr.heap.size, 0, none⟩ 2 2 [.int .i64 (X i), .int .i64 (Y i), .int .i64 0, .int .i64 (X i), .int .i64 (Y i), .int .i64 t] (by rfl) (by rfl) (World.news_of_block (cs := #[.int .i64 (X i), .int .i64 (Y i), .int .i64 0, .int .i64 (X i), .int .i64 (Y i), .int .i64 t]) (t := 61) (fr := (0, 0)) (heap_alloc_new wr _)) (by simp [Value.oneCell']) (by omega) HML.out hb24 (by simp; omega) (wr.heap.size + 1) (by simp) ?_; intro g cap v1 hown hgrow hat hltg; have HP1 := Lib.hid ((HR.out.later (HBD.out _)).pushP hown hgrow (by simpa using hat)); obtain ⟨hc5, hf5, hbel1⟩ := (HR.out.later (HBD.out _)).keepP hgrow)) | (go_simp; (first | (refine step_append_lies _ (by rfl) _ _ _ (by rfl) (w.heap.size + 2) 61 i0 _ 3 24 Try.underlying34 hinf hz0 hz1 hz2 rfl (by decide) pv (2 * i) (plL X Y t i) (by rfl) ((HR.out.later (HBD.out _)).p) ⟨wr.heap.size, 0, none⟩ 2 2 [.int .i64 (X i), .int .i64 (Y i), .int .i64 0, .int .i64 (X i), .int .i64 (Y i), .int .i64 t] (by rfl) (by rfl) (World.news_of_block (cs := #[.int .i64 (X i), .int .i64 (Y i), .int .i64 0, .int .i64 (X i), .int .i64 (Y i), .int .i64 t]) (t := 61) (fr := (0, 0)) (heap_alloc_new wr _)) (by simp [Value.oneCell']) (by omega) HML.out hb24 (by simp; omega) (wr.heap.size + 1) (by simp) ?_; intro g cap v1 hown hgrow hat hltg; have HP1 := Lib.hid ((HR.out.later (HBD.out _)).pushP hown hgrow (by simpa using hat)); obtain ⟨hc5, hf5, hbel1⟩ := (HR.out.later (HBD.out _)).keepP hgrow) | skip))); (refine hK.out _ _ ?_ (fun hNew => ?_)); (focus (refine hS.out _ ?_; (repeat (first | (with_reducible assumption) | (with_reducible refine Below.drew ?_) | ((with_reducible refine below_alloc' ?_ ?_ _); (focus (first | omega | (simp; omega)))) | ((with_reducible refine below_set' ?_ ?_ _); (focus (first | exact Nat.le_succ _ | omega))))))); clear hHeld hK K; have hHeld := hNew; clear hNew; (try simp only [List.getElem_toArray, List.getElem_cons_succ, List.getElem_cons_zero, Act.put, List.setIfInBounds_toArray, List.set_cons_zero, List.set_cons_succ])))))
      all_goals (refine wpAnyH_done (by kernel_rfl) ?_ _; clear hHeld)
      all_goals
        go_wp2
        go_roundg (n - (i + 1))
        case rel => exact ⟨i + 1, by omega, by omega, by go_num, _, Lib.hid (by rw [show 2 * (i + 1) = 2 * i + 2 by omega, plL_succ]; exact HP1.out)⟩
        case measure => omega
    · obtain rfl : i = n := by omega
      have hin : ¬ (i : Int) < (i : Int) := by omega
      have F0 := Lib.hid (flV_zero i)
      have FS := Lib.hid (flV_succ i)
      have FA := Lib.hid (flV_at h3 h32)
      have FL := Lib.hid (show (flV i i).length = (4 * i - 4) * 3 by unfold flV; rw [List.length_map]; exact fl_len h3 h32)
      go_wp2
      obtain ⟨wo, rfl⟩ : ∃ wo : World, wo = wr := ⟨_, rfl⟩
      go_loopg [8] i (fun gg v wr => ∃ j : Nat, j ≤ i ∧ i - j ≤ gg ∧ v = .int .i64 (j : Int) ∧ ∃ fv nf, nf ≤ 4 * j ∧ Hid (PrS w wr pv fv (2 * i) nf (plL X Y t i) (flV i j)))
      case atStart => exact ⟨0, by omega, by omega, rfl, .slice none 0 0, 0, by omega, Lib.hid (by rw [F0.out]; exact HR.out)⟩
      case round =>
        clear HR hgi hin hi
        obtain ⟨q, hq, hgq, rfl, fv, nf, hnf, HR⟩ := hrel
        by_cases hqt : q < i
        · have hqi : (q : Int) < (i : Int) := by omega
          obtain ⟨j, hj⟩ : ∃ j, j = (q + 1) % i := ⟨_, rfl⟩
          have l1 : j < i := by rw [hj]; exact Nat.mod_lt _ (by omega)
          have q1 : ((q : Int) + 1).tmod (i : Int) = (j : Int) := by rw [hj]; exact tmod_nat q 1 i
          have q1' : ((q : Int) + 1) % (i : Int) = (j : Int) := by rw [hj]; exact emod_nat q 1 i
          have l1' : (j : Int) < (i : Int) := by omega
          have hi0 : i ≠ 0 := by omega
          have HS := Lib.hid (FS.out q j hj.symm)
          have c5 := HR.out.cell
          have f5 := HR.out.froz
          have z5 := HR.out.hi
          have hsz := HR.out.below.size
          have HML := Lib.hid (hmx.out nf (by omega))
          have HA := Lib.hid (show ∀ O : Obj, PrS w (wr.alloc O) pv fv (2 * i) nf (plL X Y t i) (flV i q) from fun O => HR.out.later (below_alloc (Below.refl _ _) O))
          clear hj FS
          go_wp2_with (first | (at_builtin; refine wpList_append_lies _ rfl _ _ 35 rfl (w.heap.size + 2) 62 j0 (.agg #[.int .i64 0, .int .i64 0, .int .i64 0]) 3 24 Try.underlying35 hjnf jz0 jz1 jz2 rfl (by decide) fv nf (flV i q) rfl ((HA.out _).f) ⟨_, 0, none⟩ 2 2 [.int .i64 (2 * (q : Int)), .int .i64 (2 * (j : Int)), .int .i64 (2 * (j : Int) + 1), .int .i64 (2 * (q : Int)), .int .i64 (2 * (j : Int) + 1), .int .i64 (2 * (q : Int) + 1)] rfl rfl (World.news_of_block (fr := (0, 0)) (heap_alloc_new _ _)) (by simp [Value.oneCell']) (by omega) HML.out (by omega) (by simp; omega) _ rfl ?_) | go_in)
          intro g cap v1 hown hgrow hat hlt
          have HP1 := Lib.hid ((HA.out _).pushF hown hgrow (by simpa using hat))
          obtain ⟨hc5, hf5, hbel1⟩ := (HA.out _).keepF hgrow
          have hz5 := Nat.lt_of_lt_of_le (HA.out _).hi hgrow.size
          clear hown hgrow hat hlt HA c5 f5 z5 HR
          go_upto_region 12 with (fail)
          refine wp_world (fun x => Hid (PrS w x pv (.slice (some ⟨g, 0, none⟩) (nf + 2) cap) (2 * i) (nf + 2) (plL X Y t i) (flV i q ++ [.int .i64 (2 * (q : Int)), .int .i64 (2 * (j : Int)), .int .i64 (2 * (j : Int) + 1), .int .i64 (2 * (q : Int)), .int .i64 (2 * (j : Int) + 1), .int .i64 (2 * (q : Int) + 1)]))) HP1 ?_
          clear HP1 hc5 hf5 hbel1 hz5 q1 q1'
          rintro D HD
          have c5 := HD.out.cell
          have f5 := HD.out.froz
          have z5 := HD.out.hi
          have hsz := HD.out.below.size
          by_cases h1 : 0 < q
          · by_cases h2 : 0 < j
            · have h1' : (0 : Int) < (q : Int) := by omega
              have h2' : (0 : Int) < (j : Int) := by omega
              have HML2 := Lib.hid (hmx.out (nf + 2) (by omega))
              have HE := Lib.hid (show flV i (q + 1) = (flV i q ++ [.int .i64 (2 * (q : Int)), .int .i64 (2 * (j : Int)), .int .i64 (2 * (j : Int) + 1), .int .i64 (2 * (q : Int)), .int .i64 (2 * (j : Int) + 1), .int .i64 (2 * (q : Int) + 1)]) ++ [.int .i64 0, .int .i64 (2 * (j : Int)), .int .i64 (2 * (q : Int)), .int .i64 1, .int .i64 (2 * (q : Int) + 1), .int .i64 (2 * (j : Int) + 1)] by rw [HS.out, if_pos ⟨h1, h2⟩])
              have HA := Lib.hid (show ∀ O : Obj, PrS w (D.alloc O) pv (.slice (some ⟨g, 0, none⟩) (nf + 2) cap) (2 * i) (nf + 2) (plL X Y t i) (flV i q ++ [.int .i64 (2 * (q : Int)), .int .i64 (2 * (j : Int)), .int .i64 (2 * (j : Int) + 1), .int .i64 (2 * (q : Int)), .int .i64 (2 * (j : Int) + 1), .int .i64 (2 * (q : Int) + 1)]) from fun O => HD.out.later (below_alloc (Below.refl _ _) O))
              clear HS
              go_wp2_with (first | (at_builtin; refine wpList_append_lies _ rfl _ _ 35 rfl (w.heap.size + 2) 62 j0 (.agg #[.int .i64 0, .int .i64 0, .int .i64 0]) 3 24 Try.underlying35 hjnf jz0 jz1 jz2 rfl (by decide) (.slice (some ⟨g, 0, none⟩) (nf + 2) cap) (nf + 2) (flV i q ++ [.int .i64 (2 * (q : Int)), .int .i64 (2 * (j : Int)), .int .i64 (2 * (j : Int) + 1), .int .i64 (2 * (q : Int)), .int .i64 (2 * (j : Int) + 1), .int .i64 (2 * (q : Int) + 1)]) rfl ((HA.out _).f) ⟨_, 0, none⟩ 2 2 [.int .i64 0, .int .i64 (2 * (j : Int)), .int .i64 (2 * (q : Int)), .int .i64 1, .int .i64 (2 * (q : Int) + 1), .int .i64 (2 * (j : Int) + 1)] rfl rfl (World.news_of_block (fr := (0, 0)) (heap_alloc_new _ _)) (by simp [Value.oneCell']) (by omega) HML2.out (by omega) (by simp; omega) _ rfl ?_) | go_in)
              intro g' cap' v2 hown hgrow hat hlt
              have HP1 := Lib.hid ((HA.out _).pushF hown hgrow (by simpa using hat))
              obtain ⟨hc5, hf5, hbel1⟩ := (HA.out _).keepF hgrow
              have hz5 := Nat.lt_of_lt_of_le (HA.out _).hi hgrow.size
              clear hown hgrow hat hlt HA c5 f5 z5 HD
              go_wp2
              go_roundg (i - (q + 1))
              case rel => exact ⟨q + 1, by omega, by omega, by go_num, _, nf + 2 + 2, by omega, Lib.hid (by rw [HE.out, List.append_assoc]; exact HP1.out)⟩
              case measure => omega
            · have hj0 : j = 0 := by omega
              have HE := Lib.hid (show flV i (q + 1) = flV i q ++ [.int .i64 (2 * (q : Int)), .int .i64 (2 * (j : Int)), .int .i64 (2 * (j : Int) + 1), .int .i64 (2 * (q : Int)), .int .i64 (2 * (j : Int) + 1), .int .i64 (2 * (q : Int) + 1)] by rw [HS.out, if_neg (by omega), List.append_nil])
              subst hj0
              have h1' : (0 : Int) < (q : Int) := by omega
              clear HS
              go_wp2
              go_roundg (i - (q + 1))
              case rel => exact ⟨q + 1, by omega, by omega, by go_num, _, nf + 2, by omega, Lib.hid (by rw [HE.out]; exact HD.out)⟩
              case measure => omega
          · have hq0 : q = 0 := by omega
            have HE := Lib.hid (show flV i (q + 1) = flV i q ++ [.int .i64 (2 * (q : Int)), .int .i64 (2 * (j : Int)), .int .i64 (2 * (j : Int) + 1), .int .i64 (2 * (q : Int)), .int .i64 (2 * (j : Int) + 1), .int .i64 (2 * (q : Int) + 1)] by rw [HS.out, if_neg (by omega), List.append_nil])
            subst hq0
            clear HS
            go_wp2
            go_roundg (i - (0 + 1))
            case rel => exact ⟨0 + 1, by omega, by omega, by go_num, _, nf + 2, by omega, Lib.hid (by rw [HE.out]; exact HD.out)⟩
            case measure => omega
        · obtain rfl : q = i := by omega
          have hqi : ¬ (q : Int) < (q : Int) := by omega
          have hnf2 : nf = 4 * q - 4 := by
            have h1 := HR.out.f.1
            rw [FL.out] at h1
            omega
          subst hnf2
          obtain ⟨g, cp, rfl, g1, g2⟩ := HR.out.p.form (by omega)
          obtain ⟨h, cf, rfl, k1, k2⟩ := HR.out.f.form (by omega)
          have c5 := HR.out.cell
          have f5 := HR.out.froz
          have z5 := HR.out.hi
          have c4 := HR.out.rc
          have f4 := HR.out.rf
          have z4 := Nat.lt_of_succ_lt z5
          have RP := Lib.hid (show ∀ s, s < 2 * q * 3 → wr.cell? ⟨g, s, none⟩ = some (.int .i64 (prP X Y t s)) from fun s hs => by rw [HR.out.p.cellAt s (by omega)]; exact plL_at X Y t q s (by omega))
          have RF := Lib.hid (show ∀ s, s < (4 * q - 4) * 3 → wr.cell? ⟨h, s, none⟩ = some (.int .i64 (prF q s)) from fun s hs => by rw [HR.out.f.cellAt s (by omega)]; exact FA.out s (by omega))
          have gl := (HR.out.p.lt g rfl).1
          have hl := (HR.out.f.lt h rfl).1
          have HB := Lib.hid HR.out.below
          clear HR FA FL FS F0
          go_wp2_with fail
          have e0 := set2_at (v0 := .slice (some ⟨g, 0, none⟩) (2 * q) cp) (v1 := .slice (some ⟨h, 0, none⟩) (4 * q - 4) cf) c4
          refine bodyPost_ret (by simp [results, Try.results10, go_sem, e0, c4, f4, z4]; try rfl) rfl ?_
          exact ⟨g, h, cp, cf, rfl, below_set2 (Nat.le_refl _) HB.out, fun s hs => (set2_far (by omega) s).trans (RP.out s hs), fun s hs => (set2_far (by omega) s).trans (RF.out s hs), by simpa using g2, by simpa using k2⟩
end Go.Proofs.Ytkpochkfijplaaa
