/-
  What the reference's side returns.
  What package hull's band, right, level, half, station and Half return, for all forms.
  Two slices of fractions that a call makes side by side; what a hull's outline holds.
  What the reference's Same of two surfaces returns, where both hold the same.
  Two slices of fractions that a call makes side by side, and the rows that they hold.
  What package hydro's corners returns at a waterline's height.
  Sums and products of fractions in the forms that hydro's chain takes them, each brought to a denominator of one's own.
  The surface of a hull, no program in sight: its edges, each of which occurs once, and the opposite one too; what it encloses; its moment about the middle.
  (Written by wip/pack.py out of XFMeshR, XFHullD, XFOutA, XFMeshS, XFHyH, XFHyI, XFNumA, XFSurfM.)
-/
import Derived.Test.YthikaimhmpenhaaDoorK28
import Derived.Test.YthikaimhmpenhaaDoorK25
import Derived.Test.YthikaimhmpenhaaDoorK11
import Derived.Test.YthikaimhmpenhaaDoorK24
import Derived.Deep.QuietTactic
import Derived.BigQuiet
import Derived.WalkKit

namespace Go.Proofs.YthikaimhmpenhaaDoor
set_option linter.all false
open Go Go.RowKit Wd
set_option maxRecDepth 100000
theorem rowP_len (X Z : List Int) (H : List (List Int)) (s : Int) (i : Nat) : ∀ k, (rowP X Z H s i k).length = 3 * k
  | 0 => by rw [rowP_zero]; rfl
  | k + 1 => by rw [rowP_succ, List.length_append, rowP_len X Z H s i k]; simp [vec3]; omega
theorem sideP_pos (X Z : List Int) (H : List (List Int)) (s : Int) (hx : 0 < X.length) (hz : 0 < Z.length) : 0 < (sideP X Z H s X.length).length := by
  obtain ⟨n, hn⟩ : ∃ n, X.length = n + 1 := ⟨X.length - 1, by omega⟩
  rw [hn, sideP_succ, List.length_append, rowP_len]; omega
theorem rowP_int (X Z : List Int) (H : List (List Int)) (s : Int) (i : Nat) : ∀ k, ∀ u ∈ rowP X Z H s i k, ∃ z, u = .int .i64 z
  | 0 => by rw [rowP_zero]; simp
  | k + 1 => by
    rw [rowP_succ]
    intro u hu
    rcases List.mem_append.1 hu with h | h
    · exact rowP_int X Z H s i k u h
    · simp [vec3] at h; rcases h with h | h | h <;> exact ⟨_, h⟩
theorem sideP_int (X Z : List Int) (H : List (List Int)) (s : Int) : ∀ i, ∀ u ∈ sideP X Z H s i, ∃ z, u = .int .i64 z
  | 0 => by rw [sideP_zero]; simp
  | i + 1 => by
    rw [sideP_succ]
    intro u hu
    rcases List.mem_append.1 hu with h | h
    · exact sideP_int X Z H s i u h
    · exact rowP_int X Z H s i _ u h
theorem own_n {w : World} {base : Nat} {e : TypeId} {size n : Nat} {v : Value} {xs : List Value} (h : w.ownsRow base e size v n xs) (hx : 0 < xs.length) : 0 < n := by
  rw [h.1] at hx
  exact Nat.pos_of_mul_pos_right hx
end Go.Proofs.YthikaimhmpenhaaDoor

namespace Go.Proofs.YthikaimhmpenhaaDoor
set_option linter.all false
open Go Go.RowKit Wd
set_option maxRecDepth 100000
end Go.Proofs.YthikaimhmpenhaaDoor

namespace Go.Proofs.YthikaimhmpenhaaDoor
set_option linter.all false
open Go Go.RowKit Wd
set_option maxRecDepth 100000
theorem own_later {w w' : World} {base : Nat} {e : TypeId} {size : Nat} {v : Value} {n : Nat} {xs : List Value} (h : w.ownsRow base e size v n xs) (hb : Below w.heap.size w w') : w'.ownsRow base e size v n xs := by
  have hlt := h.lt
  obtain ⟨h1, h2⟩ := h
  refine ⟨h1, ?_⟩
  rcases h2 with h2 | ⟨g, cap, cur, hv, hg, hh, r⟩
  · exact Or.inl h2
  · have := (hlt g (by rw [hv]; rfl)).2
    exact Or.inr ⟨g, cap, cur, hv, hg, by rw [hb.block g this]; exact hh, r⟩
theorem below_inO {b0 : Nat} {a W x : World} (h : Below b0 a W) (hs : b0 ≤ W.heap.size) (hb : Below W.heap.size W x) : Below b0 a x := h.trans (hb.mono hs)
structure Two (b0 : Nat) (w0 w : World) (xv yv : Value) (nx ny : Nat) (xs ys : List Value) : Prop where
  x : w.ownsRow b0 39 10 xv nx xs
  y : w.ownsRow b0 39 10 yv ny ys
  sep : ∀ k, xv.ownBlock = some k → yv.ownBlock ≠ some k
  below : Below b0 w0 w
  base : b0 ≤ w.heap.size
theorem Two.later {b0 : Nat} {w0 w w' : World} {xv yv : Value} {nx ny : Nat} {xs ys : List Value} (h : Two b0 w0 w xv yv nx ny xs ys) (hb : Below w.heap.size w w') : Two b0 w0 w' xv yv nx ny xs ys :=
  ⟨own_later h.x hb, own_later h.y hb, h.sep, below_inO h.below h.base hb, Nat.le_trans h.base hb.size⟩
theorem Two.alloc {b0 : Nat} {w0 w : World} {xv yv : Value} {nx ny : Nat} {xs ys : List Value} (h : Two b0 w0 w xv yv nx ny xs ys) (O : Obj) : Two b0 w0 (w.alloc O) xv yv nx ny xs ys := h.later ((Below.refl _ _).alloc (Nat.le_refl _) O)
end Go.Proofs.YthikaimhmpenhaaDoor

namespace Go.Proofs.YthikaimhmpenhaaDoor
set_option linter.all false
open Go Go.RowKit Wd
set_option maxRecDepth 100000
def RowI (w : World) (b n : Nat) (F : Nat → Int) : Prop := ∀ j, j < n → w.cell? ⟨b, j, none⟩ = some (.int .i64 (F j))
theorem own_row {w : World} {base : Nat} {e : TypeId} {v : Value} {n : Nat} {xs : List Value} (h : w.ownsRow base e 3 v n xs) (hx : 0 < xs.length) (hi : ∀ u ∈ xs, ∃ z, u = .int .i64 z) :
    ∃ g cap, v = .slice (some ⟨g, 0, none⟩) n cap ∧ g < w.heap.size ∧ xs.length = n * 3 ∧ RowI w g (n * 3) (fun j => intOf (xs.getD j (.int .i64 0))) := by
  have hn := own_n h hx
  obtain ⟨g, cp, rfl, hg, hl⟩ := h.form hn
  refine ⟨g, cp, rfl, hl, h.1, fun j hj => ?_⟩
  have hj' : j < xs.length := by rw [h.1]; exact hj
  rw [h.cellAt j hj]
  obtain ⟨z, hz⟩ := hi _ (List.getElem_mem hj')
  rw [List.getElem?_eq_getElem hj']
  simp [List.getD, hj', hz, intOf]
end Go.Proofs.YthikaimhmpenhaaDoor

namespace Go.Proofs.YthikaimhmpenhaaDoor
set_option linter.all false
open Go Go.RowKit Wd
set_option maxRecDepth 100000
theorem Two.pushX {b0 : Nat} {w0 w w1 : World} {xv yv : Value} {nx ny nx' : Nat} {xs ys xs' : List Value} {g cap : Nat} (h : Two b0 w0 w xv yv nx ny xs ys)
    (hown : w1.ownsRow b0 39 10 (.slice (some ⟨g, 0, none⟩) nx' cap) nx' xs') (hg : w.grownBy w1 xv.ownBlock) (hat : xv.ownBlock = some g ∨ g = w.heap.size) :
    Two b0 w0 w1 (.slice (some ⟨g, 0, none⟩) nx' cap) yv nx' ny xs' ys := by
  refine ⟨hown, h.y.kept hg ?_, ?_, h.below.grown hg h.base (fun k hk => (h.x.lt k hk).1), Nat.le_trans h.base hg.size⟩
  · cases hy : yv.ownBlock with
    | none => exact Or.inl rfl
    | some k => exact Or.inr (fun e => h.sep k e.symm hy)
  · intro k hk hy
    have hk' : g = k := by simpa [Value.ownBlock] using hk
    subst hk'
    rcases hat with e | e
    · exact h.sep g e hy
    · have := (h.y.lt g hy).2; omega
theorem Two.pushY {b0 : Nat} {w0 w w1 : World} {xv yv : Value} {nx ny ny' : Nat} {xs ys ys' : List Value} {g cap : Nat} (h : Two b0 w0 w xv yv nx ny xs ys)
    (hown : w1.ownsRow b0 39 10 (.slice (some ⟨g, 0, none⟩) ny' cap) ny' ys') (hg : w.grownBy w1 yv.ownBlock) (hat : yv.ownBlock = some g ∨ g = w.heap.size) :
    Two b0 w0 w1 xv (.slice (some ⟨g, 0, none⟩) ny' cap) nx ny' xs ys' := by
  refine ⟨h.x.kept hg ?_, hown, ?_, h.below.grown hg h.base (fun k hk => (h.y.lt k hk).1), Nat.le_trans h.base hg.size⟩
  · cases hx : xv.ownBlock with
    | none => exact Or.inl rfl
    | some k => exact Or.inr (fun e => h.sep k hx e.symm)
  · intro k hk hy
    have hk' : g = k := by simpa [Value.ownBlock] using hy
    subst hk'
    rcases hat with e | e
    · exact h.sep g hk e
    · have := (h.x.lt g hk).2; omega
theorem infoR : (Tryd.prog.info? 39).map (fun i => (i.zero, i.size, i.bytes)) = some (some (.agg #[.bool false, .int .u64 0, .int .u64 0, .int .u64 0, .int .u64 0, .bool false, .int .u64 0, .int .u64 0, .int .u64 0, .int .u64 0]), 10, 80) := by kernel_rfl
@[irreducible] def rowC (g : Nat → Fr) (n : Nat) : List Value := (List.range n).flatMap fun i => [.bool ((g i).s), .int .u64 ((((g i).a) : Nat) : Int), .int .u64 0, .int .u64 0, .int .u64 0, .bool false, .int .u64 ((((g i).d) : Nat) : Int), .int .u64 0, .int .u64 0, .int .u64 0]
theorem rowC_zero (g : Nat → Fr) : rowC g 0 = [] := by unfold rowC; rfl
theorem rowC_succ (g : Nat → Fr) (n : Nat) : rowC g (n + 1) = rowC g n ++ [.bool ((g n).s), .int .u64 ((((g n).a) : Nat) : Int), .int .u64 0, .int .u64 0, .int .u64 0, .bool false, .int .u64 ((((g n).d) : Nat) : Int), .int .u64 0, .int .u64 0, .int .u64 0] := by unfold rowC; rw [List.range_succ, List.flatMap_append]; simp
theorem rowC_len (g : Nat → Fr) : ∀ n, (rowC g n).length = n * 10
  | 0 => by rw [rowC_zero]; rfl
  | n + 1 => by rw [rowC_succ, List.length_append, rowC_len g n]; simp; omega
theorem rowC_at (g : Nat → Fr) (i k : Nat) (hk : k < 10) : ∀ n, i < n → (rowC g n)[i * 10 + k]? = (#[.bool ((g i).s), .int .u64 ((((g i).a) : Nat) : Int), .int .u64 0, .int .u64 0, .int .u64 0, .bool false, .int .u64 ((((g i).d) : Nat) : Int), .int .u64 0, .int .u64 0, .int .u64 0] : Array Value)[k]?
  | 0, h => by omega
  | n + 1, h => by
    rw [rowC_succ]
    by_cases e : i = n
    · subst e
      rw [List.getElem?_append_right (by rw [rowC_len]; omega), rowC_len, Nat.add_sub_cancel_left]
      simp
    · rw [List.getElem?_append_left (by rw [rowC_len]; omega)]
      exact rowC_at g i k hk n (by omega)
theorem own_rf {w : World} {base n : Nat} {v : Value} {g : Nat → Fr} (h : w.ownsRow base 39 10 v n (rowC g n)) (hn : 0 < n) : ∃ b c, v = .slice (some ⟨b, 0, none⟩) n c ∧ base ≤ b ∧ Rf w b n g := by
  obtain ⟨b, c, rfl, hg, hl⟩ := h.form hn
  refine ⟨b, c, rfl, hg, hl, fun i hi k hk => ?_⟩
  rw [h.cellAt _ (by omega), Nat.zero_add]
  exact rowC_at g i k hk n hi
@[irreducible] def pk1 (x : Fr) (_ : Nat) : Fr := x
theorem pk1_0 (x : Fr) (i : Nat) : pk1 x i = x := by unfold pk1; rfl
theorem rf1_new (x : World) (T : TypeId) (u : Fr) : Rf (x.alloc (.cells #[.bool ((u).s), .int .u64 ↑u.a, .int .u64 0, .int .u64 0, .int .u64 0, .bool false, .int .u64 ↑u.d, .int .u64 0, .int .u64 0, .int .u64 0] T)) x.heap.size 1 (pk1 u) := by
  refine ⟨by simp, fun i hi k hk => ?_⟩
  rw [new_cells]
  match i, hi with
  | 0, _ =>
    simp only [pk1_0]
    match k, hk with
    | 0, _ | 1, _ | 2, _ | 3, _ | 4, _ | 5, _ | 6, _ | 7, _ | 8, _ | 9, _ => rfl
theorem rf1_news {w : World} {b : Nat} {u : Fr} (h : Rf w b 1 (pk1 u)) : ∀ j v, ([.bool ((u).s), .int .u64 ↑u.a, .int .u64 0, .int .u64 0, .int .u64 0, .bool false, .int .u64 ↑u.d, .int .u64 0, .int .u64 0, .int .u64 0] : List Value)[j]? = some v → w.cell? ((⟨b, 0, none⟩ : Addr).add j) = some v := fun j v hv => by
  have hadd : (⟨b, 0, none⟩ : Addr).add j = ⟨b, j, none⟩ := by unfold Addr.add; split <;> simp_all
  have hj : j < 10 := by
    rcases Nat.lt_or_ge j 10 with h' | h'
    · exact h'
    · rw [List.getElem?_eq_none (by simpa using h')] at hv; cases hv
  have := h.at' 0 (by omega) j hj
  simp only [pk1_0, Nat.zero_mul, Nat.zero_add] at this
  rw [hadd, this]
  simpa using hv
end Go.Proofs.YthikaimhmpenhaaDoor

namespace Go.Proofs.YthikaimhmpenhaaDoor
set_option linter.all false
open Go Go.RowKit Wd
set_option maxRecDepth 100000
def CrM (w : World) (fx fz fh : Value) (z : Int) (j : Nat) (wr : World) : Prop :=
  (∀ o, wr.cell? ⟨w.heap.size, o, none⟩ = (#[fx, fz, fh] : Array Value)[o]?) ∧ (∀ o, wr.cell? ⟨w.heap.size + 1, o, none⟩ = (#[.int .i64 z] : Array Value)[o]?) ∧ (∀ o, wr.cell? ⟨w.heap.size + 1 + 1, o, none⟩ = (#[.int .i64 (j : Int)] : Array Value)[o]?)
  ∧ (∀ o, wr.frozen? ⟨w.heap.size, o, none⟩ = false) ∧ (∀ o, wr.frozen? ⟨w.heap.size + 1, o, none⟩ = false) ∧ (∀ o, wr.frozen? ⟨w.heap.size + 1 + 1, o, none⟩ = false) ∧ w.heap.size + 1 + 1 < wr.heap.size ∧ Below w.heap.size w wr
theorem CrM.later {w wr x : World} {fx fz fh : Value} {z : Int} {j : Nat} (h : CrM w fx fz fh z j wr) (hb : Below wr.heap.size wr x) : CrM w fx fz fh z j x := by
  obtain ⟨c0, c1, c2, f0, f1, f2, z1, b⟩ := h
  exact ⟨keep_cell hb (by omega) c0, keep_cell hb (by omega) c1, keep_cell hb (by omega) c2, keep_frozen hb (by omega) f0, keep_frozen hb (by omega) f1, keep_frozen hb (by omega) f2, keep_lt hb z1, below_after b hb⟩
theorem CrM.drewN {w wr : World} {fx fz fh : Value} {z : Int} {j : Nat} (h : CrM w fx fz fh z j wr) (n : Nat) : CrM w fx fz fh z j (wr.drewN n) := h.later (below_drewN' (Below.refl _ _) n)
set_option maxHeartbeats 8000000 in
theorem corners_whole (bX oX cX bZ oZ cZ bH oH cH : Nat) (A : Nat → Option Addr) (C : Nat → Nat) (X Z : List Int) (H : List (List Int)) (k : Nat) (z : Int) (gx gy : Nat → Fr)
    (hx1 : 1 ≤ X.length) (hx24 : X.length ≤ 24) (hk : k < Z.length) (hz16 : Z.length ≤ 16) (hlow : ∀ j, j ≤ k → ix Z j ≤ z) (hz : ix Z k = z) (hup : k + 1 < Z.length → z < ix Z (k + 1)) (hl : H.length = X.length) (hr : ∀ i, i < H.length → (row H i).length = Z.length)
    (ox : ∀ i, i < X.length → OfC (ix X i) 1 (gx i)) (oy : ∀ i, i < X.length → OfC (ix (row H i) k) 1 (gy i)) (w : World) (hT : Tab64 w) (hX : Ints w bX oX X) (hZ : Ints w bZ oZ Z) (hH : Rws w bH oH A C H) :
    Calls Tryd.prog 55 #[.agg #[.slice (some ⟨bX, oX, none⟩) X.length cX, .slice (some ⟨bZ, oZ, none⟩) Z.length cZ, .slice (some ⟨bH, oH, none⟩) H.length cH], .int .i64 z] w fun e w' =>
      ∃ b c b' c', e = .returned (.tuple #[.slice (some ⟨b, 0, none⟩) X.length c, .slice (some ⟨b', 0, none⟩) X.length c']) ∧ Below w.heap.size w w' ∧ Rf w' b X.length gx ∧ Rf w' b' X.length gy := by
  have HX := Lib.hid hX
  have HZ := Lib.hid hZ
  have HH := Lib.hid hH
  have HT := Lib.hid hT
  have OX := Lib.hid ox
  have OY := Lib.hid oy
  have HL := Lib.hid hlow
  have HU := Lib.hid hup
  have HR := Lib.hid hr
  have HN := Lib.hid hl
  have HZZ := Lib.hid hz
  have HML := Lib.hid (show ∀ q : Nat, q ≤ 1000 → q + 1 ≤ maxLen from fun q hq => by unfold maxLen; omega)
  obtain ⟨i0, hinf, hi0, hi1, hi2⟩ := info_parts infoR
  have hkZ : (k : Int) < (Z.length : Int) := by omega
  have hz16' : (Z.length : Int) ≤ 16 := by omega
  clear hX hZ hH hT ox oy hlow hup hr hl hz
  go_enter Tryd.func55, Tryd.ntmps55
  go_upto_region 2 with (fail)
  go_loopg [] (k + 1) (fun gg wr => ∃ j : Nat, j ≤ k ∧ k + 1 - j ≤ gg ∧ Hid (CrM w (.slice (some ⟨bX, oX, none⟩) X.length cX) (.slice (some ⟨bZ, oZ, none⟩) Z.length cZ) (.slice (some ⟨bH, oH, none⟩) H.length cH) z j wr))
  case atStart => exact ⟨0, by omega, by omega, Lib.hid ⟨fun o => by simp [go_sem], fun o => by simp [go_sem], fun o => by simp [go_sem], fun o => by simp [go_sem], fun o => by simp [go_sem], fun o => by simp [go_sem], by simp, by (repeat' first | (with_reducible first | exact Bq0 | assumption | refine Bq1 ?_ | refine Bq2 ?_ | refine Bq3 ?_ ?_ | refine Bq4 ?_ (by assumption)) | go_size)⟩⟩
  case round =>
    obtain ⟨j, hj, hgj, HI⟩ := hrel
    by_cases hlt : j < k
    · have hjk : (j : Int) + 1 < (Z.length : Int) := by omega
      have z1 := ((HZ.out.later HI.out.2.2.2.2.2.2.2).cell (j + 1) (by omega))
      have zb := HL.out (j + 1) (by omega)
      obtain ⟨c0, c1, c2, f0, f1, f2, q, b⟩ := HI.out
      generalize ix Z (j + 1) = zj at *
      go_upto_region 2 with (fail)
      go_quiet (fail)
      clear z1 zb
      go_wp2
      go_roundg (k + 1 - (j + 1))
      case measure => omega
      case rel =>
        exact ⟨j + 1, by omega, by omega, Lib.hid ⟨keep_cell_c (by simp only []; omega) (fun o => c0 o), keep_cell_c (by simp only []; omega) (fun o => c1 o), fun o => set_at (xs := #[.int .i64 (j : Int)]) (fun o => c2 o) o, keep_frozen_c (fun o => f0 o), keep_frozen_c (fun o => f1 o), keep_frozen_c (fun o => f2 o), by simpa using q, Below.setCell (below_drewN' b _) (by simp only []; omega) _⟩⟩
    · obtain rfl : j = k := by omega
      obtain ⟨c0, c1, c2, f0, f1, f2, q, b⟩ := HI.out
      go_upto_region 2 with (fail)
      go_cut [25] (fun v wx => v = .bool false ∧ Hid (CrM w (.slice (some ⟨bX, oX, none⟩) X.length cX) (.slice (some ⟨bZ, oZ, none⟩) Z.length cZ) (.slice (some ⟨bH, oH, none⟩) H.length cH) z j wx))
      case first =>
        by_cases hj1 : j + 1 < Z.length
        · have hjk : (j : Int) + 1 < (Z.length : Int) := by omega
          have z1 := ((HZ.out.later b).cell (j + 1) (by omega))
          have zb := HU.out hj1
          generalize ix Z (j + 1) = zj at *
          go_quiet (fail)
          go_wp2
          go_meet
          case rel => exact ⟨congrArg Value.bool (decide_eq_false (by omega)), Lib.hid (HI.out.drewN _)⟩
        · have hjk : ¬ (j : Int) + 1 < (Z.length : Int) := by omega
          go_quiet (fail)
          go_wp2
          go_meet
          case rel => exact ⟨rfl, Lib.hid (HI.out.drewN _)⟩
      case rest =>
        obtain ⟨rfl, HJ⟩ := hcut
        clear c0 c1 c2 f0 f1 f2 q b HI
        obtain ⟨c0, c1, c2, f0, f1, f2, q, b⟩ := HJ.out
        have hjZ : (j : Int) < (Z.length : Int) := by omega
        have KA := fun (x : World) (hx : Below wc.heap.size wc x) => And.intro (HJ.out.later hx).1 (And.intro (HJ.out.later hx).2.1 (And.intro (HJ.out.later hx).2.2.1 ((((HZ.out.later b).later hx).cell j hk).trans (congrArg (fun u => some (Value.int .i64 u)) HZZ.out))))
        go_upto_region 4 with (fail)
        refine wp_region_kn 8 [.val (.pointer (some ⟨w.heap.size, 1, none⟩)), .val (.slice (some ⟨bZ, oZ, none⟩) Z.length cZ), .val (.int .i64 (j : Int)), .val (.pointer (some ⟨bZ, oZ + j, none⟩)), .val (.int .i64 z), .val (.int .i64 z), .val (.bool true), .new (wc.heap.size) (#[.bool false])] wc (by kernel_rfl) (by kernel_rfl) (by kernel_rfl) (by kernel_rfl) (by kernel_rfl) (by decide) (Below.refl _ _) ?_ ?_
        · refine steps_next (n := 0) ⟨_, by rfl, fun vals x hx hj => ?_⟩ ?_
          · have hk := KA x hx; clear hj; refine kn_val hx ?_; simp only [putF, dstO, Act.put]; go_simp
          refine steps_next (n := 1) ⟨_, by rfl, fun vals x hx hj => ?_⟩ ?_
          · have hk := KA x hx; have e0 : _ = _ := hj 0 (by decide +kernel); clear hj; refine kn_val hx ?_; simp only [putF, dstO, Act.put]; (try simp only [e0]); go_simp
          refine steps_next (n := 2) ⟨_, by rfl, fun vals x hx hj => ?_⟩ ?_
          · have hk := KA x hx; clear hj; refine kn_val hx ?_; simp only [putF, dstO, Act.put]; go_simp; (try first | with_reducible rfl | (intros; omega) | (simp only [IntKind.wrap_i64]; omega))
          refine steps_next (n := 3) ⟨_, by rfl, fun vals x hx hj => ?_⟩ ?_
          · have hk := KA x hx; have e1 : _ = _ := hj 1 (by decide +kernel); have e2 : _ = _ := hj 2 (by decide +kernel); clear hj; refine kn_val hx ?_; simp only [putF, dstO, Act.put]; (try simp only [e1, e2]); go_simp; (try first | with_reducible rfl | (intros; omega) | (simp only [IntKind.wrap_i64]; omega))
          refine steps_next (n := 4) ⟨_, by rfl, fun vals x hx hj => ?_⟩ ?_
          · have hk := KA x hx; have e3 : _ = _ := hj 3 (by decide +kernel); clear hj; refine kn_val hx ?_; simp only [putF, dstO, Act.put]; (try simp only [e3]); go_simp; (try first | with_reducible rfl | (intros; omega) | (simp only [IntKind.wrap_i64]; omega))
          refine steps_next (n := 5) ⟨_, by rfl, fun vals x hx hj => ?_⟩ ?_
          · have hk := KA x hx; clear hj; refine kn_val hx ?_; simp only [putF, dstO, Act.put]; go_simp; (try first | with_reducible rfl | (intros; omega) | (simp only [IntKind.wrap_i64]; omega))
          refine steps_next (n := 6) ⟨_, by rfl, fun vals x hx hj => ?_⟩ ?_
          · have hk := KA x hx; have e4 : _ = _ := hj 4 (by decide +kernel); have e5 : _ = _ := hj 5 (by decide +kernel); clear hj; refine kn_val hx ?_; simp only [putF, dstO, Act.put]; (try simp only [e4, e5]); go_simp
          refine steps_next (n := 7) ⟨_, by rfl, fun vals x hx hj => ?_⟩ ?_
          · have hk := KA x hx; clear hj; refine kn_new (T := 4) hx (hx.size) ?_; simp only [putF, dstO, Act.put]; go_simp
          exact steps_end
        intro vals wcx hwcx hv
        have hkwcx := KA wcx hwcx
        have e0 : _ = _ := hv 0 (by omega)
        have e1 : _ = _ := hv 1 (by omega)
        have e2 : _ = _ := hv 2 (by omega)
        have e3 : _ = _ := hv 3 (by omega)
        have e4 : _ = _ := hv 4 (by omega)
        have e5 : _ = _ := hv 5 (by omega)
        have e6 : _ = _ := hv 6 (by omega)
        obtain ⟨b7, e7, y7, z7, C7, F7⟩ := hv 7 (by omega)
        clear hv
        simp only [putF, dstO, Act.put]
        (try simp only [e0, e1, e2, e3, e4, e5, e6, e7])
        refine wpAny_ready (rs := [8]) (by decide +kernel) (by simp) (AllReady.cons rfl (fun KK hKK => ?_) AllReady.nil)
        go_simp
        (refine hKK _ _ ?_); clear hKK KK; (try simp only [Nq1, Nq2, Nq3, Act.put, Nq4, Nq5, Nq6])
        refine wpAny_done (by kernel_rfl) ?_ _
        have M := HJ.out.later hwcx
        clear c0 c1 c2 f0 f1 f2 b HJ KA hkwcx
        obtain ⟨c0, c1, c2, f0, f1, f2, qx, b⟩ := M
        have hws := hwcx.size
        clear hwcx
        go_upto_region 6 with (fail)
        refine wp_world (fun x => (∀ o, x.cell? ⟨w.heap.size, o, none⟩ = (#[.slice (some ⟨bX, oX, none⟩) X.length cX, .slice (some ⟨bZ, oZ, none⟩) Z.length cZ, .slice (some ⟨bH, oH, none⟩) H.length cH] : Array Value)[o]?) ∧ (∀ o, x.cell? ⟨w.heap.size + 1, o, none⟩ = (#[.int .i64 z] : Array Value)[o]?) ∧ (∀ o, x.cell? ⟨w.heap.size + 1 + 1, o, none⟩ = (#[.int .i64 (j : Int)] : Array Value)[o]?) ∧ (∀ o, x.cell? ⟨b7, o, none⟩ = (#[.bool true] : Array Value)[o]?) ∧ (∀ o, x.frozen? ⟨w.heap.size, o, none⟩ = false) ∧ (∀ o, x.frozen? ⟨w.heap.size + 1, o, none⟩ = false) ∧ (∀ o, x.frozen? ⟨w.heap.size + 1 + 1, o, none⟩ = false) ∧ (∀ o, x.frozen? ⟨b7, o, none⟩ = false) ∧ w.heap.size < x.heap.size ∧ w.heap.size + 1 < x.heap.size ∧ w.heap.size + 1 + 1 < x.heap.size ∧ b7 < x.heap.size ∧ Below w.heap.size w x) ⟨keep_cell_c (by simp only []; omega) c0, keep_cell_c (by simp only []; omega) c1, keep_cell_c (by simp only []; omega) c2, fun o => set_at (xs := #[.bool false]) C7 o, fun o => by simp [go_sem, f0, f1, f2, F7], fun o => by simp [go_sem, f0, f1, f2, F7], fun o => by simp [go_sem, f0, f1, f2, F7], fun o => by simp [go_sem, f0, f1, f2, F7], by (first | omega | (simp [go_sem, f0, f1, f2, F7]; done) | (simp [go_sem, f0, f1, f2, F7]; omega)), by (first | omega | (simp [go_sem, f0, f1, f2, F7]; done) | (simp [go_sem, f0, f1, f2, F7]; omega)), by (first | omega | (simp [go_sem, f0, f1, f2, F7]; done) | (simp [go_sem, f0, f1, f2, F7]; omega)), by (first | omega | (simp [go_sem, f0, f1, f2, F7]; done) | (simp [go_sem, f0, f1, f2, F7]; omega)), by (repeat' first | (with_reducible first | exact Bq0 | assumption | refine Bq1 ?_ | refine Bq2 ?_ | refine Bq3 ?_ ?_ | refine Bq4 ?_ (by assumption)) | go_size)⟩ ?_
        rintro G ⟨hGc0, hGc1, hGc2, hGc3, hGf0, hGf1, hGf2, hGf3, hGz0, hGz1, hGz2, hGz3, hGb⟩
        have lX := HX.out.lt
        have lH := HH.out.lt
        have hGs := hGb.size
        have HTG := Lib.hid (HT.out.later hGb)
        have HXG := Lib.hid (HX.out.later hGb)
        have HHG := Lib.hid (HH.out.later hGb)
        clear c0 c1 c2 C7 F7 f0 f1 f2 q qx b z7 y7 hws lX lH
        have hFm := Lib.hid (show ∀ x : World, Below G.heap.size G x → (∀ o, x.cell? ⟨w.heap.size, o, none⟩ = (#[.slice (some ⟨bX, oX, none⟩) X.length cX, .slice (some ⟨bZ, oZ, none⟩) Z.length cZ, .slice (some ⟨bH, oH, none⟩) H.length cH] : Array Value)[o]?) ∧ (∀ o, x.cell? ⟨w.heap.size + 1 + 1, o, none⟩ = (#[.int .i64 (j : Int)] : Array Value)[o]?) ∧ (∀ o, x.cell? ⟨b7, o, none⟩ = (#[.bool true] : Array Value)[o]?) from fun x hb => ⟨keep_cell hb hGz0 hGc0, keep_cell hb hGz2 hGc2, keep_cell hb hGz3 hGc3⟩)
        have D0 := Lib.hid (show Two G.heap.size G G (.slice none 0 0) (.slice none 0 0) 0 0 (rowC gx 0) (rowC gy 0) from ⟨by rw [rowC_zero]; exact World.ownsRow_nil _ _ _ _, by rw [rowC_zero]; exact World.ownsRow_nil _ _ _ _, by simp [Value.ownBlock], Below.refl _ _, Nat.le_refl _⟩)
        go_wp2
        go_loopg [4, 5, 39] X.length (fun gg xv yv v wr => ∃ i : Nat, i ≤ X.length ∧ X.length - i ≤ gg ∧ v = .int .i64 (i : Int) ∧ Hid (Two G.heap.size G wr xv yv i i (rowC gx i) (rowC gy i)))
        case atStart => exact ⟨0, by omega, by omega, rfl, D0⟩
        case round =>
          obtain ⟨i, hi, hgi, rfl, HT2⟩ := hrel
          clear hgj
          by_cases hlt : i < X.length
          · have hiX : (i : Int) < (X.length : Int) := by omega
            have iH : i < H.length := by have := HN.out; omega
            have hiH : (i : Int) < (H.length : Int) := by omega
            have hbl := HT2.out.below
            have hbase := HT2.out.base
            have f0 := (hFm.out _ hbl).1
            have xc := (HXG.out.later hbl).cell i hlt
            have O1 := Lib.hid (fun w hT => OX.out i hlt w hT)
            have O2 := Lib.hid (fun w hT => OY.out i hlt w hT)
            generalize ix X i = xi at *
            go_upto_region 9 with (fail)
            go_wp2_with (first | (go_at_call 37; (with_reducible refine (O1.out _ (HTG.out.later hbl)).mono ?_); rintro e o1 ⟨rfl, hbo1⟩; have HD1 := Lib.hid (HT2.out.later hbo1)) | (at_builtin; refine wpList_append_lies _ rfl _ _ 87 rfl G.heap.size 39 i0 (.agg #[.bool false, .int .u64 0, .int .u64 0, .int .u64 0, .int .u64 0, .bool false, .int .u64 0, .int .u64 0, .int .u64 0, .int .u64 0]) 10 80 Tryd.underlying87 hinf hi0 hi1 hi2 rfl (by decide) u4 i (rowC gx i) rfl ((HD1.out.alloc _).x) ⟨o1.heap.size, 0, none⟩ 1 1 [.bool ((gx i).s), .int .u64 ((((gx i).a) : Nat) : Int), .int .u64 0, .int .u64 0, .int .u64 0, .bool false, .int .u64 ((((gx i).d) : Nat) : Int), .int .u64 0, .int .u64 0, .int .u64 0] rfl rfl (rf1_news (rf1_new o1 _ (gx i))) (by simp [Value.oneCell']) (by omega) (HML.out _ (by omega)) (by omega) (by have := HD1.out.base; simp; omega) _ rfl ?_))
            intro g capg v1 howng hgrowg hatg hltg
            have HD2 := Lib.hid ((HD1.out.alloc _).pushX howng hgrowg (by simpa using hatg))
            have hbl2 := HD2.out.below
            have f7 := (hFm.out _ hbl2).2.2
            go_upto_region 11 with (fail)
            obtain ⟨bR, oR, eA, hRow⟩ := HHG.out.row i iH (by rw [HR.out i iH]; omega)
            have hrl : oR + j < oR + Z.length := by omega
            have KA := fun (x : World) (hx : Below v1.heap.size v1 x) => And.intro (hFm.out x (hbl2.trans (hx.mono hbl2.size))).1 (And.intro (hFm.out x (hbl2.trans (hx.mono hbl2.size))).2.1 (And.intro ((((HHG.out.later hbl2).later hx).cell i iH).trans (by rw [eA, HR.out i iH])) (((hRow.later hbl2).later hx).cell j (by rw [HR.out i iH]; omega))))
            have TA := Lib.hid (HTG.out.later hbl2)
            generalize ix (row H i) j = hv at *
            refine wp_region_kn 11 [.val (u5), .val (.pointer (some ⟨w.heap.size, 2, none⟩)), .val (.slice (some ⟨bH, oH, none⟩) H.length cH), .val (.int .i64 (i : Int)), .val (.pointer (some ⟨bH, oH + i, none⟩)), .val (.slice (some ⟨bR, oR, none⟩) Z.length (C i)), .val (.int .i64 (j : Int)), .val (.pointer (some ⟨bR, oR + j, none⟩)), .val (.int .i64 hv), .val ((.agg #[.bool ((gy i).s), .int .u64 ((((gy i).a) : Nat) : Int), .int .u64 0, .int .u64 0, .int .u64 0, .bool false, .int .u64 ((((gy i).d) : Nat) : Int), .int .u64 0, .int .u64 0, .int .u64 0])), .row (1) (pk1 (gy i))] v1 (by kernel_rfl) (by kernel_rfl) (by kernel_rfl) (by kernel_rfl) (by kernel_rfl) (by decide) (Below.refl _ _) ?_ ?_
            · refine steps_next (n := 0) ⟨_, by rfl, fun vals x hx hj => ?_⟩ ?_
              · have hk := KA x hx; clear hj; refine kn_val hx ?_; simp only [putF, dstO, Act.put]; go_simp
              refine steps_next (n := 1) ⟨_, by rfl, fun vals x hx hj => ?_⟩ ?_
              · have hk := KA x hx; clear hj; refine kn_val hx ?_; simp only [putF, dstO, Act.put]; go_simp
              refine steps_next (n := 2) ⟨_, by rfl, fun vals x hx hj => ?_⟩ ?_
              · have hk := KA x hx; have e1 : _ = _ := hj 1 (by decide +kernel); clear hj; refine kn_val hx ?_; simp only [putF, dstO, Act.put]; (try simp only [e1]); go_simp
              refine steps_next (n := 3) ⟨_, by rfl, fun vals x hx hj => ?_⟩ ?_
              · have hk := KA x hx; clear hj; refine kn_val hx ?_; simp only [putF, dstO, Act.put]; go_simp; (try first | with_reducible rfl | (intros; omega) | (simp only [IntKind.wrap_i64]; omega))
              refine steps_next (n := 4) ⟨_, by rfl, fun vals x hx hj => ?_⟩ ?_
              · have hk := KA x hx; have e2 : _ = _ := hj 2 (by decide +kernel); have e3 : _ = _ := hj 3 (by decide +kernel); clear hj; refine kn_val hx ?_; simp only [putF, dstO, Act.put]; (try simp only [e2, e3]); go_simp; (try first | with_reducible rfl | (intros; omega) | (simp only [IntKind.wrap_i64]; omega))
              refine steps_next (n := 5) ⟨_, by rfl, fun vals x hx hj => ?_⟩ ?_
              · have hk := KA x hx; have e4 : _ = _ := hj 4 (by decide +kernel); clear hj; refine kn_val hx ?_; simp only [putF, dstO, Act.put]; (try simp only [e4]); go_simp
              refine steps_next (n := 6) ⟨_, by rfl, fun vals x hx hj => ?_⟩ ?_
              · have hk := KA x hx; clear hj; refine kn_val hx ?_; simp only [putF, dstO, Act.put]; go_simp; (try first | with_reducible rfl | (intros; omega) | (simp only [IntKind.wrap_i64]; omega))
              refine steps_next (n := 7) ⟨_, by rfl, fun vals x hx hj => ?_⟩ ?_
              · have hk := KA x hx; have e5 : _ = _ := hj 5 (by decide +kernel); have e6 : _ = _ := hj 6 (by decide +kernel); clear hj; refine kn_val hx ?_; simp only [putF, dstO, Act.put]; (try simp only [e5, e6]); go_simp; (try first | with_reducible rfl | (intros; omega) | (simp only [IntKind.wrap_i64]; omega))
              refine steps_next (n := 8) ⟨_, by rfl, fun vals x hx hj => ?_⟩ ?_
              · have hk := KA x hx; have e7 : _ = _ := hj 7 (by decide +kernel); clear hj; refine kn_val hx ?_; simp only [putF, dstO, Act.put]; (try simp only [e7]); go_simp; (try first | with_reducible rfl | (intros; omega) | (simp only [IntKind.wrap_i64]; omega))
              refine steps_next (n := 9) ⟨_, by rfl, fun vals x hx hj => ?_⟩ ?_
              · have hk := KA x hx; have e8 : _ = _ := hj 8 (by decide +kernel); clear hj; refine kn_call hx (O2.out x (TA.out.later hx)) ?_; simp only [putF, dstO, Act.put]; (try simp only [e8]); go_simp
              refine steps_next (n := 10) ⟨_, by rfl, fun vals x hx hj => ?_⟩ ?_
              · have hk := KA x hx; have e9 : _ = _ := hj 9 (by decide +kernel); clear hj; refine kn_row (c := 1) hx (rf1_new x 39 (gy i)) ?_; simp only [putF, dstO, Act.put]; (try simp only [e9]); go_simp
              exact steps_end
            intro vals v1x hv1x hv
            have hkv1x := KA v1x hv1x
            have e0 : _ = _ := hv 0 (by omega)
            have e1 : _ = _ := hv 1 (by omega)
            have e2 : _ = _ := hv 2 (by omega)
            have e3 : _ = _ := hv 3 (by omega)
            have e4 : _ = _ := hv 4 (by omega)
            have e5 : _ = _ := hv 5 (by omega)
            have e6 : _ = _ := hv 6 (by omega)
            have e7 : _ = _ := hv 7 (by omega)
            have e8 : _ = _ := hv 8 (by omega)
            have e9 : _ = _ := hv 9 (by omega)
            obtain ⟨b10, c10, e10, R10⟩ := hv 10 (by omega)
            clear hv
            simp only [putF, dstO, Act.put, List.getElem?_toArray, List.getElem?_cons_zero, List.getElem?_cons_succ, Option.bind_some, Option.bind_none, List.setIfInBounds_toArray, List.set_cons_zero, List.set_cons_succ]
            (try simp only [e0, e1, e2, e3, e4, e5, e6, e7, e8, e9, e10])
            have HD3 := Lib.hid (HD2.out.later hv1x)
            refine wpAny_ready (rs := [11]) (by decide +kernel) (by simp) (AllReady.cons rfl (fun KK hKK => ?_) AllReady.nil)
            refine step_append_lies _ (by rfl) _ _ 87 rfl G.heap.size 39 i0 (.agg #[.bool false, .int .u64 0, .int .u64 0, .int .u64 0, .int .u64 0, .bool false, .int .u64 0, .int .u64 0, .int .u64 0, .int .u64 0]) 10 80 Tryd.underlying87 hinf hi0 hi1 hi2 rfl (by decide) u5 i (rowC gy i) (by rfl) HD3.out.y ⟨b10, 0, none⟩ 1 c10 [.bool ((gy i).s), .int .u64 ((((gy i).a) : Nat) : Int), .int .u64 0, .int .u64 0, .int .u64 0, .bool false, .int .u64 ((((gy i).d) : Nat) : Int), .int .u64 0, .int .u64 0, .int .u64 0] (by rfl) rfl (rf1_news R10) (by simp [Value.oneCell']) (by omega) (HML.out _ (by omega)) (by omega) HD3.out.base _ rfl ?_
            intro g2 capg2 v2 howng2 hgrowg2 hatg2 hltg2
            have HD4 := Lib.hid (HD3.out.pushY howng2 hgrowg2 hatg2)
            (refine hKK _ _ ?_); clear hKK KK; (try simp only [Nq1, Nq2, Nq3, Act.put, Nq4, Nq5, Nq6])
            refine wpAny_ready (rs := [12]) (by decide +kernel) (by simp) (AllReady.cons rfl (fun KK hKK => ?_) AllReady.nil)
            go_simp
            (refine hKK _ _ ?_); clear hKK KK; (try simp only [Nq1, Nq2, Nq3, Act.put, Nq4, Nq5, Nq6])
            refine wpAny_done (by kernel_rfl) ?_ _
            go_wp2
            go_roundg (X.length - (i + 1))
            case measure => omega
            case rel => exact ⟨i + 1, by omega, by omega, by go_num, by rw [rowC_succ, rowC_succ]; exact HD4⟩
          · obtain rfl : i = X.length := by omega
            obtain ⟨gb, gc, ex, hg1, hg2⟩ := own_rf HT2.out.x (by omega)
            obtain ⟨hb', hc', ey, hh1, hh2⟩ := own_rf HT2.out.y (by omega)
            subst ex ey
            have hbl := HT2.out.below
            go_wp2
            go_returns
            exact ⟨_, _, _, _, rfl, below_after hGb hbl, hg2, hh2⟩
end Go.Proofs.YthikaimhmpenhaaDoor

namespace Go.Proofs.YthikaimhmpenhaaDoor
set_option linter.all false
open Go Go.RowKit Wd
set_option maxRecDepth 100000
theorem bd {z : Int} {m : Nat} (B M : Nat) (h0 : -(B : Int) ≤ z) (h1 : z ≤ (B : Int)) (hm : 0 < m) (hM : m ≤ M) : Bd z m B M := ⟨by omega, hM, hm⟩
structure Fits (B M B' M' : Nat) : Prop where
  n1 : B < 18446744073709551616
  n2 : B' < 18446744073709551616
  n3 : M < 4611686018427387904
  n4 : M' < 18446744073709551616
  n5 : B * M' + B' * M < 18446744073709551616
  n6 : M * M' < 18446744073709551616
structure FitM (B M B' M' : Nat) : Prop where
  n1 : B < 18446744073709551616
  n2 : B' < 18446744073709551616
  n3 : M < 18446744073709551616
  n4 : M' < 18446744073709551616
  n5 : B * B' < 18446744073709551616
  n6 : M * M' < 18446744073709551616
variable {z y c : Int} {m n k B M B' M' : Nat}
theorem addE (f : Fits B M B' M') (hz : Bd z m B M) (hy : Bd y n B' M') (hk : 0 < k) (h : (z * (n : Int) + y * (m : Int)) * (k : Int) = c * ((m : Int) * (n : Int))) : AddC (q z m) (q y n) (q c k) := by
  have := addQ hz hy f.n1 f.n2 f.n3 f.n4 f.n5 f.n6
  rwa [q_eq (Nat.mul_pos hz.pos hy.pos) hk (by rw [Int.natCast_mul]; exact h)] at this
theorem mulE (f : FitM B M B' M') (hz : Bd z m B M) (hy : Bd y n B' M') (hk : 0 < k) (h : z * y * (k : Int) = c * ((m : Int) * (n : Int))) : MulC (q z m) (q y n) (q c k) := by
  have := mulQ hz hy f.n1 f.n2 f.n3 f.n4 f.n5 f.n6
  rwa [q_eq (Nat.mul_pos hz.pos hy.pos) hk (by rw [Int.natCast_mul]; exact h)] at this
theorem lessE (f : Fits B M B' M') (hz : Bd z m B M) (hy : Bd y n B' M') (hk : 0 < k) (h : (z * (n : Int) - y * (m : Int)) * (k : Int) = c * ((m : Int) * (n : Int))) : LessC (q z m) (q y n) (q c k) := by
  have := lessQ hz hy f.n1 f.n2 f.n3 f.n4 f.n5 f.n6
  rwa [q_eq (Nat.mul_pos hz.pos hy.pos) hk (by rw [Int.natCast_mul]; exact h)] at this
theorem sum2E (f : Fits B M B' M') (hz : Bd z m B M) (hy : Bd y n B' M') (hk : 0 < k) (h : (z * (n : Int) + y * (m : Int)) * (k : Int) = c * ((m : Int) * (n : Int))) : SumC 2 (pk2 (q z m) (q y n)) (q c k) :=
  SumC.two (addQ0 hz f.n1 (Nat.lt_trans f.n3 (by omega))) (addE f hz hy hk h)
theorem tim2E (f : FitM B M B' M') (hz : Bd z m B M) (hy : Bd y n B' M') (hk : 0 < k) (h : z * y * (k : Int) = c * ((m : Int) * (n : Int))) : TimC 2 (pk2 (q z m) (q y n)) (q c k) :=
  TimC.two (mulQ1 hz f.n1 f.n3) (mulE f hz hy hk h)
theorem same_add {z y d : Int} : (z * d + y * d) * d = (z + y) * (d * d) := by grind
theorem same_sub {z y d : Int} : (z * d - y * d) * d = (z - y) * (d * d) := by grind
theorem sum2S (f : Fits B M B' M') (hz : Bd z m B M) (hy : Bd y m B' M') : SumC 2 (pk2 (q z m) (q y m)) (q (z + y) m) := sum2E f hz hy hz.pos same_add
theorem lessS (f : Fits B M B' M') (hz : Bd z m B M) (hy : Bd y m B' M') : LessC (q z m) (q y m) (q (z - y) m) := lessE f hz hy hz.pos same_sub
theorem tim2P (f : FitM B M B' M') (hz : Bd z m B M) (hy : Bd y n B' M') : TimC 2 (pk2 (q z m) (q y n)) (q (z * y) (m * n)) := tim2E f hz hy (Nat.mul_pos hz.pos hy.pos) (by rw [Int.natCast_mul])
theorem mul_bd {a b A B : Int} (ha : 0 ≤ a) (hb : 0 ≤ b) (hA : a ≤ A) (hB : b ≤ B) : 0 ≤ a * b ∧ a * b ≤ A * B :=
  ⟨Int.mul_nonneg ha hb, Int.mul_le_mul hA hB hb (Int.le_trans ha hA)⟩
theorem areaQ {x0 y0 x1 y1 : Int} {D : Nat} (hD : 0 < D) (hD' : D ≤ 120) (h0 : 0 ≤ x0) (h1 : x0 ≤ x1) (h2 : x1 ≤ 240000) (h3 : 0 ≤ y0) (h4 : y0 ≤ 240000) (h5 : 0 ≤ y1) (h6 : y1 ≤ 240000) :
    StripC 43 (q x0 D) (q y0 D) (q x1 D) (q y1 D) (q ((x1 - x0) * (y0 + y1)) (D * D)) :=
  areaH (u := q (x1 - x0) D) (v := q (y0 + y1) D)
    (lessS (B := 240000) (M := 120) (B' := 240000) (M' := 120) ⟨by omega, by omega, by omega, by omega, by omega, by omega⟩ (bd _ _ (by omega) (by omega) hD hD') (bd _ _ (by omega) (by omega) hD hD'))
    (sum2S (B := 240000) (M := 120) (B' := 240000) (M' := 120) ⟨by omega, by omega, by omega, by omega, by omega, by omega⟩ (bd _ _ (by omega) (by omega) hD hD') (bd _ _ (by omega) (by omega) hD hD'))
    (tim2P (B := 240000) (M := 120) (B' := 480000) (M' := 120) ⟨by omega, by omega, by omega, by omega, by omega, by omega⟩ (bd _ _ (by omega) (by omega) hD hD') (bd _ _ (by omega) (by omega) hD hD'))
theorem sum3E {z y x s t : Int} {m n p k l : Nat} {B M B' M' Bx Mx Bs Ms : Nat} (f : Fits B M B' M') (f2 : Fits Bs Ms Bx Mx) (hz : Bd z m B M) (hy : Bd y n B' M') (hx : Bd x p Bx Mx) (hs : Bd s k Bs Ms) (hl : 0 < l)
    (h : (z * (n : Int) + y * (m : Int)) * (k : Int) = s * ((m : Int) * (n : Int))) (h2 : (s * (p : Int) + x * (k : Int)) * (l : Int) = t * ((k : Int) * (p : Int))) : SumC 3 (pk3 (q z m) (q y n) (q x p)) (q t l) :=
  SumC.three (addQ0 hz f.n1 (Nat.lt_trans f.n3 (by omega))) (addE f hz hy hs.pos h) (addE f2 hs hx hl h2)
theorem tim3E {z y x s t : Int} {m n p k l : Nat} {B M B' M' Bx Mx Bs Ms : Nat} (f : FitM B M B' M') (f2 : FitM Bs Ms Bx Mx) (hz : Bd z m B M) (hy : Bd y n B' M') (hx : Bd x p Bx Mx) (hs : Bd s k Bs Ms) (hl : 0 < l)
    (h : z * y * (k : Int) = s * ((m : Int) * (n : Int))) (h2 : s * x * (l : Int) = t * ((k : Int) * (p : Int))) : TimC 3 (pk3 (q z m) (q y n) (q x p)) (q t l) :=
  TimC.three (mulQ1 hz f.n1 f.n3) (mulE f hz hy hs.pos h) (mulE f2 hs hx hl h2)
def s3 (x0 y0 x1 y1 : Int) : Int := (x1 - x0) * (x0 * y0 + (x0 + x1) * (y0 + y1) + x1 * y1)
theorem longQ {x0 y0 x1 y1 : Int} {D : Nat} (hD : 0 < D) (hD' : D ≤ 40) (h0 : 0 ≤ x0) (h1 : x0 ≤ x1) (h2 : x1 ≤ 8000) (h3 : 0 ≤ y0) (h4 : y0 ≤ 8000) (h5 : 0 ≤ y1) (h6 : y1 ≤ 8000) :
    StripC 49 (q x0 D) (q y0 D) (q x1 D) (q y1 D) (q (s3 x0 y0 x1 y1) (3 * (D * D * D))) := by
  have hDD : D * D ≤ 1600 := Nat.mul_le_mul hD' hD'
  have hDD0 : 0 < D * D := Nat.mul_pos hD hD
  have hDDD : D * D * D ≤ 64000 := Nat.mul_le_mul hDD hD'
  have hDDD0 : 0 < D * D * D := Nat.mul_pos hDD0 hD
  have m0 := mul_bd h0 h3 (by omega : x0 ≤ 8000) h4
  have m1 := mul_bd (by omega : 0 ≤ x1) h5 h2 h6
  have m2 := mul_bd (by omega : 0 ≤ x0 + x1) (by omega : 0 ≤ y0 + y1) (by omega : x0 + x1 ≤ 16000) (by omega : y0 + y1 ≤ 16000)
  refine longH (t1 := q (x0 + x1) D) (t2 := q (y0 + y1) D) (m := q ((x0 + x1) * (y0 + y1)) (D * D)) (u := q (x1 - x0) D) (c := q 1 3) (p0 := q (x0 * y0) (D * D)) (p1 := q (x1 * y1) (D * D)) (s := q (x0 * y0 + (x0 + x1) * (y0 + y1) + x1 * y1) (D * D))
    (sum2S (B := 8000) (M := 40) (B' := 8000) (M' := 40) ⟨by omega, by omega, by omega, by omega, by omega, by omega⟩ (bd _ _ (by omega) (by omega) hD hD') (bd _ _ (by omega) (by omega) hD hD'))
    (sum2S (B := 8000) (M := 40) (B' := 8000) (M' := 40) ⟨by omega, by omega, by omega, by omega, by omega, by omega⟩ (bd _ _ (by omega) (by omega) hD hD') (bd _ _ (by omega) (by omega) hD hD'))
    (tim2P (B := 16000) (M := 40) (B' := 16000) (M' := 40) ⟨by omega, by omega, by omega, by omega, by omega, by omega⟩ (bd _ _ (by omega) (by omega) hD hD') (bd _ _ (by omega) (by omega) hD hD'))
    (lessS (B := 8000) (M := 40) (B' := 8000) (M' := 40) ⟨by omega, by omega, by omega, by omega, by omega, by omega⟩ (bd _ _ (by omega) (by omega) hD hD') (bd _ _ (by omega) (by omega) hD hD'))
    (ofQ 1 3 (by omega) (by omega) (by omega) (by omega))
    (tim2P (B := 8000) (M := 40) (B' := 8000) (M' := 40) ⟨by omega, by omega, by omega, by omega, by omega, by omega⟩ (bd _ _ (by omega) (by omega) hD hD') (bd _ _ (by omega) (by omega) hD hD'))
    (tim2P (B := 8000) (M := 40) (B' := 8000) (M' := 40) ⟨by omega, by omega, by omega, by omega, by omega, by omega⟩ (bd _ _ (by omega) (by omega) hD hD') (bd _ _ (by omega) (by omega) hD hD'))
    ?_ ?_
  · exact sum3E (B := 64000000) (M := 1600) (B' := 256000000) (M' := 1600) (Bs := 320000000) (Ms := 1600) (Bx := 64000000) (Mx := 1600) (s := x0 * y0 + (x0 + x1) * (y0 + y1)) (k := D * D) ⟨by omega, by omega, by omega, by omega, by omega, by omega⟩ ⟨by omega, by omega, by omega, by omega, by omega, by omega⟩
      (bd _ _ (by omega) (by omega) hDD0 hDD) (bd _ _ (by omega) (by omega) hDD0 hDD) (bd _ _ (by omega) (by omega) hDD0 hDD) (bd _ _ (by omega) (by omega) hDD0 hDD) hDD0 same_add same_add
  · refine tim3E (B := 8000) (M := 40) (B' := 1) (M' := 3) (Bs := 8000) (Ms := 120) (Bx := 384000000) (Mx := 1600) (s := x1 - x0) (k := 3 * D) ⟨by omega, by omega, by omega, by omega, by omega, by omega⟩ ⟨by omega, by omega, by omega, by omega, by omega, by omega⟩
      (bd _ _ (by omega) (by omega) hD hD') (bd _ _ (by omega) (by omega) (by omega) (by omega)) (bd _ _ (by omega) (by omega) hDD0 hDD) (bd _ _ (by omega) (by omega) (by omega) (by omega)) (by omega) ?_ ?_
    · rw [Int.natCast_mul]
      have : ((3 : Nat) : Int) = 3 := rfl
      generalize (D : Int) = e
      grind
    · simp only [Int.natCast_mul]
      have : ((3 : Nat) : Int) = 3 := rfl
      unfold s3
      generalize (D : Int) = e
      grind
end Go.Proofs.YthikaimhmpenhaaDoor

namespace Go.Proofs.YthikaimhmpenhaaDoor.Sf
set_option linter.all false
set_option maxRecDepth 100000
@[irreducible] def det3 (a b c p q r x y z : Int) : Int := a * (q * z - r * y) + b * (r * x - p * z) + c * (p * y - q * x)
abbrev Pt := Nat × Nat × Nat
abbrev Fc := Pt × Pt × Pt
def cellS (i k : Nat) : List Fc := [((0, i, k), (0, i + 1, k + 1), (0, i + 1, k)), ((0, i, k), (0, i, k + 1), (0, i + 1, k + 1)), ((1, i, k), (1, i + 1, k), (1, i + 1, k + 1)), ((1, i, k), (1, i + 1, k + 1), (1, i, k + 1))]
def flatS (M i : Nat) : List Fc := [((1, i, 0), (0, i, 0), (0, i + 1, 0)), ((1, i, 0), (0, i + 1, 0), (1, i + 1, 0)), ((1, i, M), (0, i + 1, M), (0, i, M)), ((1, i, M), (1, i + 1, M), (0, i + 1, M))]
def endS (N k : Nat) : List Fc := [((1, 0, k), (1, 0, k + 1), (0, 0, k + 1)), ((1, 0, k), (0, 0, k + 1), (0, 0, k)), ((1, N, k), (0, N, k), (0, N, k + 1)), ((1, N, k), (0, N, k + 1), (1, N, k + 1))]
def faces (N M : Nat) : List Fc := ((List.range N).flatMap fun i => (List.range M).flatMap fun k => cellS i k) ++ (List.range N).flatMap (fun i => flatS M i) ++ (List.range M).flatMap (fun k => endS N k)
def fe (f : Fc) : List (Pt × Pt) := [(f.1, f.2.1), (f.2.1, f.2.2), (f.2.2, f.1)]
def cellE (i k : Nat) : List (Pt × Pt) := (cellS i k).flatMap fe
def flatE (M i : Nat) : List (Pt × Pt) := (flatS M i).flatMap fe
def endE (N k : Nat) : List (Pt × Pt) := (endS N k).flatMap fe
def edges (N M : Nat) : List (Pt × Pt) := (faces N M).flatMap fe
theorem edges_eq (N M : Nat) : edges N M = ((List.range N).flatMap fun i => (List.range M).flatMap fun k => cellE i k) ++ (List.range N).flatMap (fun i => flatE M i) ++ (List.range M).flatMap (fun k => endE N k) := by
  unfold edges faces cellE flatE endE
  simp only [List.flatMap_append, List.flatMap_assoc]
theorem cellE_mem (i k : Nat) (x : Pt × Pt) : x ∈ cellE i k ↔ x = ((0, i, k), (0, i + 1, k + 1)) ∨ x = ((0, i + 1, k + 1), (0, i + 1, k)) ∨ x = ((0, i + 1, k), (0, i, k)) ∨ x = ((0, i, k), (0, i, k + 1)) ∨ x = ((0, i, k + 1), (0, i + 1, k + 1)) ∨ x = ((0, i + 1, k + 1), (0, i, k))
    ∨ x = ((1, i, k), (1, i + 1, k)) ∨ x = ((1, i + 1, k), (1, i + 1, k + 1)) ∨ x = ((1, i + 1, k + 1), (1, i, k)) ∨ x = ((1, i, k), (1, i + 1, k + 1)) ∨ x = ((1, i + 1, k + 1), (1, i, k + 1)) ∨ x = ((1, i, k + 1), (1, i, k)) := by
  simp [cellE, cellS, fe]
theorem flatE_mem (M i : Nat) (x : Pt × Pt) : x ∈ flatE M i ↔ x = ((1, i, 0), (0, i, 0)) ∨ x = ((0, i, 0), (0, i + 1, 0)) ∨ x = ((0, i + 1, 0), (1, i, 0)) ∨ x = ((1, i, 0), (0, i + 1, 0)) ∨ x = ((0, i + 1, 0), (1, i + 1, 0)) ∨ x = ((1, i + 1, 0), (1, i, 0))
    ∨ x = ((1, i, M), (0, i + 1, M)) ∨ x = ((0, i + 1, M), (0, i, M)) ∨ x = ((0, i, M), (1, i, M)) ∨ x = ((1, i, M), (1, i + 1, M)) ∨ x = ((1, i + 1, M), (0, i + 1, M)) ∨ x = ((0, i + 1, M), (1, i, M)) := by
  simp [flatE, flatS, fe]
theorem endE_mem (N k : Nat) (x : Pt × Pt) : x ∈ endE N k ↔ x = ((1, 0, k), (1, 0, k + 1)) ∨ x = ((1, 0, k + 1), (0, 0, k + 1)) ∨ x = ((0, 0, k + 1), (1, 0, k)) ∨ x = ((1, 0, k), (0, 0, k + 1)) ∨ x = ((0, 0, k + 1), (0, 0, k)) ∨ x = ((0, 0, k), (1, 0, k))
    ∨ x = ((1, N, k), (0, N, k)) ∨ x = ((0, N, k), (0, N, k + 1)) ∨ x = ((0, N, k + 1), (1, N, k)) ∨ x = ((1, N, k), (0, N, k + 1)) ∨ x = ((0, N, k + 1), (1, N, k + 1)) ∨ x = ((1, N, k + 1), (1, N, k)) := by
  simp [endE, endS, fe]
theorem dj_cc (i k j l : Nat) (h : i ≠ j ∨ k ≠ l) : ∀ x ∈ cellE i k, ∀ y ∈ cellE j l, x ≠ y := by
  intro x hx y hy e
  rw [cellE_mem] at hx hy
  subst e
  rcases hx with rfl | rfl | rfl | rfl | rfl | rfl | rfl | rfl | rfl | rfl | rfl | rfl <;> simp only [Prod.mk.injEq] at hy <;> omega
theorem dj_cf (M i k j : Nat) (h : k < M) : ∀ x ∈ cellE i k, ∀ y ∈ flatE M j, x ≠ y := by
  intro x hx y hy e
  rw [cellE_mem] at hx
  rw [flatE_mem] at hy
  subst e
  rcases hx with rfl | rfl | rfl | rfl | rfl | rfl | rfl | rfl | rfl | rfl | rfl | rfl <;> simp only [Prod.mk.injEq] at hy <;> omega
theorem dj_ce (N i k l : Nat) (h : i < N) : ∀ x ∈ cellE i k, ∀ y ∈ endE N l, x ≠ y := by
  intro x hx y hy e
  rw [cellE_mem] at hx
  rw [endE_mem] at hy
  subst e
  rcases hx with rfl | rfl | rfl | rfl | rfl | rfl | rfl | rfl | rfl | rfl | rfl | rfl <;> simp only [Prod.mk.injEq] at hy <;> omega
theorem dj_ff (M i j : Nat) (hM : 0 < M) (h : i ≠ j) : ∀ x ∈ flatE M i, ∀ y ∈ flatE M j, x ≠ y := by
  intro x hx y hy e
  rw [flatE_mem] at hx hy
  subst e
  rcases hx with rfl | rfl | rfl | rfl | rfl | rfl | rfl | rfl | rfl | rfl | rfl | rfl <;> simp only [Prod.mk.injEq] at hy <;> omega
theorem dj_ee (N k l : Nat) (hN : 0 < N) (h : k ≠ l) : ∀ x ∈ endE N k, ∀ y ∈ endE N l, x ≠ y := by
  intro x hx y hy e
  rw [endE_mem] at hx hy
  subst e
  rcases hx with rfl | rfl | rfl | rfl | rfl | rfl | rfl | rfl | rfl | rfl | rfl | rfl <;> simp only [Prod.mk.injEq] at hy <;> omega
theorem dj_fe (N M i k : Nat) (hN : 0 < N) (hM : 0 < M) (hi : i < N) (hk : k < M) : ∀ x ∈ flatE M i, ∀ y ∈ endE N k, x ≠ y := by
  intro x hx y hy e
  rw [flatE_mem] at hx
  rw [endE_mem] at hy
  subst e
  rcases hx with rfl | rfl | rfl | rfl | rfl | rfl | rfl | rfl | rfl | rfl | rfl | rfl <;> simp only [Prod.mk.injEq] at hy <;> omega
theorem nd_c (i k : Nat) : (cellE i k).Nodup := by simp [cellE, cellS, fe]
theorem nd_f (M i : Nat) (hM : 0 < M) : (flatE M i).Nodup := by
  have h : M ≠ 0 := by omega
  have h' : 0 ≠ M := by omega
  simp [flatE, flatS, fe, h, h']
theorem nd_e (N k : Nat) (hN : 0 < N) : (endE N k).Nodup := by
  have h : N ≠ 0 := by omega
  have h' : 0 ≠ N := by omega
  simp [endE, endS, fe, h, h']
theorem nd_flatMap {α β : Type} (f : α → List β) (l : List α) (h1 : ∀ a ∈ l, (f a).Nodup) (h2 : l.Pairwise fun a b => ∀ x ∈ f a, ∀ y ∈ f b, x ≠ y) : (l.flatMap f).Nodup := by
  unfold List.Nodup
  rw [List.pairwise_flatMap]
  exact ⟨h1, h2⟩
theorem nd_range {β : Type} (f : Nat → List β) (n : Nat) (h1 : ∀ a, a < n → (f a).Nodup) (h2 : ∀ a b, a < b → b < n → ∀ x ∈ f a, ∀ y ∈ f b, x ≠ y) : ((List.range n).flatMap f).Nodup := by
  refine nd_flatMap _ _ (fun a ha => h1 a (List.mem_range.1 ha)) ?_
  exact List.Pairwise.imp_of_mem (fun {a b} ha hb hab => h2 a b hab (List.mem_range.1 hb)) List.pairwise_lt_range
theorem nodup (N M : Nat) (hN : 0 < N) (hM : 0 < M) : (edges N M).Nodup := by
  rw [edges_eq, List.nodup_append, List.nodup_append]
  refine ⟨⟨?_, ?_, ?_⟩, ?_, ?_⟩
  · refine nd_range _ _ (fun i hi => nd_range _ _ (fun k hk => nd_c i k) (fun k l hkl hl => dj_cc i k i l (by omega))) ?_
    intro i j hij hj x hx y hy
    obtain ⟨k, hk, hx⟩ := List.mem_flatMap.1 hx
    obtain ⟨l, hl, hy⟩ := List.mem_flatMap.1 hy
    exact dj_cc i k j l (by omega) x hx y hy
  · exact nd_range _ _ (fun i hi => nd_f M i hM) (fun i j hij hj => dj_ff M i j hM (by omega))
  · intro x hx y hy
    obtain ⟨i, hi, hx⟩ := List.mem_flatMap.1 hx
    obtain ⟨k, hk, hx⟩ := List.mem_flatMap.1 hx
    obtain ⟨j, hj, hy⟩ := List.mem_flatMap.1 hy
    rw [List.mem_range] at hi hk hj
    exact dj_cf M i k j hk x hx y hy
  · exact nd_range _ _ (fun k hk => nd_e N k hN) (fun k l hkl hl => dj_ee N k l hN (by omega))
  · intro x hx y hy
    obtain ⟨l, hl, hy⟩ := List.mem_flatMap.1 hy
    rw [List.mem_range] at hl
    rcases List.mem_append.1 hx with hx | hx
    · obtain ⟨i, hi, hx⟩ := List.mem_flatMap.1 hx
      obtain ⟨k, hk, hx⟩ := List.mem_flatMap.1 hx
      rw [List.mem_range] at hi hk
      exact dj_ce N i k l hi x hx y hy
    · obtain ⟨i, hi, hx⟩ := List.mem_flatMap.1 hx
      rw [List.mem_range] at hi
      exact dj_fe N M i l hN hM hi hl x hx y hy
theorem in_c {N M i k : Nat} (hi : i < N) (hk : k < M) {x : Pt × Pt} (h : x ∈ cellE i k) : x ∈ edges N M := by
  rw [edges_eq]
  exact List.mem_append_left _ (List.mem_append_left _ (List.mem_flatMap.2 ⟨i, List.mem_range.2 hi, List.mem_flatMap.2 ⟨k, List.mem_range.2 hk, h⟩⟩))
theorem in_f {N M i : Nat} (hi : i < N) {x : Pt × Pt} (h : x ∈ flatE M i) : x ∈ edges N M := by
  rw [edges_eq]
  exact List.mem_append_left _ (List.mem_append_right _ (List.mem_flatMap.2 ⟨i, List.mem_range.2 hi, h⟩))
theorem in_e {N M k : Nat} (hk : k < M) {x : Pt × Pt} (h : x ∈ endE N k) : x ∈ edges N M := by
  rw [edges_eq]
  exact List.mem_append_right _ (List.mem_flatMap.2 ⟨k, List.mem_range.2 hk, h⟩)
theorem edge_cases {N M : Nat} {x : Pt × Pt} (h : x ∈ edges N M) : (∃ i k, i < N ∧ k < M ∧ x ∈ cellE i k) ∨ (∃ i, i < N ∧ x ∈ flatE M i) ∨ (∃ k, k < M ∧ x ∈ endE N k) := by
  rw [edges_eq] at h
  rcases List.mem_append.1 h with h | h
  · rcases List.mem_append.1 h with h | h
    · obtain ⟨i, hi, h⟩ := List.mem_flatMap.1 h
      obtain ⟨k, hk, h⟩ := List.mem_flatMap.1 h
      exact Or.inl ⟨i, k, List.mem_range.1 hi, List.mem_range.1 hk, h⟩
    · obtain ⟨i, hi, h⟩ := List.mem_flatMap.1 h
      exact Or.inr (Or.inl ⟨i, List.mem_range.1 hi, h⟩)
  · obtain ⟨k, hk, h⟩ := List.mem_flatMap.1 h
    exact Or.inr (Or.inr ⟨k, List.mem_range.1 hk, h⟩)
theorem back (N M : Nat) (hN : 0 < N) (hM : 0 < M) (x : Pt × Pt) (h : x ∈ edges N M) : (x.2, x.1) ∈ edges N M := by
  rcases edge_cases h with ⟨i, k, hi, hk, h⟩ | ⟨i, hi, h⟩ | ⟨k, hk, h⟩
  · rw [cellE_mem] at h
    rcases h with rfl | rfl | rfl | rfl | rfl | rfl | rfl | rfl | rfl | rfl | rfl | rfl
    · skip
      exact in_c (i := i) (k := k) (by omega) (by omega) ((cellE_mem _ _ _).2 (Or.inr (Or.inr (Or.inr (Or.inr (Or.inr (Or.inl rfl)))))))
    · skip
      rcases (by omega : i + 1 < N ∨ N = i + 1) with h1 | rfl
      · exact in_c (i := i + 1) (k := k) (by omega) (by omega) ((cellE_mem _ _ _).2 (Or.inr (Or.inr (Or.inr (Or.inl rfl)))))
      · exact in_e (k := k) (by omega) ((endE_mem _ _ _).2 (Or.inr (Or.inr (Or.inr (Or.inr (Or.inr (Or.inr (Or.inr (Or.inl rfl)))))))))
    · skip
      rcases k with _ | k
      · exact in_f (i := i) (by omega) ((flatE_mem _ _ _).2 (Or.inr (Or.inl rfl)))
      · exact in_c (i := i) (k := k) (by omega) (by omega) ((cellE_mem _ _ _).2 (Or.inr (Or.inr (Or.inr (Or.inr (Or.inl rfl))))))
    · skip
      rcases i with _ | i
      · exact in_e (k := k) (by omega) ((endE_mem _ _ _).2 (Or.inr (Or.inr (Or.inr (Or.inr (Or.inl rfl))))))
      · exact in_c (i := i) (k := k) (by omega) (by omega) ((cellE_mem _ _ _).2 (Or.inr (Or.inl rfl)))
    · skip
      rcases (by omega : k + 1 < M ∨ M = k + 1) with h1 | rfl
      · exact in_c (i := i) (k := k + 1) (by omega) (by omega) ((cellE_mem _ _ _).2 (Or.inr (Or.inr (Or.inl rfl))))
      · exact in_f (i := i) (by omega) ((flatE_mem _ _ _).2 (Or.inr (Or.inr (Or.inr (Or.inr (Or.inr (Or.inr (Or.inr (Or.inl rfl)))))))))
    · skip
      exact in_c (i := i) (k := k) (by omega) (by omega) ((cellE_mem _ _ _).2 (Or.inl rfl))
    · skip
      rcases k with _ | k
      · exact in_f (i := i) (by omega) ((flatE_mem _ _ _).2 (Or.inr (Or.inr (Or.inr (Or.inr (Or.inr (Or.inl rfl)))))))
      · exact in_c (i := i) (k := k) (by omega) (by omega) ((cellE_mem _ _ _).2 (Or.inr (Or.inr (Or.inr (Or.inr (Or.inr (Or.inr (Or.inr (Or.inr (Or.inr (Or.inr (Or.inl rfl))))))))))))
    · skip
      rcases (by omega : i + 1 < N ∨ N = i + 1) with h1 | rfl
      · exact in_c (i := i + 1) (k := k) (by omega) (by omega) ((cellE_mem _ _ _).2 (Or.inr (Or.inr (Or.inr (Or.inr (Or.inr (Or.inr (Or.inr (Or.inr (Or.inr (Or.inr (Or.inr (rfl)))))))))))))
      · exact in_e (k := k) (by omega) ((endE_mem _ _ _).2 (Or.inr (Or.inr (Or.inr (Or.inr (Or.inr (Or.inr (Or.inr (Or.inr (Or.inr (Or.inr (Or.inr (rfl)))))))))))))
    · skip
      exact in_c (i := i) (k := k) (by omega) (by omega) ((cellE_mem _ _ _).2 (Or.inr (Or.inr (Or.inr (Or.inr (Or.inr (Or.inr (Or.inr (Or.inr (Or.inr (Or.inl rfl)))))))))))
    · skip
      exact in_c (i := i) (k := k) (by omega) (by omega) ((cellE_mem _ _ _).2 (Or.inr (Or.inr (Or.inr (Or.inr (Or.inr (Or.inr (Or.inr (Or.inr (Or.inl rfl))))))))))
    · skip
      rcases (by omega : k + 1 < M ∨ M = k + 1) with h1 | rfl
      · exact in_c (i := i) (k := k + 1) (by omega) (by omega) ((cellE_mem _ _ _).2 (Or.inr (Or.inr (Or.inr (Or.inr (Or.inr (Or.inr (Or.inl rfl))))))))
      · exact in_f (i := i) (by omega) ((flatE_mem _ _ _).2 (Or.inr (Or.inr (Or.inr (Or.inr (Or.inr (Or.inr (Or.inr (Or.inr (Or.inr (Or.inl rfl)))))))))))
    · skip
      rcases i with _ | i
      · exact in_e (k := k) (by omega) ((endE_mem _ _ _).2 (Or.inl rfl))
      · exact in_c (i := i) (k := k) (by omega) (by omega) ((cellE_mem _ _ _).2 (Or.inr (Or.inr (Or.inr (Or.inr (Or.inr (Or.inr (Or.inr (Or.inl rfl)))))))))
  · rw [flatE_mem] at h
    rcases h with rfl | rfl | rfl | rfl | rfl | rfl | rfl | rfl | rfl | rfl | rfl | rfl
    · skip
      rcases i with _ | i
      · exact in_e (k := 0) (by omega) ((endE_mem _ _ _).2 (Or.inr (Or.inr (Or.inr (Or.inr (Or.inr (Or.inl rfl)))))))
      · exact in_f (i := i) (by omega) ((flatE_mem _ _ _).2 (Or.inr (Or.inr (Or.inr (Or.inr (Or.inl rfl))))))
    · skip
      exact in_c (i := i) (k := 0) (by omega) (by omega) ((cellE_mem _ _ _).2 (Or.inr (Or.inr (Or.inl rfl))))
    · skip
      exact in_f (i := i) (by omega) ((flatE_mem _ _ _).2 (Or.inr (Or.inr (Or.inr (Or.inl rfl)))))
    · skip
      exact in_f (i := i) (by omega) ((flatE_mem _ _ _).2 (Or.inr (Or.inr (Or.inl rfl))))
    · skip
      rcases (by omega : i + 1 < N ∨ N = i + 1) with h1 | rfl
      · exact in_f (i := i + 1) (by omega) ((flatE_mem _ _ _).2 (Or.inl rfl))
      · exact in_e (k := 0) (by omega) ((endE_mem _ _ _).2 (Or.inr (Or.inr (Or.inr (Or.inr (Or.inr (Or.inr (Or.inl rfl))))))))
    · skip
      exact in_c (i := i) (k := 0) (by omega) (by omega) ((cellE_mem _ _ _).2 (Or.inr (Or.inr (Or.inr (Or.inr (Or.inr (Or.inr (Or.inl rfl))))))))
    · skip
      obtain ⟨K, rfl⟩ : ∃ K, M = K + 1 := ⟨M - 1, by omega⟩
      exact in_f (i := i) (by omega) ((flatE_mem _ _ _).2 (Or.inr (Or.inr (Or.inr (Or.inr (Or.inr (Or.inr (Or.inr (Or.inr (Or.inr (Or.inr (Or.inr (rfl)))))))))))))
    · skip
      obtain ⟨K, rfl⟩ : ∃ K, M = K + 1 := ⟨M - 1, by omega⟩
      exact in_c (i := i) (k := K) (by omega) (by omega) ((cellE_mem _ _ _).2 (Or.inr (Or.inr (Or.inr (Or.inr (Or.inl rfl))))))
    · skip
      obtain ⟨K, rfl⟩ : ∃ K, M = K + 1 := ⟨M - 1, by omega⟩
      rcases i with _ | i
      · exact in_e (k := K) (by omega) ((endE_mem _ _ _).2 (Or.inr (Or.inl rfl)))
      · exact in_f (i := i) (by omega) ((flatE_mem _ _ _).2 (Or.inr (Or.inr (Or.inr (Or.inr (Or.inr (Or.inr (Or.inr (Or.inr (Or.inr (Or.inr (Or.inl rfl))))))))))))
    · skip
      obtain ⟨K, rfl⟩ : ∃ K, M = K + 1 := ⟨M - 1, by omega⟩
      exact in_c (i := i) (k := K) (by omega) (by omega) ((cellE_mem _ _ _).2 (Or.inr (Or.inr (Or.inr (Or.inr (Or.inr (Or.inr (Or.inr (Or.inr (Or.inr (Or.inr (Or.inl rfl))))))))))))
    · skip
      obtain ⟨K, rfl⟩ : ∃ K, M = K + 1 := ⟨M - 1, by omega⟩
      rcases (by omega : i + 1 < N ∨ N = i + 1) with h1 | rfl
      · exact in_f (i := i + 1) (by omega) ((flatE_mem _ _ _).2 (Or.inr (Or.inr (Or.inr (Or.inr (Or.inr (Or.inr (Or.inr (Or.inr (Or.inl rfl))))))))))
      · exact in_e (k := K) (by omega) ((endE_mem _ _ _).2 (Or.inr (Or.inr (Or.inr (Or.inr (Or.inr (Or.inr (Or.inr (Or.inr (Or.inr (Or.inr (Or.inl rfl))))))))))))
    · skip
      obtain ⟨K, rfl⟩ : ∃ K, M = K + 1 := ⟨M - 1, by omega⟩
      exact in_f (i := i) (by omega) ((flatE_mem _ _ _).2 (Or.inr (Or.inr (Or.inr (Or.inr (Or.inr (Or.inr (Or.inl rfl))))))))
  · rw [endE_mem] at h
    rcases h with rfl | rfl | rfl | rfl | rfl | rfl | rfl | rfl | rfl | rfl | rfl | rfl
    · skip
      exact in_c (i := 0) (k := k) (by omega) (by omega) ((cellE_mem _ _ _).2 (Or.inr (Or.inr (Or.inr (Or.inr (Or.inr (Or.inr (Or.inr (Or.inr (Or.inr (Or.inr (Or.inr (rfl)))))))))))))
    · skip
      rcases (by omega : k + 1 < M ∨ M = k + 1) with h1 | rfl
      · exact in_e (k := k + 1) (by omega) ((endE_mem _ _ _).2 (Or.inr (Or.inr (Or.inr (Or.inr (Or.inr (Or.inl rfl)))))))
      · exact in_f (i := 0) (by omega) ((flatE_mem _ _ _).2 (Or.inr (Or.inr (Or.inr (Or.inr (Or.inr (Or.inr (Or.inr (Or.inr (Or.inl rfl))))))))))
    · skip
      exact in_e (k := k) (by omega) ((endE_mem _ _ _).2 (Or.inr (Or.inr (Or.inr (Or.inl rfl)))))
    · skip
      exact in_e (k := k) (by omega) ((endE_mem _ _ _).2 (Or.inr (Or.inr (Or.inl rfl))))
    · skip
      exact in_c (i := 0) (k := k) (by omega) (by omega) ((cellE_mem _ _ _).2 (Or.inr (Or.inr (Or.inr (Or.inl rfl)))))
    · skip
      rcases k with _ | k
      · exact in_f (i := 0) (by omega) ((flatE_mem _ _ _).2 (Or.inl rfl))
      · exact in_e (k := k) (by omega) ((endE_mem _ _ _).2 (Or.inr (Or.inl rfl)))
    · skip
      obtain ⟨J, rfl⟩ : ∃ J, N = J + 1 := ⟨N - 1, by omega⟩
      rcases k with _ | k
      · exact in_f (i := J) (by omega) ((flatE_mem _ _ _).2 (Or.inr (Or.inr (Or.inr (Or.inr (Or.inl rfl))))))
      · exact in_e (k := k) (by omega) ((endE_mem _ _ _).2 (Or.inr (Or.inr (Or.inr (Or.inr (Or.inr (Or.inr (Or.inr (Or.inr (Or.inr (Or.inr (Or.inl rfl))))))))))))
    · skip
      obtain ⟨J, rfl⟩ : ∃ J, N = J + 1 := ⟨N - 1, by omega⟩
      exact in_c (i := J) (k := k) (by omega) (by omega) ((cellE_mem _ _ _).2 (Or.inr (Or.inl rfl)))
    · skip
      obtain ⟨J, rfl⟩ : ∃ J, N = J + 1 := ⟨N - 1, by omega⟩
      exact in_e (k := k) (by omega) ((endE_mem _ _ _).2 (Or.inr (Or.inr (Or.inr (Or.inr (Or.inr (Or.inr (Or.inr (Or.inr (Or.inr (Or.inl rfl)))))))))))
    · skip
      obtain ⟨J, rfl⟩ : ∃ J, N = J + 1 := ⟨N - 1, by omega⟩
      exact in_e (k := k) (by omega) ((endE_mem _ _ _).2 (Or.inr (Or.inr (Or.inr (Or.inr (Or.inr (Or.inr (Or.inr (Or.inr (Or.inl rfl))))))))))
    · skip
      obtain ⟨J, rfl⟩ : ∃ J, N = J + 1 := ⟨N - 1, by omega⟩
      rcases (by omega : k + 1 < M ∨ M = k + 1) with h1 | rfl
      · exact in_e (k := k + 1) (by omega) ((endE_mem _ _ _).2 (Or.inr (Or.inr (Or.inr (Or.inr (Or.inr (Or.inr (Or.inl rfl))))))))
      · exact in_f (i := J) (by omega) ((flatE_mem _ _ _).2 (Or.inr (Or.inr (Or.inr (Or.inr (Or.inr (Or.inr (Or.inr (Or.inr (Or.inr (Or.inr (Or.inl rfl))))))))))))
    · skip
      obtain ⟨J, rfl⟩ : ∃ J, N = J + 1 := ⟨N - 1, by omega⟩
      exact in_c (i := J) (k := k) (by omega) (by omega) ((cellE_mem _ _ _).2 (Or.inr (Or.inr (Or.inr (Or.inr (Or.inr (Or.inr (Or.inr (Or.inl rfl)))))))))
theorem ne_edge (N M : Nat) (x : Pt × Pt) (h : x ∈ edges N M) : x.1 ≠ x.2 := by
  rcases edge_cases h with ⟨i, k, hi, hk, h⟩ | ⟨i, hi, h⟩ | ⟨k, hk, h⟩
  · rw [cellE_mem] at h
    rcases h with rfl | rfl | rfl | rfl | rfl | rfl | rfl | rfl | rfl | rfl | rfl | rfl <;> simp
  · rw [flatE_mem] at h
    rcases h with rfl | rfl | rfl | rfl | rfl | rfl | rfl | rfl | rfl | rfl | rfl | rfl <;> simp
  · rw [endE_mem] at h
    rcases h with rfl | rfl | rfl | rfl | rfl | rfl | rfl | rfl | rfl | rfl | rfl | rfl <;> simp
def idx (N M : Nat) (p : Pt) : Nat := p.1 * ((N + 1) * (M + 1)) + p.2.1 * (M + 1) + p.2.2
def Okp (N M : Nat) (p : Pt) : Prop := p.1 < 2 ∧ p.2.1 ≤ N ∧ p.2.2 ≤ M
theorem edge_ok (N M : Nat) (x : Pt × Pt) (h : x ∈ edges N M) : Okp N M x.1 ∧ Okp N M x.2 := by
  unfold Okp
  rcases edge_cases h with ⟨i, k, hi, hk, h⟩ | ⟨i, hi, h⟩ | ⟨k, hk, h⟩
  · rw [cellE_mem] at h
    rcases h with rfl | rfl | rfl | rfl | rfl | rfl | rfl | rfl | rfl | rfl | rfl | rfl <;> simp only [] <;> omega
  · rw [flatE_mem] at h
    rcases h with rfl | rfl | rfl | rfl | rfl | rfl | rfl | rfl | rfl | rfl | rfl | rfl <;> simp only [] <;> omega
  · rw [endE_mem] at h
    rcases h with rfl | rfl | rfl | rfl | rfl | rfl | rfl | rfl | rfl | rfl | rfl | rfl <;> simp only [] <;> omega
theorem idx_lt {N M : Nat} {p : Pt} (h : Okp N M p) : idx N M p < 2 * ((N + 1) * (M + 1)) := by
  obtain ⟨h1, h2, h3⟩ := h
  unfold idx
  have a := Nat.mul_le_mul_right (M + 1) h2
  have b := Nat.mul_le_mul_right ((N + 1) * (M + 1)) (by omega : p.1 ≤ 1)
  have e : (N + 1) * (M + 1) = N * (M + 1) + (M + 1) := by rw [Nat.add_mul]; omega
  omega
theorem idx_inj {N M : Nat} {p q : Pt} (hp : Okp N M p) (hq : Okp N M q) (h : idx N M p = idx N M q) : p = q := by
  obtain ⟨p1, p2, p3⟩ := p
  obtain ⟨q1, q2, q3⟩ := q
  obtain ⟨a1, a2, a3⟩ := hp
  obtain ⟨b1, b2, b3⟩ := hq
  simp only [] at a1 a2 a3 b1 b2 b3
  unfold idx at h
  simp only [] at h
  have l1 := Nat.mul_le_mul_right (M + 1) a2
  have l2 := Nat.mul_le_mul_right (M + 1) b2
  have e : (N + 1) * (M + 1) = N * (M + 1) + (M + 1) := by rw [Nat.add_mul]; omega
  have e1 : p1 = q1 := by
    rcases (by omega : p1 = 0 ∨ p1 = 1) with rfl | rfl <;> rcases (by omega : q1 = 0 ∨ q1 = 1) with rfl | rfl <;> simp at h ⊢ <;> omega
  subst e1
  have h' : p2 * (M + 1) + p3 = q2 * (M + 1) + q3 := by omega
  have e3 : p3 = q3 := by
    have := congrArg (· % (M + 1)) h'
    simp only [Nat.mul_add_mod'] at this
    rwa [Nat.mod_eq_of_lt (by omega), Nat.mod_eq_of_lt (by omega)] at this
  subst e3
  have e2 : p2 = q2 := Nat.eq_of_mul_eq_mul_right (Nat.succ_pos M) (show p2 * (M + 1) = q2 * (M + 1) by omega)
  subst e2
  rfl
def py (H : Nat → Nat → Int) (p : Pt) : Int := if p.1 = 0 then H p.2.1 p.2.2 else -1 * H p.2.1 p.2.2
def fdet (X Z : Nat → Int) (H : Nat → Nat → Int) (f : Fc) : Int := det3 (X f.1.2.1) (py H f.1) (Z f.1.2.2) (X f.2.1.2.1) (py H f.2.1) (Z f.2.1.2.2) (X f.2.2.2.1) (py H f.2.2) (Z f.2.2.2.2)
def fy (H : Nat → Nat → Int) (f : Fc) : Int := py H f.1 + py H f.2.1 + py H f.2.2
def su (g : Fc → Int) : List Fc → Int
  | [] => 0
  | f :: l => g f + su g l
theorem su_append (g : Fc → Int) : ∀ a b : List Fc, su g (a ++ b) = su g a + su g b
  | [], b => by simp [su]
  | f :: l, b => by simp only [List.cons_append, su, su_append g l b]; omega
def sr (g : Nat → Int) : Nat → Int
  | 0 => 0
  | n + 1 => sr g n + g n
theorem su_range (g : Fc → Int) (f : Nat → List Fc) : ∀ n, su g ((List.range n).flatMap f) = sr (fun i => su g (f i)) n
  | 0 => rfl
  | n + 1 => by rw [List.range_succ, List.flatMap_append, su_append, su_range g f n]; simp [sr]
theorem sr_congr {g h : Nat → Int} : ∀ n, (∀ i, i < n → g i = h i) → sr g n = sr h n
  | 0, _ => rfl
  | n + 1, e => by rw [sr, sr, sr_congr n (fun i hi => e i (by omega)), e n (by omega)]
theorem sr_add (g h : Nat → Int) : ∀ n, sr (fun i => g i + h i) n = sr g n + sr h n
  | 0 => rfl
  | n + 1 => by rw [sr, sr, sr, sr_add g h n]; omega
theorem sr_tele (g : Nat → Int) : ∀ n, sr (fun i => g (i + 1) - g i) n = g n - g 0
  | 0 => by simp [sr]
  | n + 1 => by rw [sr, sr_tele g n]; omega
theorem sr_zero : ∀ n, sr (fun _ => 0) n = 0
  | 0 => rfl
  | n + 1 => by rw [sr, sr_zero n]; rfl
theorem sr_mul (c : Int) (g : Nat → Int) : ∀ n, sr (fun i => c * g i) n = c * sr g n
  | 0 => by simp [sr]
  | n + 1 => by rw [sr, sr, sr_mul c g n, Int.mul_add]
theorem sr_nonneg {g : Nat → Int} : ∀ n, (∀ i, i < n → 0 ≤ g i) → 0 ≤ sr g n
  | 0, _ => Int.le_refl _
  | n + 1, h => by have := sr_nonneg n (fun i hi => h i (by omega)); have := h n (by omega); rw [sr]; omega
theorem sr_pos {g : Nat → Int} (n : Nat) (h : ∀ i, i < n → 0 ≤ g i) (j : Nat) (hj : j < n) (hp : 0 < g j) : 0 < sr g n := by
  induction n with
  | zero => omega
  | succ n ih =>
    rw [sr]
    have h0 := sr_nonneg n (fun i hi => h i (by omega))
    have h1 := h n (by omega)
    by_cases e : j = n
    · subst e; omega
    · have := ih (fun i hi => h i (by omega)) (by omega); omega
def pri (X Z : Nat → Int) (H : Nat → Nat → Int) (i k : Nat) : Int := 2 * ((X (i + 1) - X i) * (Z (k + 1) - Z k)) * (2 * H i k + H (i + 1) k + H i (k + 1) + 2 * H (i + 1) (k + 1))
def hq (X Z : Nat → Int) (H : Nat → Nat → Int) (i k : Nat) : Int := 2 * (H i k + H (i + 1) k) * (Z k * (X (i + 1) - X i))
def vq (X Z : Nat → Int) (H : Nat → Nat → Int) (i k : Nat) : Int := 2 * (H i k + H i (k + 1)) * (X i * (Z (k + 1) - Z k))
theorem cell_vol (X Z : Nat → Int) (H : Nat → Nat → Int) (i k : Nat) : su (fdet X Z H) (cellS i k) = pri X Z H i k + (-1 * (hq X Z H i (k + 1) - hq X Z H i k) + -1 * (vq X Z H (i + 1) k - vq X Z H i k)) := by
  simp only [cellS, su, fdet, py, det3, pri, hq, vq]
  simp only [if_true, if_false, Nat.one_ne_zero]
  grind
theorem flat_vol (X Z : Nat → Int) (H : Nat → Nat → Int) (M i : Nat) : su (fdet X Z H) (flatS M i) = hq X Z H i M - hq X Z H i 0 := by
  simp only [flatS, su, fdet, py, det3, pri, hq, vq]
  simp only [if_true, if_false, Nat.one_ne_zero]
  grind
theorem end_vol (X Z : Nat → Int) (H : Nat → Nat → Int) (N k : Nat) : su (fdet X Z H) (endS N k) = vq X Z H N k - vq X Z H 0 k := by
  simp only [endS, su, fdet, py, det3, pri, hq, vq]
  simp only [if_true, if_false, Nat.one_ne_zero]
  grind

theorem sr_swap (g : Nat → Nat → Int) (m : Nat) : ∀ n, sr (fun i => sr (fun k => g i k) m) n = sr (fun k => sr (fun i => g i k) n) m
  | 0 => by
    have := sr_zero m
    simp only [sr]
    exact this.symm
  | n + 1 => by
    rw [sr, sr_swap g m n, ← sr_add]
    exact sr_congr m (fun k _ => rfl)
theorem vol (X Z : Nat → Int) (H : Nat → Nat → Int) (N M : Nat) : su (fdet X Z H) (faces N M) = sr (fun i => sr (fun k => pri X Z H i k) M) N := by
  unfold faces
  rw [su_append, su_append, su_range, su_range, su_range]
  rw [sr_congr (h := fun i => sr (fun k => pri X Z H i k) M + (-1 * (hq X Z H i M - hq X Z H i 0) + sr (fun k => -1 * (vq X Z H (i + 1) k - vq X Z H i k)) M)) N (fun i _ => by
    rw [su_range, sr_congr (h := fun k => pri X Z H i k + (-1 * (hq X Z H i (k + 1) - hq X Z H i k) + -1 * (vq X Z H (i + 1) k - vq X Z H i k))) M (fun k _ => cell_vol X Z H i k), sr_add, sr_add, sr_mul, sr_tele (fun k => hq X Z H i k)])]
  rw [sr_congr (h := fun i => hq X Z H i M - hq X Z H i 0) N (fun i _ => flat_vol X Z H M i)]
  rw [sr_congr (h := fun k => vq X Z H N k - vq X Z H 0 k) M (fun k _ => end_vol X Z H N k)]
  rw [sr_add, sr_add, sr_mul, sr_swap (fun i k => -1 * (vq X Z H (i + 1) k - vq X Z H i k)) M N]
  rw [sr_congr (g := fun k => sr (fun i => -1 * (vq X Z H (i + 1) k - vq X Z H i k)) N) (h := fun k => -1 * (vq X Z H N k - vq X Z H 0 k)) M (fun k _ => by rw [sr_mul, sr_tele (fun i => vq X Z H i k)]), sr_mul]
  omega
theorem cell_mid (X Z : Nat → Int) (H : Nat → Nat → Int) (i k : Nat) : su (fun f => fdet X Z H f * fy H f) (cellS i k) = 0 := by
  simp only [cellS, su, fdet, fy, py, det3]
  simp only [if_true, if_false, Nat.one_ne_zero]
  first | done | grind
theorem flat_mid (X Z : Nat → Int) (H : Nat → Nat → Int) (M i : Nat) : su (fun f => fdet X Z H f * fy H f) (flatS M i) = 0 := by
  simp only [flatS, su, fdet, fy, py, det3]
  simp only [if_true, if_false, Nat.one_ne_zero]
  first | done | grind
theorem end_mid (X Z : Nat → Int) (H : Nat → Nat → Int) (N k : Nat) : su (fun f => fdet X Z H f * fy H f) (endS N k) = 0 := by
  simp only [endS, su, fdet, fy, py, det3]
  simp only [if_true, if_false, Nat.one_ne_zero]
  first | done | grind
theorem mid (X Z : Nat → Int) (H : Nat → Nat → Int) (N M : Nat) : su (fun f => fdet X Z H f * fy H f) (faces N M) = 0 := by
  unfold faces
  rw [su_append, su_append, su_range, su_range, su_range]
  rw [sr_congr (g := fun i => su _ ((List.range M).flatMap fun k => cellS i k)) (h := fun _ => 0) N (fun i _ => by rw [su_range, sr_congr (h := fun _ => 0) M (fun k _ => cell_mid X Z H i k), sr_zero])]
  rw [sr_congr (g := fun i => su _ (flatS M i)) (h := fun _ => 0) N (fun i _ => flat_mid X Z H M i)]
  rw [sr_congr (g := fun k => su _ (endS N k)) (h := fun _ => 0) M (fun k _ => end_mid X Z H N k)]
  rw [sr_zero, sr_zero]
  rfl
theorem vol_pos (X Z : Nat → Int) (H : Nat → Nat → Int) (N M : Nat) (hX : ∀ i, i < N → X i < X (i + 1)) (hZ : ∀ k, k < M → Z k < Z (k + 1)) (hH : ∀ i k, i ≤ N → k ≤ M → 0 ≤ H i k) (hN : 0 < N) (hM : 0 < M) (i k : Nat) (hi : i ≤ N) (hk : k ≤ M) (hp : 0 < H i k) :
    0 < su (fdet X Z H) (faces N M) := by
  have dx : ∀ i, i < N → 0 < X (i + 1) - X i := fun i hi => by have := hX i hi; omega
  have dz : ∀ k, k < M → 0 < Z (k + 1) - Z k := fun k hk => by have := hZ k hk; omega
  have h0 : ∀ i k, i < N → k < M → 0 ≤ pri X Z H i k := fun i k hi hk => by
    unfold pri
    have a := hH i k (by omega) (by omega)
    have b := hH (i + 1) k (by omega) (by omega)
    have c := hH i (k + 1) (by omega) (by omega)
    have d := hH (i + 1) (k + 1) (by omega) (by omega)
    exact Int.mul_nonneg (Int.mul_nonneg (by omega) (Int.le_of_lt (Int.mul_pos (dx i hi) (dz k hk)))) (by omega)
  have hpos : ∀ i k, i < N → k < M → (0 < H i k ∨ 0 < H (i + 1) k ∨ 0 < H i (k + 1) ∨ 0 < H (i + 1) (k + 1)) → 0 < pri X Z H i k := fun i k hi hk h => by
    unfold pri
    have a := hH i k (by omega) (by omega)
    have b := hH (i + 1) k (by omega) (by omega)
    have c := hH i (k + 1) (by omega) (by omega)
    have d := hH (i + 1) (k + 1) (by omega) (by omega)
    exact Int.mul_pos (Int.mul_pos (by omega) (Int.mul_pos (dx i hi) (dz k hk))) (by omega)
  rw [vol]
  obtain ⟨j, hj, ej⟩ : ∃ j, j < N ∧ (i = j ∨ i = j + 1) := by
    rcases (by omega : i < N ∨ i = N) with h | h
    · exact ⟨i, h, Or.inl rfl⟩
    · exact ⟨N - 1, by omega, Or.inr (by omega)⟩
  obtain ⟨l, hl, el⟩ : ∃ l, l < M ∧ (k = l ∨ k = l + 1) := by
    rcases (by omega : k < M ∨ k = M) with h | h
    · exact ⟨k, h, Or.inl rfl⟩
    · exact ⟨M - 1, by omega, Or.inr (by omega)⟩
  refine sr_pos N (fun i hi => sr_nonneg M (fun k hk => h0 i k hi hk)) j hj (sr_pos M (fun k hk => h0 j k hj hk) l hl (hpos j l hj hl ?_))
  rcases ej with rfl | rfl <;> rcases el with rfl | rfl
  · exact Or.inl hp
  · exact Or.inr (Or.inr (Or.inl hp))
  · exact Or.inr (Or.inl hp)
  · exact Or.inr (Or.inr (Or.inr hp))
theorem vol_box (X Z : Nat → Int) (b : Int) (N M : Nat) (H : Nat → Nat → Int) (hH : ∀ i k, i ≤ N → k ≤ M → H i k = b) : su (fdet X Z H) (faces N M) = 12 * b * ((X N - X 0) * (Z M - Z 0)) := by
  rw [vol]
  rw [sr_congr (h := fun i => (12 * b * (Z M - Z 0)) * (X (i + 1) - X i)) N (fun i hi => by
    rw [sr_congr (h := fun k => (12 * b * (X (i + 1) - X i)) * (Z (k + 1) - Z k)) M (fun k hk => by
      unfold pri
      rw [hH i k (by omega) (by omega), hH (i + 1) k (by omega) (by omega), hH i (k + 1) (by omega) (by omega), hH (i + 1) (k + 1) (by omega) (by omega)]
      grind), sr_mul, sr_tele]
    grind), sr_mul, sr_tele]
  grind

theorem su_take (g : Fc → Int) : ∀ (l : List Fc) (j : Nat) (h : j < l.length), su g (l.take (j + 1)) = su g (l.take j) + g l[j]
  | [], j, h => absurd h (by simp)
  | f :: l, 0, h => by simp [su]
  | f :: l, j + 1, h => by
    have := su_take g l j (by simpa using h)
    simp only [List.take_succ_cons, su, List.getElem_cons_succ]
    rw [this]; omega
def cor (f : Fc) : List Pt := [f.1, f.2.1, f.2.2]
def corners (N M : Nat) : List Pt := (faces N M).flatMap cor
theorem get3 {α : Type} (u : Fc → List α) (hu : ∀ f, (u f).length = 3) : ∀ (l : List Fc) (j c : Nat) (_ : c < 3) (h : j < l.length), (l.flatMap u)[3 * j + c]? = (u l[j])[c]?
  | [], j, c, hc, h => absurd h (by simp)
  | f :: l, 0, c, hc, h => by
    rw [List.flatMap_cons, List.getElem?_append_left (by rw [hu]; omega)]
    simp
  | f :: l, j + 1, c, hc, h => by
    have := get3 u hu l j c hc (by simpa using h)
    rw [List.flatMap_cons, List.getElem?_append_right (by rw [hu]; omega), hu]
    rw [show 3 * (j + 1) + c - 3 = 3 * j + c by omega, this]
    simp
theorem len3 {α : Type} (u : Fc → List α) (hu : ∀ f, (u f).length = 3) : ∀ l : List Fc, (l.flatMap u).length = 3 * l.length
  | [] => rfl
  | f :: l => by rw [List.flatMap_cons, List.length_append, hu, len3 u hu l, List.length_cons]; omega
theorem len_flat {α : Type} (u : Nat → List α) (c : Nat) (hu : ∀ i, (u i).length = c) : ∀ n, ((List.range n).flatMap u).length = c * n
  | 0 => by simp
  | n + 1 => by rw [List.range_succ, List.flatMap_append, List.length_append, len_flat u c hu n]; simp [hu, Nat.mul_add]
theorem faces_len (N M : Nat) : (faces N M).length = 4 * M * N + 4 * N + 4 * M := by
  unfold faces
  rw [List.length_append, List.length_append, len_flat _ (4 * M) (fun i => by rw [len_flat _ 4 (fun k => rfl)]), len_flat _ 4 (fun i => rfl), len_flat _ 4 (fun i => rfl)]
theorem face_ok {N M : Nat} {f : Fc} (h : f ∈ faces N M) : Okp N M f.1 ∧ Okp N M f.2.1 ∧ Okp N M f.2.2 := by
  have h1 : (f.1, f.2.1) ∈ edges N M := List.mem_flatMap.2 ⟨f, h, by simp [fe]⟩
  have h2 : (f.2.1, f.2.2) ∈ edges N M := List.mem_flatMap.2 ⟨f, h, by simp [fe]⟩
  exact ⟨(edge_ok N M _ h1).1, (edge_ok N M _ h1).2, (edge_ok N M _ h2).2⟩
theorem edges_len (N M : Nat) : (edges N M).length = 3 * (faces N M).length := len3 fe (fun f => rfl) _
theorem corners_len (N M : Nat) : (corners N M).length = 3 * (faces N M).length := len3 cor (fun f => rfl) _
@[irreducible] def cF (N M : Nat) (t : Nat) : Int := match (corners N M)[t]? with
  | some p => (idx N M p : Int)
  | none => 0
theorem cF_at (N M j c : Nat) (hc : c < 3) (h : j < (faces N M).length) : cF N M (3 * j + c) = match (cor (faces N M)[j])[c]? with
  | some p => (idx N M p : Int)
  | none => 0 := by
  unfold cF corners
  rw [get3 cor (fun f => rfl) _ j c hc h]
theorem cF_0 (N M j : Nat) (h : j < (faces N M).length) : cF N M (3 * j) = (idx N M (faces N M)[j].1 : Int) := by have := cF_at N M j 0 (by omega) h; simpa [cor] using this
theorem cF_1 (N M j : Nat) (h : j < (faces N M).length) : cF N M (3 * j + 1) = (idx N M (faces N M)[j].2.1 : Int) := by have := cF_at N M j 1 (by omega) h; simpa [cor] using this
theorem cF_2 (N M j : Nat) (h : j < (faces N M).length) : cF N M (3 * j + 2) = (idx N M (faces N M)[j].2.2 : Int) := by have := cF_at N M j 2 (by omega) h; simpa [cor] using this
theorem eg_edge (N M t : Nat) (h : t < 3 * (faces N M).length) : ∃ x, (edges N M)[t]? = some x ∧ cF N M t = (idx N M x.1 : Int) ∧ cF N M (3 * (t / 3) + (t % 3 + 1) % 3) = (idx N M x.2 : Int) := by
  have hj : t / 3 < (faces N M).length := by omega
  have e0 := cF_0 N M (t / 3) hj
  have e1 := cF_1 N M (t / 3) hj
  have e2 := cF_2 N M (t / 3) hj
  have ee := fun c hc => get3 fe (fun f => rfl) (faces N M) (t / 3) c hc hj
  rcases (by omega : t = 3 * (t / 3) ∨ t = 3 * (t / 3) + 1 ∨ t = 3 * (t / 3) + 2) with e | e | e
  · refine ⟨((faces N M)[t / 3].1, (faces N M)[t / 3].2.1), ?_, ?_, ?_⟩
    · have := ee 0 (by omega)
      rw [Nat.add_zero, ← e] at this
      exact this
    · exact (congrArg (cF N M) e).trans e0
    · rw [show (t % 3 + 1) % 3 = 1 by omega]; exact e1
  · refine ⟨((faces N M)[t / 3].2.1, (faces N M)[t / 3].2.2), ?_, ?_, ?_⟩
    · have := ee 1 (by omega)
      rw [← e] at this
      exact this
    · exact (congrArg (cF N M) e).trans e1
    · rw [show (t % 3 + 1) % 3 = 2 by omega]; exact e2
  · refine ⟨((faces N M)[t / 3].2.2, (faces N M)[t / 3].1), ?_, ?_, ?_⟩
    · have := ee 2 (by omega)
      rw [← e] at this
      exact this
    · exact (congrArg (cF N M) e).trans e2
    · rw [show (t % 3 + 1) % 3 = 0 by omega]; exact e0
end Go.Proofs.YthikaimhmpenhaaDoor.Sf
