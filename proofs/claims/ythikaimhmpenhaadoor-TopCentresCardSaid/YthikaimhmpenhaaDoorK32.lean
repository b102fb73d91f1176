/-
  What package hydro's outline returns: corners' answer for the form with all heights doubled.
  A band's share by Simpson's rule as a fraction; the corners of a waterline as numbers over a denominator, and their bounds.
  Integrals over a waterline as fractions: area, moment along.
  What the closure value of package hydro's below returns.
  (Written by wip/pack.py out of XFHyK, XFNumC, XFNumD, XFHyL.)
-/
import Derived.Test.YthikaimhmpenhaaDoorK31
import Derived.Test.YthikaimhmpenhaaDoorK29
import Derived.Test.YthikaimhmpenhaaDoorK30

namespace Go.Proofs.YthikaimhmpenhaaDoor
set_option linter.all false
open Go Go.RowKit Wd
set_option maxRecDepth 100000
def CornC (X Z : List Int) (H : List (List Int)) (z : Int) (m : Nat) (gx gy : Nat → Fr) : Prop := ∀ (bX oX cX bZ oZ cZ bH oH cH : Nat) (A : Nat → Option Addr) (C : Nat → Nat) (w : World), Tab64 w → Ints w bX oX X → Ints w bZ oZ Z → Rws w bH oH A C H →
  Calls Tryd.prog 55 #[.agg #[.slice (some ⟨bX, oX, none⟩) X.length cX, .slice (some ⟨bZ, oZ, none⟩) Z.length cZ, .slice (some ⟨bH, oH, none⟩) H.length cH], .int .i64 z] w fun e w' =>
      ∃ b c b' c', e = .returned (.tuple #[.slice (some ⟨b, 0, none⟩) m c, .slice (some ⟨b', 0, none⟩) m c']) ∧ Below w.heap.size w w' ∧ Rf w' b m gx ∧ Rf w' b' m gy
def OutC (X Z : List Int) (H : List (List Int)) (z : Int) (m : Nat) (gx gy : Nat → Fr) : Prop := ∀ (bX oX cX bZ oZ cZ bH oH cH : Nat) (A : Nat → Option Addr) (C : Nat → Nat) (w : World), Tab64 w → Ints w bX oX X → Ints w bZ oZ Z → Rws w bH oH A C H →
  Calls Tryd.prog 40 #[.agg #[.slice (some ⟨bX, oX, none⟩) X.length cX, .slice (some ⟨bZ, oZ, none⟩) Z.length cZ, .slice (some ⟨bH, oH, none⟩) H.length cH], .int .i64 z] w fun e w' =>
      ∃ b c b' c', e = .returned (.tuple #[.slice (some ⟨b, 0, none⟩) m c, .slice (some ⟨b', 0, none⟩) m c']) ∧ Below w.heap.size w w' ∧ Rf w' b m gx ∧ Rf w' b' m gy
@[irreducible] def dblZ (Z : List Int) : List Int := Z.map (2 * ·)
theorem dblZ_len (Z : List Int) : (dblZ Z).length = Z.length := by unfold dblZ; simp
theorem dblZ_at (Z : List Int) {i : Nat} (h : i < Z.length) : ix (dblZ Z) i = 2 * ix Z i := by
  rw [ix_get (by rw [dblZ_len]; exact h), ix_get h]
  unfold dblZ
  simp
@[irreducible] def dbl (Z : List Int) (n : Nat) : List Value := (List.range n).map fun j => .int .i64 (2 * ix Z j)
theorem dbl_zero (Z : List Int) : dbl Z 0 = [] := by unfold dbl; rfl
theorem dbl_succ (Z : List Int) (n : Nat) : dbl Z (n + 1) = dbl Z n ++ [.int .i64 (2 * ix Z n)] := by unfold dbl; rw [List.range_succ, List.map_append]; rfl
theorem dbl_at (Z : List Int) {i n : Nat} (h : i < n) : (dbl Z n)[i]? = some (.int .i64 (2 * ix Z i)) := by unfold dbl; simp [h]
theorem infoI : (Tryd.prog.info? 3).map (fun i => (i.zero, i.size, i.bytes)) = some (some (.int .i64 0), 1, 8) := by kernel_rfl
structure OutM (w : World) (fx fh zv : Value) (Z : List Int) (i : Nat) (wr : World) : Prop where
  c : ∀ o, wr.cell? ⟨w.heap.size + 1, o, none⟩ = (#[fx, zv, fh] : Array Value)[o]?
  fr : ∀ o, wr.frozen? ⟨w.heap.size + 1, o, none⟩ = false
  own : wr.ownsRow (w.heap.size + 2) 3 1 zv i (dbl Z i)
  b : Below w.heap.size w wr
  base : w.heap.size + 2 ≤ wr.heap.size
theorem OutM.alloc {w wr : World} {fx fh zv : Value} {Z : List Int} {i : Nat} (h : OutM w fx fh zv Z i wr) (O : Obj) : OutM w fx fh zv Z i (wr.alloc O) :=
  ⟨keep_cell_a (by have := h.base; omega) h.c, keep_frozen_a (by have := h.base; omega) h.fr, h.own.alloc O, below_alloc h.b O, by have := h.base; simp; omega⟩
theorem OutM.step {w wr w1 : World} {fx fh zv : Value} {Z : List Int} {i g cap : Nat} (h : OutM w fx fh zv Z i wr) (hown : w1.ownsRow (w.heap.size + 2) 3 1 (.slice (some ⟨g, 0, none⟩) (i + 1) cap) (i + 1) (dbl Z i ++ [.int .i64 (2 * ix Z i)]))
    (hg : wr.grownBy w1 zv.ownBlock) (hgl : w.heap.size + 2 ≤ g) : OutM w fx fh (.slice (some ⟨g, 0, none⟩) (i + 1) cap) Z (i + 1) (w1.setCell ⟨w.heap.size + 1, 1, none⟩ (.slice (some ⟨g, 0, none⟩) (i + 1) cap)) := by
  have hb := h.base
  have hB : some (w.heap.size + 1) ≠ zv.ownBlock := fun e => by
    have := (h.own.lt _ e.symm).1
    omega
  have hblk := hg.block (w.heap.size + 1) (by omega) hB
  have hc1 : ∀ o, w1.cell? ⟨w.heap.size + 1, o, none⟩ = (#[fx, zv, fh] : Array Value)[o]? := fun o => (World.cell?_of_block (a := ⟨w.heap.size + 1, o, none⟩) hblk).trans (h.c o)
  have hf1 : ∀ o, w1.frozen? ⟨w.heap.size + 1, o, none⟩ = false := fun o => (World.frozen?_of_block (a := ⟨w.heap.size + 1, o, none⟩) hblk).trans (h.fr o)
  have hset := set_at (i := 1) (v := .slice (some ⟨g, 0, none⟩) (i + 1) cap) hc1
  refine ⟨hset, fun o => by rw [World.frozen?_setCell]; exact hf1 o, ?_, ?_, ?_⟩
  · rw [dbl_succ]
    exact own_set hown (by simp [Value.ownBlock]; omega) _
  · exact (h.b.grown hg (by omega) (fun k hk => by have := (h.own.lt k hk).1; omega)).setCell (by simp only []; omega) _
  · have := hg.size
    simp
    omega
theorem own_ints {w : World} {base : Nat} {v : Value} {Z : List Int} {n : Nat} (h : w.ownsRow base 3 1 v n (dbl Z n)) (hn : 0 < n) (hZ : n = Z.length) : ∃ b c, v = .slice (some ⟨b, 0, none⟩) n c ∧ Ints w b 0 (dblZ Z) := by
  obtain ⟨b, c, rfl, hg, hl⟩ := h.form hn
  refine ⟨b, c, rfl, hl, fun j hj => ?_⟩
  rw [dblZ_len] at hj
  have h2 := h.cellAt j (by omega)
  have e : (dbl Z n)[j]? = some (.int .i64 (2 * ix Z j)) := dbl_at Z (by omega)
  rw [Nat.zero_add, h2, e, dblZ_at Z hj]
theorem OutM.kept {w wr w1 : World} {fx fh zv : Value} {Z : List Int} {i : Nat} (h : OutM w fx fh zv Z i wr) (hg : wr.grownBy w1 zv.ownBlock) : (∀ o, w1.cell? ⟨w.heap.size + 1, o, none⟩ = (#[fx, zv, fh] : Array Value)[o]?) ∧ (∀ o, w1.frozen? ⟨w.heap.size + 1, o, none⟩ = false) := by
  have hb := h.base
  have hB : some (w.heap.size + 1) ≠ zv.ownBlock := fun e => by
    have := (h.own.lt _ e.symm).1
    omega
  have hblk := hg.block (w.heap.size + 1) (by omega) hB
  exact ⟨fun o => (World.cell?_of_block (a := ⟨w.heap.size + 1, o, none⟩) hblk).trans (h.c o), fun o => (World.frozen?_of_block (a := ⟨w.heap.size + 1, o, none⟩) hblk).trans (h.fr o)⟩
theorem newsI (x : World) (T : TypeId) (u0 : Value) : ∀ j v, ([u0] : List Value)[j]? = some v → (x.alloc (.cells #[u0] T)).cell? ((⟨x.heap.size, 0, none⟩ : Addr).add j) = some v := fun j v hv => by
  have hadd : (⟨x.heap.size, 0, none⟩ : Addr).add j = ⟨x.heap.size, j, none⟩ := by unfold Addr.add; split <;> simp_all
  rw [hadd, new_cells]
  simpa using hv
set_option maxHeartbeats 8000000 in
theorem outlineH {X Z : List Int} {H : List (List Int)} {z : Int} {m : Nat} {gx gy : Nat → Fr} (hz1 : 1 ≤ Z.length) (hz16 : Z.length ≤ 16) (hZb : ∀ k, k < Z.length → 0 ≤ ix Z k ∧ ix Z k ≤ 1000000) (hc : CornC X (dblZ Z) H z m gx gy) : OutC X Z H z m gx gy := by
  intro bX oX cX bZ oZ cZ bH oH cH A C w hT hX hZ hH
  have HX := Lib.hid hX
  have HZ := Lib.hid hZ
  have HH := Lib.hid hH
  have HT := Lib.hid hT
  have HC := Lib.hid hc
  have HB := Lib.hid hZb
  have HML := Lib.hid (show ∀ q : Nat, q ≤ 1000 → q + 1 ≤ maxLen from fun q hq => by unfold maxLen; omega)
  obtain ⟨i0, hinf, hi0, hi1, hi2⟩ := info_parts infoI
  have hz16' : (Z.length : Int) ≤ 16 := by omega
  clear hX hZ hH hT hc hZb
  go_enter Tryd.func40, Tryd.ntmps40
  go_upto_region 3 with (fail)
  go_loopg [17] Z.length (fun gg v wr => ∃ (i : Nat) (zv : Value), i ≤ Z.length ∧ Z.length - i ≤ gg ∧ v = .int .i64 (i : Int) ∧ Hid (OutM w (.slice (some ⟨bX, oX, none⟩) X.length cX) (.slice (some ⟨bH, oH, none⟩) H.length cH) zv Z i wr))
  case atStart => exact ⟨0, .slice none 0 0, by omega, by omega, rfl, Lib.hid ⟨fun o => by simp [go_sem], fun o => by simp [go_sem], by rw [dbl_zero]; exact World.ownsRow_nil _ _ _ _, by (repeat' first | (with_reducible first | exact Bq0 | assumption | refine Bq1 ?_ | refine Bq2 ?_ | refine Bq3 ?_ ?_ | refine Bq4 ?_ (by assumption)) | go_size), by simp⟩⟩
  case round =>
    obtain ⟨i, zv, hi, hgi, rfl, HI⟩ := hrel
    by_cases hlt : i < Z.length
    · have hiZ : (i : Int) < (Z.length : Int) := by omega
      have zc := (HZ.out.later HI.out.b).cell i hlt
      have zb := HB.out i hlt
      have c0 := HI.out.c
      have f0 := HI.out.fr
      have hbase := HI.out.base
      obtain ⟨zi, hzi⟩ : ∃ zi, zi = ix Z i := ⟨_, rfl⟩
      rw [← hzi] at zc zb
      have hw1 : IntKind.i64.wrap (2 * zi) = 2 * zi := by rw [IntKind.wrap_i64]; omega
      have HZI := Lib.hid hzi
      clear hzi
      go_upto_region 5 with (fail)
      go_wp2_with (first | (at_builtin; refine wpList_append_lies _ rfl _ _ 22 rfl (w.heap.size + 2) 3 i0 (.int .i64 0) 1 8 Tryd.underlying22 hinf hi0 hi1 hi2 rfl (by decide) zv i (dbl Z i) rfl (HI.out.alloc _).own ⟨wr.heap.size, 0, none⟩ 1 1 [.int .i64 (2 * zi)] rfl rfl (newsI wr _ _) (by simp [Value.oneCell']) (by omega) (HML.out _ (by omega)) (by omega) (by have := hbase; simp; omega) _ rfl ?_))
      intro g cap w1 hown hgrow hat hlt1
      have hgl : w.heap.size + 2 ≤ g := by
        rcases hat with e | e
        · exact (HI.out.own.lt g e).1
        · omega
      obtain ⟨c1, f1⟩ := (HI.out.alloc _).kept hgrow
      have HO := Lib.hid ((HI.out.alloc _).step (cap := cap) (g := g) (by rw [← HZI.out]; exact hown) hgrow hgl)
      have lw1 : w.heap.size + 1 < w1.heap.size := by omega
      clear c0 f0 hown hgrow hat hlt1 HI hgl
      go_wp2
      go_roundg (Z.length - (i + 1))
      case measure => omega
      case rel => exact ⟨i + 1, _, by omega, by omega, by go_num, HO⟩
    · obtain rfl : i = Z.length := by omega
      obtain ⟨bz2, cz2, rfl, hZ2⟩ := own_ints HI.out.own (by omega) rfl
      have c0 := HI.out.c
      have hbO := HI.out.b
      have hbase := HI.out.base
      have hX2 := HX.out.later hbO
      have hH2 := HH.out.later hbO
      have hT2 := HT.out.later hbO
      have HK := Lib.hid (HC.out bX oX cX bz2 0 cz2 bH oH cH A C wr hT2 hX2 hZ2 hH2)
      rw [dblZ_len] at HK
      go_wp2_with fail
      ((with_reducible refine HK.out.mono ?_); rintro e w1 ⟨b, c, b', c', rfl, hb1, r1, r2⟩)
      go_wp2
      go_returns
      exact ⟨b, c, b', c', rfl, below_after hbO hb1, r1, r2⟩
end Go.Proofs.YthikaimhmpenhaaDoor

namespace Go.Proofs.YthikaimhmpenhaaDoor
set_option linter.all false
open Go Go.RowKit Wd
open Sf (sr sr_congr sr_add sr_mul sr_nonneg)
set_option maxRecDepth 100000
def BandC (h : Int) (v0 v1 v2 y : Fr) : Prop := ∃ o4 p u oh, OfC 4 1 o4 ∧ TimC 2 (pk2 o4 v1) p ∧ SumC 3 (pk3 v0 p v2) u ∧ OfC h 6 oh ∧ TimC 2 (pk2 oh u) y
theorem bandQ {x0 x1 x2 h : Int} {m : Nat} (hm : 0 < m) (hM : m ≤ 100000) (a0 : 0 ≤ x0) (b0 : x0 ≤ 10000000000000) (a1 : 0 ≤ x1) (b1 : x1 ≤ 10000000000000) (a2 : 0 ≤ x2) (b2 : x2 ≤ 10000000000000) (hh : 0 ≤ h) (hh' : h ≤ 120) :
    BandC h (q x0 m) (q x1 (4 * m)) (q x2 m) (q (h * (x0 + x1 + x2)) (6 * m)) := by
  refine ⟨q 4 1, q x1 m, q (x0 + x1 + x2) m, q h 6, ofQ 4 1 (by omega) (by omega) (by omega) (by omega), ?_, ?_, ofQ h 6 (by omega) (by omega) (by omega) (by omega), ?_⟩
  · refine tim2E (B := 4) (M := 1) (B' := 10000000000000) (M' := 400000) ⟨by omega, by omega, by omega, by omega, by omega, by omega⟩ (bd _ _ (by omega) (by omega) (by omega) (by omega)) (bd _ _ (by omega) (by omega) (by omega) (by omega)) hm ?_
    rw [Int.natCast_mul]
    generalize (m : Int) = e
    have : ((4 : Nat) : Int) = 4 := rfl
    have : ((1 : Nat) : Int) = 1 := rfl
    grind
  · exact sum3E (B := 10000000000000) (M := 100000) (B' := 10000000000000) (M' := 100000) (Bs := 20000000000000) (Ms := 100000) (Bx := 10000000000000) (Mx := 100000) (s := x0 + x1) (k := m) ⟨by omega, by omega, by omega, by omega, by omega, by omega⟩ ⟨by omega, by omega, by omega, by omega, by omega, by omega⟩
      (bd _ _ (by omega) (by omega) hm hM) (bd _ _ (by omega) (by omega) hm hM) (bd _ _ (by omega) (by omega) hm hM) (bd _ _ (by omega) (by omega) hm hM) hm same_add same_add
  · refine tim2E (B := 120) (M := 6) (B' := 30000000000000) (M' := 100000) ⟨by omega, by omega, by omega, by omega, by omega, by omega⟩ (bd _ _ (by omega) (by omega) (by omega) (by omega)) (bd _ _ (by omega) (by omega) hm hM) (by omega) ?_
    rw [Int.natCast_mul]
theorem mix_bd {a b C D t : Int} (ha : 0 ≤ a) (ha' : a ≤ C) (hb : 0 ≤ b) (hb' : b ≤ C) (ht : 0 ≤ t) (ht' : t ≤ D) : 0 ≤ D * a + t * (b - a) ∧ D * a + t * (b - a) ≤ D * C := by
  have e : D * a + t * (b - a) = (D - t) * a + t * b := by grind
  have e2 : D * C = (D - t) * C + t * C := by grind
  rw [e, e2]
  have h1 := Int.mul_nonneg (show 0 ≤ D - t by omega) ha
  have h2 := Int.mul_nonneg ht hb
  have h3 := Int.mul_le_mul_of_nonneg_left ha' (show 0 ≤ D - t by omega)
  have h4 := Int.mul_le_mul_of_nonneg_left hb' ht
  omega
def cutX (X : Nat → Int) (D t : Int) (j : Nat) : Int := if j % 2 = 0 then D * X (j / 2) else D * X (j / 2) + t * (X (j / 2 + 1) - X (j / 2))
def cutY (a b : Nat → Int) (D t : Int) (j : Nat) : Int := if j % 2 = 0 then D * a (j / 2) + t * (b (j / 2) - a (j / 2)) else D * a (j / 2) + t * (b (j / 2 + 1) - a (j / 2))
theorem cutX_0 (X : Nat → Int) (D t : Int) (i : Nat) : cutX X D t (2 * i) = D * X i := by
  unfold cutX; rw [if_pos (by omega), show 2 * i / 2 = i by omega]
theorem cutX_1 (X : Nat → Int) (D t : Int) (i : Nat) : cutX X D t (2 * i + 1) = D * X i + t * (X (i + 1) - X i) := by
  unfold cutX; rw [if_neg (by omega), show (2 * i + 1) / 2 = i by omega]
theorem cutY_0 (a b : Nat → Int) (D t : Int) (i : Nat) : cutY a b D t (2 * i) = D * a i + t * (b i - a i) := by
  unfold cutY; rw [if_pos (by omega), show 2 * i / 2 = i by omega]
theorem cutY_1 (a b : Nat → Int) (D t : Int) (i : Nat) : cutY a b D t (2 * i + 1) = D * a i + t * (b (i + 1) - a i) := by
  unfold cutY; rw [if_neg (by omega), show (2 * i + 1) / 2 = i by omega]
structure Wl (px py : Nat → Int) (m : Nat) (E : Int) : Prop where
  x0 : ∀ j, j < m → 0 ≤ px j ∧ px j ≤ E
  up : ∀ j, j + 1 < m → px j ≤ px (j + 1)
  y0 : ∀ j, j < m → 0 ≤ py j ∧ py j ≤ E
theorem wl_cut {X a b : Nat → Int} {D t C : Int} {N : Nat} (hX : ∀ i, i ≤ N → 0 ≤ X i ∧ X i ≤ C) (hup : ∀ i, i < N → X i ≤ X (i + 1)) (ha : ∀ i, i ≤ N → 0 ≤ a i ∧ a i ≤ C) (hb : ∀ i, i ≤ N → 0 ≤ b i ∧ b i ≤ C) (ht : 0 ≤ t) (ht' : t ≤ D) : Wl (cutX X D t) (cutY a b D t) (2 * N + 1) (D * C) := by
  have par : ∀ j, (∃ i, j = 2 * i) ∨ (∃ i, j = 2 * i + 1) := fun j => by
    rcases Nat.mod_two_eq_zero_or_one j with h | h
    · exact Or.inl ⟨j / 2, by omega⟩
    · exact Or.inr ⟨j / 2, by omega⟩
  have sc : ∀ x : Int, 0 ≤ x → x ≤ C → 0 ≤ D * x ∧ D * x ≤ D * C := fun x h h' => by
    have := mix_bd h h' h h' ht ht'
    rw [Int.sub_self, Int.mul_zero, Int.add_zero] at this
    exact this
  refine ⟨fun j hj => ?_, fun j hj => ?_, fun j hj => ?_⟩
  · rcases par j with ⟨i, rfl⟩ | ⟨i, rfl⟩
    · rw [cutX_0]
      exact sc _ (hX i (by omega)).1 (hX i (by omega)).2
    · rw [cutX_1]
      exact mix_bd (hX i (by omega)).1 (hX i (by omega)).2 (hX (i + 1) (by omega)).1 (hX (i + 1) (by omega)).2 ht ht'
  · rcases par j with ⟨i, rfl⟩ | ⟨i, rfl⟩
    · rw [cutX_0, cutX_1]
      have := Int.mul_nonneg ht (show 0 ≤ X (i + 1) - X i by have := hup i (by omega); omega)
      omega
    · rw [cutX_1, show 2 * i + 1 + 1 = 2 * (i + 1) by omega, cutX_0]
      have h1 := Int.mul_nonneg (show 0 ≤ D - t by omega) (show 0 ≤ X (i + 1) - X i by have := hup i (by omega); omega)
      have e : (D - t) * (X (i + 1) - X i) = D * X (i + 1) - (D * X i + t * (X (i + 1) - X i)) := by
        generalize X (i + 1) = x1
        generalize X i = x0
        grind
      omega
  · rcases par j with ⟨i, rfl⟩ | ⟨i, rfl⟩
    · rw [cutY_0]
      exact mix_bd (ha i (by omega)).1 (ha i (by omega)).2 (hb i (by omega)).1 (hb i (by omega)).2 ht ht'
    · rw [cutY_1]
      exact mix_bd (ha i (by omega)).1 (ha i (by omega)).2 (hb (i + 1) (by omega)).1 (hb (i + 1) (by omega)).2 ht ht'
theorem wl_whole {X a : Nat → Int} {C : Int} {N : Nat} (hX : ∀ i, i ≤ N → 0 ≤ X i ∧ X i ≤ C) (hup : ∀ i, i < N → X i ≤ X (i + 1)) (ha : ∀ i, i ≤ N → 0 ≤ a i ∧ a i ≤ C) : Wl X a (N + 1) C :=
  ⟨fun j hj => hX j (by omega), fun j hj => hup j (by omega), fun j hj => ha j (by omega)⟩
def ta (px py : Nat → Int) (j : Nat) : Int := (px (j + 1) - px j) * (py j + py (j + 1))
def tl (px py : Nat → Int) (j : Nat) : Int := s3 (px j) (py j) (px (j + 1)) (py (j + 1))
theorem sr_le (T g : Nat → Int) (c : Int) : ∀ n, (∀ i, i < n → T i ≤ (g (i + 1) - g i) * c) → sr T n ≤ (g n - g 0) * c
  | 0, _ => by rw [Int.sub_self, Int.zero_mul]; exact Int.le_refl _
  | n + 1, h => by
    have h1 := sr_le T g c n (fun i hi => h i (by omega))
    have h2 := h n (by omega)
    have e : sr T (n + 1) = sr T n + T n := rfl
    rw [e]
    have e2 : (g (n + 1) - g 0) * c = (g n - g 0) * c + (g (n + 1) - g n) * c := by
      generalize g (n + 1) = a
      generalize g n = b
      generalize g 0 = d
      grind
    omega
variable {px py : Nat → Int} {m : Nat} {E : Int}
theorem Wl.ta0 (h : Wl px py m E) {j : Nat} (hj : j + 1 < m) : 0 ≤ ta px py j :=
  Int.mul_nonneg (by have := h.up j hj; omega) (by have := (h.y0 j (by omega)).1; have := (h.y0 (j + 1) hj).1; omega)
theorem Wl.taS (h : Wl px py m E) (hE : 0 ≤ E) {n : Nat} (hn : n + 1 ≤ m) : sr (ta px py) n ≤ E * (2 * E) := by
  have h1 := sr_le (ta px py) px (2 * E) n (fun i hi => Int.mul_le_mul_of_nonneg_left (by have := (h.y0 i (by omega)).2; have := (h.y0 (i + 1) (by omega)).2; omega) (by have := h.up i (by omega); omega))
  have h2 : (px n - px 0) * (2 * E) ≤ E * (2 * E) := Int.mul_le_mul_of_nonneg_right (by have := (h.x0 n (by omega)).2; have := (h.x0 0 (by omega)).1; omega) (by omega)
  omega
theorem Wl.tlI (h : Wl px py m E) (hE : 0 ≤ E) {j : Nat} (hj : j + 1 < m) : 0 ≤ px j * py j + (px j + px (j + 1)) * (py j + py (j + 1)) + px (j + 1) * py (j + 1) ∧ px j * py j + (px j + px (j + 1)) * (py j + py (j + 1)) + px (j + 1) * py (j + 1) ≤ 6 * (E * E) := by
  obtain ⟨a0, a1⟩ := h.x0 j (by omega)
  obtain ⟨b0, b1⟩ := h.x0 (j + 1) hj
  obtain ⟨c0, c1⟩ := h.y0 j (by omega)
  obtain ⟨d0, d1⟩ := h.y0 (j + 1) hj
  have m0 := mul_bd a0 c0 a1 c1
  have m1 := mul_bd b0 d0 b1 d1
  have m2 := mul_bd (by omega : 0 ≤ px j + px (j + 1)) (by omega : 0 ≤ py j + py (j + 1)) (by omega : px j + px (j + 1) ≤ 2 * E) (by omega : py j + py (j + 1) ≤ 2 * E)
  have e : 2 * E * (2 * E) = 4 * (E * E) := by grind
  omega
theorem Wl.tl0 (h : Wl px py m E) (hE : 0 ≤ E) {j : Nat} (hj : j + 1 < m) : 0 ≤ tl px py j :=
  Int.mul_nonneg (by have := h.up j hj; omega) (h.tlI hE hj).1
theorem Wl.tlS (h : Wl px py m E) (hE : 0 ≤ E) {n : Nat} (hn : n + 1 ≤ m) : sr (tl px py) n ≤ E * (6 * (E * E)) := by
  have hEE := Int.mul_nonneg hE hE
  have h1 := sr_le (tl px py) px (6 * (E * E)) n (fun i hi => Int.mul_le_mul_of_nonneg_left (h.tlI hE (by omega)).2 (by have := h.up i (by omega); omega))
  have h2 : (px n - px 0) * (6 * (E * E)) ≤ E * (6 * (E * E)) := Int.mul_le_mul_of_nonneg_right (by have := (h.x0 n (by omega)).2; have := (h.x0 0 (by omega)).1; omega) (by omega)
  omega
end Go.Proofs.YthikaimhmpenhaaDoor

namespace Go.Proofs.YthikaimhmpenhaaDoor
set_option linter.all false
open Go Go.RowKit Wd
open Sf (sr sr_congr sr_add sr_mul sr_nonneg)
set_option maxRecDepth 100000
def OverC (f : FuncId) (m : Nat) (gx gy : Nat → Fr) (r : Fr) : Prop := ∀ (bx cx b2 cy : Nat) (w : World), Tab64 w → Rf w bx m gx → Rf w b2 m gy →
  Calls Tryd.prog 39 #[.agg #[.func (.func f) #[] #[]], .slice (some ⟨bx, 0, none⟩) m cx, .slice (some ⟨b2, 0, none⟩) m cy] w fun e w' => e = .returned (.agg #[.bool ((r).s), .int .u64 ↑r.a, .int .u64 0, .int .u64 0, .int .u64 0, .bool false, .int .u64 ↑r.d, .int .u64 0, .int .u64 0, .int .u64 0]) ∧ Below w.heap.size w w'
theorem overArea {px py : Nat → Int} {n D : Nat} {E : Int} (h : Wl px py n E) (hn : 1 ≤ n) (hn' : n ≤ 100) (hD : 0 < D) (hD' : D ≤ 120) (hE : 0 ≤ E) (hE' : E ≤ 240000) :
    OverC 43 n (fun j => q (px j) D) (fun j => q (py j) D) (q (sr (ta px py) (n - 1)) (D * D)) := by
  have hDD : D * D ≤ 14400 := Nat.mul_le_mul hD' hD'
  refine overQ enters_area (ta px py) (D * D) 115200000000 14400 hn hn' (Nat.mul_pos hD hD) hDD (by omega) (by omega) (fun i hi => ?_) (fun i hi => h.ta0 hi) (fun j hj => ?_)
  · have x0 := h.x0 i (by omega)
    have x1 := h.x0 (i + 1) hi
    have y0 := h.y0 i (by omega)
    have y1 := h.y0 (i + 1) hi
    exact areaQ hD hD' x0.1 (h.up i hi) (by omega) y0.1 (by omega) y1.1 (by omega)
  · have h1 := h.taS hE hj
    have h2 := (mul_bd hE (show 0 ≤ 2 * E by omega) hE' (show 2 * E ≤ 480000 by omega)).2
    omega
theorem overLong {px py : Nat → Int} {n D : Nat} {E : Int} (h : Wl px py n E) (hn : 1 ≤ n) (hn' : n ≤ 100) (hD : 0 < D) (hD' : D ≤ 40) (hE : 0 ≤ E) (hE' : E ≤ 8000) :
    OverC 49 n (fun j => q (px j) D) (fun j => q (py j) D) (q (sr (tl px py) (n - 1)) (3 * (D * D * D))) := by
  have hDD : D * D ≤ 1600 := Nat.mul_le_mul hD' hD'
  have hDDD : D * D * D ≤ 64000 := Nat.mul_le_mul hDD hD'
  have hDDD0 : 0 < D * D * D := Nat.mul_pos (Nat.mul_pos hD hD) hD
  refine overQ enters_long (tl px py) (3 * (D * D * D)) 3072000000000 192000 hn hn' (by omega) (by omega) (by omega) (by omega) (fun i hi => ?_) (fun i hi => h.tl0 hE hi) (fun j hj => ?_)
  · have x0 := h.x0 i (by omega)
    have x1 := h.x0 (i + 1) hi
    have y0 := h.y0 i (by omega)
    have y1 := h.y0 (i + 1) hi
    exact longQ hD hD' x0.1 (h.up i hi) (by omega) y0.1 (by omega) y1.1 (by omega)
  · have h1 := h.tlS hE hj
    have h2 := mul_bd hE hE hE' hE'
    have h3 := (mul_bd hE (show 0 ≤ 6 * (E * E) by omega) hE' (show 6 * (E * E) ≤ 384000000 by omega)).2
    omega
def cutA (X a b : Nat → Int) (D t : Int) (i : Nat) : Int := t * (X (i + 1) - X i) * ((D * a i + t * (b i - a i)) + (D * a i + t * (b (i + 1) - a i))) + (D - t) * (X (i + 1) - X i) * ((D * a i + t * (b (i + 1) - a i)) + (D * a (i + 1) + t * (b (i + 1) - a (i + 1))))
def cutL (X a b : Nat → Int) (D t : Int) (i : Nat) : Int := s3 (D * X i) (D * a i + t * (b i - a i)) (D * X i + t * (X (i + 1) - X i)) (D * a i + t * (b (i + 1) - a i)) + s3 (D * X i + t * (X (i + 1) - X i)) (D * a i + t * (b (i + 1) - a i)) (D * X (i + 1)) (D * a (i + 1) + t * (b (i + 1) - a (i + 1)))
theorem ta_cut (X a b : Nat → Int) (D t : Int) (N : Nat) : sr (ta (cutX X D t) (cutY a b D t)) (2 * N) = sr (cutA X a b D t) N := by
  rw [sr_two]
  refine sr_congr N (fun i _ => ?_)
  unfold ta cutA
  rw [cutX_0, cutX_1, cutY_0, cutY_1, show 2 * i + 1 + 1 = 2 * (i + 1) by omega, cutX_0, cutY_0]
  generalize X (i + 1) = x1
  generalize X i = x0
  generalize a (i + 1) = a1
  generalize a i = a0
  generalize b (i + 1) = b1
  generalize b i = b0
  grind
theorem tl_cut (X a b : Nat → Int) (D t : Int) (N : Nat) : sr (tl (cutX X D t) (cutY a b D t)) (2 * N) = sr (cutL X a b D t) N := by
  rw [sr_two]
  refine sr_congr N (fun i _ => ?_)
  unfold tl cutL
  rw [cutX_0, cutX_1, cutY_0, cutY_1, show 2 * i + 1 + 1 = 2 * (i + 1) by omega, cutX_0, cutY_0]
end Go.Proofs.YthikaimhmpenhaaDoor

namespace Go.Proofs.YthikaimhmpenhaaDoor
set_option linter.all false
open Go Go.RowKit Wd
set_option maxRecDepth 100000
structure Fm (w : World) (bX oX bZ oZ bH oH : Nat) (A : Nat → Option Addr) (C : Nat → Nat) (X Z : List Int) (H : List (List Int)) : Prop where
  x : Ints w bX oX X
  z : Ints w bZ oZ Z
  h : Rws w bH oH A C H
theorem Fm.later {w w' : World} {bX oX bZ oZ bH oH : Nat} {A : Nat → Option Addr} {C : Nat → Nat} {X Z : List Int} {H : List (List Int)} (h : Fm w bX oX bZ oZ bH oH A C X Z H) (hb : Below w.heap.size w w') : Fm w' bX oX bZ oZ bH oH A C X Z H :=
  ⟨h.x.later hb, h.z.later hb, h.h.later hb⟩
structure VCap (w : World) (bq bf bh : Nat) (f : FuncId) (fx fz fh : Value) (high : Bool) : Prop where
  vq : w.cell? ⟨bq, 0, none⟩ = some (.func (.func f) #[] #[])
  v0 : w.cell? ⟨bf, 0, none⟩ = some fx
  v1 : w.cell? ⟨bf, 1, none⟩ = some fz
  v2 : w.cell? ⟨bf, 2, none⟩ = some fh
  vh : w.cell? ⟨bh, 0, none⟩ = some (.bool high)
  lq : bq < w.heap.size
  lf : bf < w.heap.size
  lh : bh < w.heap.size
theorem VCap.later {w x : World} {bq bf bh : Nat} {f : FuncId} {fx fz fh : Value} {high : Bool} (h : VCap w bq bf bh f fx fz fh high) (hb : Below w.heap.size w x) : VCap x bq bf bh f fx fz fh high :=
  ⟨keep_one hb h.lq h.vq, keep_one hb h.lf h.v0, keep_one hb h.lf h.v1, keep_one hb h.lf h.v2, keep_one hb h.lh h.vh, keep_lt hb h.lq, keep_lt hb h.lf, keep_lt hb h.lh⟩
def ValC (f : FuncId) (X Z : List Int) (H : List (List Int)) (high : Bool) (n : Int) (r : Fr) : Prop := ∀ (bq bf bh bX oX cX bZ oZ cZ bH oH cH : Nat) (A : Nat → Option Addr) (C : Nat → Nat) (w : World), Tab64 w →
  VCap w bq bf bh f (.slice (some ⟨bX, oX, none⟩) X.length cX) (.slice (some ⟨bZ, oZ, none⟩) Z.length cZ) (.slice (some ⟨bH, oH, none⟩) H.length cH) high → Fm w bX oX bZ oZ bH oH A C X Z H →
  Calls Tryd.prog 38 #[.int .i64 n, .pointer (some ⟨bq, 0, none⟩), .pointer (some ⟨bf, 0, none⟩), .pointer (some ⟨bh, 0, none⟩)] w fun e w' => e = .returned (.agg #[.bool ((r).s), .int .u64 ↑r.a, .int .u64 0, .int .u64 0, .int .u64 0, .bool false, .int .u64 ↑r.d, .int .u64 0, .int .u64 0, .int .u64 0]) ∧ Below w.heap.size w w'
theorem set10_one {wr : World} {B B' i : Nat} {v0 v1 v2 v3 v4 v5 v6 v7 v8 v9 u : Value} (hB : B ≠ B') (h : wr.cell? ⟨B', i, none⟩ = some u) :
    ((((((((((wr.setCell ⟨B, 0, none⟩ v0).setCell ⟨B, 1, none⟩ v1).setCell ⟨B, 2, none⟩ v2).setCell ⟨B, 3, none⟩ v3).setCell ⟨B, 4, none⟩ v4).setCell ⟨B, 5, none⟩ v5).setCell ⟨B, 6, none⟩ v6).setCell ⟨B, 7, none⟩ v7).setCell ⟨B, 8, none⟩ v8).setCell ⟨B, 9, none⟩ v9).cell? ⟨B', i, none⟩ = some u :=
  keep_one_c hB (keep_one_c hB (keep_one_c hB (keep_one_c hB (keep_one_c hB (keep_one_c hB (keep_one_c hB (keep_one_c hB (keep_one_c hB (keep_one_c hB h)))))))))
set_option maxHeartbeats 8000000 in
theorem value_low {f : FuncId} {X Z : List Int} {H : List (List Int)} {n : Int} {m : Nat} {gx gy : Nat → Fr} {v : Fr} (hO : OutC X Z H n m gx gy) (hv : OverC f m gx gy v) : ValC f X Z H false n v := by
  intro bq bf bh bX oX cX bZ oZ cZ bH oH cH A C w hT hC hF
  have HO := Lib.hid hO
  have HV := Lib.hid hv
  have HT := Lib.hid hT
  have HF := Lib.hid hF
  have HC := Lib.hid hC
  clear hO hv hT hC hF
  go_enter Tryd.func38, Tryd.ntmps38
  go_upto_region 1 with (fail)
  refine wp_world (fun x => (∀ o, x.cell? ⟨w.heap.size, o, none⟩ = (#[.bool false, .int .u64 0, .int .u64 0, .int .u64 0, .int .u64 0, .bool false, .int .u64 0, .int .u64 0, .int .u64 0, .int .u64 0] : Array Value)[o]?) ∧ (∀ o, x.frozen? ⟨w.heap.size, o, none⟩ = false) ∧ w.heap.size < x.heap.size ∧ Below w.heap.size w x) (by (repeat' apply And.intro) <;> first | (intro o; simp [go_sem]; done) | ((repeat' first | (with_reducible first | exact Bq0 | assumption | refine Bq1 ?_ | refine Bq2 ?_ | refine Bq3 ?_ ?_ | refine Bq4 ?_ (by assumption)) | go_size); done) | omega | (simp [go_sem]; done) | (simp [go_sem]; omega)) ?_
  rintro E ⟨hEc0, hEf0, hEz0, hEb⟩
  have TA := Lib.hid (HT.out.later hEb)
  have FA := Lib.hid (HF.out.later hEb)
  have J4 := fun (x : World) (hx : Below E.heap.size E x) => And.intro (keep_cell hx hEz0 hEc0) (And.intro (keep_frozen hx hEz0 hEf0) (keep_lt hx hEz0))
  have KA := fun (x : World) (hx : Below E.heap.size E x) => (fun (V : VCap x bq bf bh f (.slice (some ⟨bX, oX, none⟩) X.length cX) (.slice (some ⟨bZ, oZ, none⟩) Z.length cZ) (.slice (some ⟨bH, oH, none⟩) H.length cH) false) => And.intro V.vq (And.intro V.v0 (And.intro V.v1 (And.intro V.v2 V.vh)))) ((HC.out.later hEb).later hx)
  refine wp_region_kn 8 [.val (.agg #[.func (.func f) #[] #[]]), .val (.agg #[.slice (some ⟨bX, oX, none⟩) X.length cX, .slice (some ⟨bZ, oZ, none⟩) Z.length cZ, .slice (some ⟨bH, oH, none⟩) H.length cH]), .val (.int .i64 n), .two (m) (gx) (gy), .row (m) (gx), .row (m) (gy), .val ((.agg #[.bool ((v).s), .int .u64 ↑v.a, .int .u64 0, .int .u64 0, .int .u64 0, .bool false, .int .u64 ↑v.d, .int .u64 0, .int .u64 0, .int .u64 0])), .new (E.heap.size) (#[.bool false, .int .u64 0, .int .u64 0, .int .u64 0, .int .u64 0, .bool false, .int .u64 0, .int .u64 0, .int .u64 0, .int .u64 0])] E (by kernel_rfl) (by kernel_rfl) (by kernel_rfl) (by kernel_rfl) (by kernel_rfl) (by decide) (Below.refl _ _) ?_ ?_
  · refine steps_next (n := 0) ⟨_, by rfl, fun vals x hx hj => ?_⟩ ?_
    · have hk := KA x hx; clear hj; refine kn_val hx ?_; simp only [putF, dstO, Act.put]; go_simp
    refine steps_next (n := 1) ⟨_, by rfl, fun vals x hx hj => ?_⟩ ?_
    · have hk := KA x hx; clear hj; refine kn_val hx ?_; simp only [putF, dstO, Act.put]; go_simp
    refine steps_next (n := 2) ⟨_, by rfl, fun vals x hx hj => ?_⟩ ?_
    · have hk := KA x hx; clear hj; refine kn_val hx ?_; simp only [putF, dstO, Act.put]; go_simp; (try first | with_reducible rfl | (intros; omega) | (simp only [IntKind.wrap_i64]; omega))
    refine steps_next (n := 3) ⟨_, by rfl, fun vals x hx hj => ?_⟩ ?_
    · have hk := KA x hx; have e1 : _ = _ := hj 1 (by decide +kernel); have e2 : _ = _ := hj 2 (by decide +kernel); clear hj; refine kn_two hx (HO.out bX oX cX bZ oZ cZ bH oH cH A C x (TA.out.later hx) (FA.out.later hx).x (FA.out.later hx).z (FA.out.later hx).h) ?_; simp only [putF, dstO, Act.put]; (try simp only [e1, e2]); go_simp
    refine steps_next (n := 4) ⟨_, by rfl, fun vals x hx hj => ?_⟩ ?_
    · have hk := KA x hx; obtain ⟨b3, c3, d3, f3, e3, R3, S3⟩ := hj 3 (by decide +kernel); clear hj; refine kn_rowv (c := c3) hx (R3) ?_; simp only [putF, dstO, Act.put]; (try simp only [e3]); go_simp
    refine steps_next (n := 5) ⟨_, by rfl, fun vals x hx hj => ?_⟩ ?_
    · have hk := KA x hx; obtain ⟨b3, c3, d3, f3, e3, R3, S3⟩ := hj 3 (by decide +kernel); clear hj; refine kn_rowv (c := f3) hx (S3) ?_; simp only [putF, dstO, Act.put]; (try simp only [e3]); go_simp
    refine steps_next (n := 6) ⟨_, by rfl, fun vals x hx hj => ?_⟩ ?_
    · have hk := KA x hx; have e0 : _ = _ := hj 0 (by decide +kernel); obtain ⟨b4, c4, e4, R4⟩ := hj 4 (by decide +kernel); obtain ⟨b5, c5, e5, R5⟩ := hj 5 (by decide +kernel); clear hj; refine kn_call hx (HV.out b4 c4 b5 c5 x (TA.out.later hx) R4 R5) ?_; simp only [putF, dstO, Act.put]; (try simp only [e0, e4, e5]); go_simp
    refine steps_next (n := 7) ⟨_, by rfl, fun vals x hx hj => ?_⟩ ?_
    · have hk := KA x hx; clear hj; refine kn_new (T := 39) hx (hx.size) ?_; simp only [putF, dstO, Act.put]; go_simp
    exact steps_end
  intro vals Ex hEx hv
  have hkEx := KA Ex hEx
  have e0 : _ = _ := hv 0 (by omega)
  have e1 : _ = _ := hv 1 (by omega)
  have e2 : _ = _ := hv 2 (by omega)
  obtain ⟨b3, c3, d3, f3, e3, R3, S3⟩ := hv 3 (by omega)
  obtain ⟨b4, c4, e4, R4⟩ := hv 4 (by omega)
  obtain ⟨b5, c5, e5, R5⟩ := hv 5 (by omega)
  have e6 : _ = _ := hv 6 (by omega)
  obtain ⟨b7, e7, y7, z7, C7, F7⟩ := hv 7 (by omega)
  clear hv
  simp only [putF, dstO, Act.put]
  (try simp only [e0, e1, e2, e3, e4, e5, e6, e7])
  refine wpAny_ready (rs := [8]) (by decide +kernel) (by simp) (AllReady.cons rfl (fun KK hKK => ?_) AllReady.nil)
  go_simp
  (refine hKK _ _ ?_); clear hKK KK; (try simp only [Nq1, Nq2, Nq3, Act.put, Nq4, Nq5, Nq6])
  refine wpAny_done (by kernel_rfl) ?_ _
  obtain ⟨k4, f4, l4⟩ := J4 Ex hEx
  have hv5 := hkEx.2.2.2.2
  have hEs := hEx.size
  have hB := below_after hEb hEx
  have yw := hEb.size
  have n4 : b7 ≠ w.heap.size := by omega
  have nh : b7 ≠ bh := by have := HC.out.lh; omega
  have y7' : w.heap.size ≤ b7 := by omega
  clear J4 KA hkEx
  go_upto_region 2 with (fail)
  refine wp_world (fun x => (∀ o, x.cell? ⟨w.heap.size, o, none⟩ = (#[.bool false, .int .u64 0, .int .u64 0, .int .u64 0, .int .u64 0, .bool false, .int .u64 0, .int .u64 0, .int .u64 0, .int .u64 0] : Array Value)[o]?) ∧ (∀ o, x.frozen? ⟨w.heap.size, o, none⟩ = false) ∧ w.heap.size < x.heap.size ∧ (∀ o, x.cell? ⟨b7, o, none⟩ = (#[.bool ((v).s), .int .u64 ↑v.a, .int .u64 0, .int .u64 0, .int .u64 0, .bool false, .int .u64 ↑v.d, .int .u64 0, .int .u64 0, .int .u64 0] : Array Value)[o]?) ∧ (∀ o, x.frozen? ⟨b7, o, none⟩ = false) ∧ b7 < x.heap.size ∧ x.cell? ⟨bh, 0, none⟩ = some (.bool false) ∧ Below w.heap.size w x) ⟨set10_far n4 k4, fun o => by simp only [World.frozen?_setCell]; exact f4 o, by simpa using l4, set10_at C7, fun o => by simp only [World.frozen?_setCell]; exact F7 o, by simpa using z7, set10_one nh hv5, by (repeat' first | (with_reducible first | exact Bq0 | assumption | refine Bq1 ?_ | refine Bq2 ?_ | refine Bq3 ?_ ?_ | refine Bq4 ?_ (by assumption)) | go_size)⟩ ?_
  rintro D ⟨d4, g4, m4, d7, g7, m7, dh, hD⟩
  clear k4 f4 l4 C7 F7 z7 hv5 TA FA HO HV HF HC HT hEb hEx hB hEc0 hEf0 hEz0
  go_wp2_with ((with_reducible show bodyPost _ _ _ _ _ _); refine bodyPost_ret (by simp [results, Tryd.results38, go_sem, d4, g4, m4, d7, g7, m7, dh]; try rfl) rfl ?_; exact ⟨rfl, by (repeat' first | (with_reducible first | exact Bq0 | assumption | refine Bq1 ?_ | refine Bq2 ?_ | refine Bq3 ?_ ?_ | refine Bq4 ?_ (by assumption)) | go_size)⟩)
set_option maxHeartbeats 8000000 in
theorem value_high {f : FuncId} {X Z : List Int} {H : List (List Int)} {n : Int} {m : Nat} {gx gy : Nat → Fr} {v u r : Fr} (hO : OutC X Z H n m gx gy) (hv : OverC f m gx gy v) (hu : OfC n 2 u) (hr : TimC 2 (pk2 v u) r) : ValC f X Z H true n r := by
  intro bq bf bh bX oX cX bZ oZ cZ bH oH cH A C w hT hC hF
  have HO := Lib.hid hO
  have HV := Lib.hid hv
  have HU := Lib.hid (fun w hT => hu w hT)
  have HR := Lib.hid (fun b c w hT hR => hr b c w hT hR)
  have HT := Lib.hid hT
  have HF := Lib.hid hF
  have HC := Lib.hid hC
  clear hO hv hu hr hT hC hF
  go_enter Tryd.func38, Tryd.ntmps38
  go_upto_region 1 with (fail)
  refine wp_world (fun x => (∀ o, x.cell? ⟨w.heap.size, o, none⟩ = (#[.bool false, .int .u64 0, .int .u64 0, .int .u64 0, .int .u64 0, .bool false, .int .u64 0, .int .u64 0, .int .u64 0, .int .u64 0] : Array Value)[o]?) ∧ (∀ o, x.frozen? ⟨w.heap.size, o, none⟩ = false) ∧ w.heap.size < x.heap.size ∧ Below w.heap.size w x) (by (repeat' apply And.intro) <;> first | (intro o; simp [go_sem]; done) | ((repeat' first | (with_reducible first | exact Bq0 | assumption | refine Bq1 ?_ | refine Bq2 ?_ | refine Bq3 ?_ ?_ | refine Bq4 ?_ (by assumption)) | go_size); done) | omega | (simp [go_sem]; done) | (simp [go_sem]; omega)) ?_
  rintro E ⟨hEc0, hEf0, hEz0, hEb⟩
  have TA := Lib.hid (HT.out.later hEb)
  have FA := Lib.hid (HF.out.later hEb)
  have J4 := fun (x : World) (hx : Below E.heap.size E x) => And.intro (keep_cell hx hEz0 hEc0) (And.intro (keep_frozen hx hEz0 hEf0) (keep_lt hx hEz0))
  have KA := fun (x : World) (hx : Below E.heap.size E x) => (fun (V : VCap x bq bf bh f (.slice (some ⟨bX, oX, none⟩) X.length cX) (.slice (some ⟨bZ, oZ, none⟩) Z.length cZ) (.slice (some ⟨bH, oH, none⟩) H.length cH) true) => And.intro V.vq (And.intro V.v0 (And.intro V.v1 (And.intro V.v2 V.vh)))) ((HC.out.later hEb).later hx)
  refine wp_region_kn 8 [.val (.agg #[.func (.func f) #[] #[]]), .val (.agg #[.slice (some ⟨bX, oX, none⟩) X.length cX, .slice (some ⟨bZ, oZ, none⟩) Z.length cZ, .slice (some ⟨bH, oH, none⟩) H.length cH]), .val (.int .i64 n), .two (m) (gx) (gy), .row (m) (gx), .row (m) (gy), .val ((.agg #[.bool ((v).s), .int .u64 ↑v.a, .int .u64 0, .int .u64 0, .int .u64 0, .bool false, .int .u64 ↑v.d, .int .u64 0, .int .u64 0, .int .u64 0])), .new (E.heap.size) (#[.bool false, .int .u64 0, .int .u64 0, .int .u64 0, .int .u64 0, .bool false, .int .u64 0, .int .u64 0, .int .u64 0, .int .u64 0])] E (by kernel_rfl) (by kernel_rfl) (by kernel_rfl) (by kernel_rfl) (by kernel_rfl) (by decide) (Below.refl _ _) ?_ ?_
  · refine steps_next (n := 0) ⟨_, by rfl, fun vals x hx hj => ?_⟩ ?_
    · have hk := KA x hx; clear hj; refine kn_val hx ?_; simp only [putF, dstO, Act.put]; go_simp
    refine steps_next (n := 1) ⟨_, by rfl, fun vals x hx hj => ?_⟩ ?_
    · have hk := KA x hx; clear hj; refine kn_val hx ?_; simp only [putF, dstO, Act.put]; go_simp
    refine steps_next (n := 2) ⟨_, by rfl, fun vals x hx hj => ?_⟩ ?_
    · have hk := KA x hx; clear hj; refine kn_val hx ?_; simp only [putF, dstO, Act.put]; go_simp; (try first | with_reducible rfl | (intros; omega) | (simp only [IntKind.wrap_i64]; omega))
    refine steps_next (n := 3) ⟨_, by rfl, fun vals x hx hj => ?_⟩ ?_
    · have hk := KA x hx; have e1 : _ = _ := hj 1 (by decide +kernel); have e2 : _ = _ := hj 2 (by decide +kernel); clear hj; refine kn_two hx (HO.out bX oX cX bZ oZ cZ bH oH cH A C x (TA.out.later hx) (FA.out.later hx).x (FA.out.later hx).z (FA.out.later hx).h) ?_; simp only [putF, dstO, Act.put]; (try simp only [e1, e2]); go_simp
    refine steps_next (n := 4) ⟨_, by rfl, fun vals x hx hj => ?_⟩ ?_
    · have hk := KA x hx; obtain ⟨b3, c3, d3, f3, e3, R3, S3⟩ := hj 3 (by decide +kernel); clear hj; refine kn_rowv (c := c3) hx (R3) ?_; simp only [putF, dstO, Act.put]; (try simp only [e3]); go_simp
    refine steps_next (n := 5) ⟨_, by rfl, fun vals x hx hj => ?_⟩ ?_
    · have hk := KA x hx; obtain ⟨b3, c3, d3, f3, e3, R3, S3⟩ := hj 3 (by decide +kernel); clear hj; refine kn_rowv (c := f3) hx (S3) ?_; simp only [putF, dstO, Act.put]; (try simp only [e3]); go_simp
    refine steps_next (n := 6) ⟨_, by rfl, fun vals x hx hj => ?_⟩ ?_
    · have hk := KA x hx; have e0 : _ = _ := hj 0 (by decide +kernel); obtain ⟨b4, c4, e4, R4⟩ := hj 4 (by decide +kernel); obtain ⟨b5, c5, e5, R5⟩ := hj 5 (by decide +kernel); clear hj; refine kn_call hx (HV.out b4 c4 b5 c5 x (TA.out.later hx) R4 R5) ?_; simp only [putF, dstO, Act.put]; (try simp only [e0, e4, e5]); go_simp
    refine steps_next (n := 7) ⟨_, by rfl, fun vals x hx hj => ?_⟩ ?_
    · have hk := KA x hx; clear hj; refine kn_new (T := 39) hx (hx.size) ?_; simp only [putF, dstO, Act.put]; go_simp
    exact steps_end
  intro vals Ex hEx hv
  have hkEx := KA Ex hEx
  have e0 : _ = _ := hv 0 (by omega)
  have e1 : _ = _ := hv 1 (by omega)
  have e2 : _ = _ := hv 2 (by omega)
  obtain ⟨b3, c3, d3, f3, e3, R3, S3⟩ := hv 3 (by omega)
  obtain ⟨b4, c4, e4, R4⟩ := hv 4 (by omega)
  obtain ⟨b5, c5, e5, R5⟩ := hv 5 (by omega)
  have e6 : _ = _ := hv 6 (by omega)
  obtain ⟨b7, e7, y7, z7, C7, F7⟩ := hv 7 (by omega)
  clear hv
  simp only [putF, dstO, Act.put]
  (try simp only [e0, e1, e2, e3, e4, e5, e6, e7])
  refine wpAny_ready (rs := [8]) (by decide +kernel) (by simp) (AllReady.cons rfl (fun KK hKK => ?_) AllReady.nil)
  go_simp
  (refine hKK _ _ ?_); clear hKK KK; (try simp only [Nq1, Nq2, Nq3, Act.put, Nq4, Nq5, Nq6])
  refine wpAny_done (by kernel_rfl) ?_ _
  obtain ⟨k4, f4, l4⟩ := J4 Ex hEx
  have hv5 := hkEx.2.2.2.2
  have hEs := hEx.size
  have hB := below_after hEb hEx
  have yw := hEb.size
  have n4 : b7 ≠ w.heap.size := by omega
  have nh : b7 ≠ bh := by have := HC.out.lh; omega
  have y7' : w.heap.size ≤ b7 := by omega
  clear J4 KA hkEx
  go_upto_region 2 with (fail)
  refine wp_world (fun x => (∀ o, x.cell? ⟨w.heap.size, o, none⟩ = (#[.bool false, .int .u64 0, .int .u64 0, .int .u64 0, .int .u64 0, .bool false, .int .u64 0, .int .u64 0, .int .u64 0, .int .u64 0] : Array Value)[o]?) ∧ (∀ o, x.frozen? ⟨w.heap.size, o, none⟩ = false) ∧ w.heap.size < x.heap.size ∧ (∀ o, x.cell? ⟨b7, o, none⟩ = (#[.bool ((v).s), .int .u64 ↑v.a, .int .u64 0, .int .u64 0, .int .u64 0, .bool false, .int .u64 ↑v.d, .int .u64 0, .int .u64 0, .int .u64 0] : Array Value)[o]?) ∧ (∀ o, x.frozen? ⟨b7, o, none⟩ = false) ∧ b7 < x.heap.size ∧ x.cell? ⟨bh, 0, none⟩ = some (.bool true) ∧ Below w.heap.size w x) ⟨set10_far n4 k4, fun o => by simp only [World.frozen?_setCell]; exact f4 o, by simpa using l4, set10_at C7, fun o => by simp only [World.frozen?_setCell]; exact F7 o, by simpa using z7, set10_one nh hv5, by (repeat' first | (with_reducible first | exact Bq0 | assumption | refine Bq1 ?_ | refine Bq2 ?_ | refine Bq3 ?_ ?_ | refine Bq4 ?_ (by assumption)) | go_size)⟩ ?_
  rintro D ⟨d4, g4, m4, d7, g7, m7, dh, hD⟩
  clear k4 f4 l4 C7 F7 z7 hv5 TA FA HO HV HF HC hEb hEx hB hEc0 hEf0 hEz0
  go_upto_region 3 with (fail)
  have TD := Lib.hid (HT.out.later hD)
  have KD := fun (x : World) (hx : Below D.heap.size D x) => And.intro (keep_cell hx m7 d7) (And.intro (keep_frozen hx m7 g7) (keep_lt hx m7))
  refine wp_region_kn 5 [.val ((.agg #[.bool ((v).s), .int .u64 ↑v.a, .int .u64 0, .int .u64 0, .int .u64 0, .bool false, .int .u64 ↑v.d, .int .u64 0, .int .u64 0, .int .u64 0])), .val (.int .i64 n), .val ((.agg #[.bool ((u).s), .int .u64 ↑u.a, .int .u64 0, .int .u64 0, .int .u64 0, .bool false, .int .u64 ↑u.d, .int .u64 0, .int .u64 0, .int .u64 0])), .row (2) (pk2 v u), .val ((.agg #[.bool ((r).s), .int .u64 ↑r.a, .int .u64 0, .int .u64 0, .int .u64 0, .bool false, .int .u64 ↑r.d, .int .u64 0, .int .u64 0, .int .u64 0]))] D (by kernel_rfl) (by kernel_rfl) (by kernel_rfl) (by kernel_rfl) (by kernel_rfl) (by decide) (Below.refl _ _) ?_ ?_
  · refine steps_next (n := 0) ⟨_, by rfl, fun vals x hx hj => ?_⟩ ?_
    · have hk := KD x hx; clear hj; refine kn_val hx ?_; simp only [putF, dstO, Act.put]; go_simp
    refine steps_next (n := 1) ⟨_, by rfl, fun vals x hx hj => ?_⟩ ?_
    · have hk := KD x hx; clear hj; refine kn_val hx ?_; simp only [putF, dstO, Act.put]; go_simp; (try first | with_reducible rfl | (intros; omega) | (simp only [IntKind.wrap_i64]; omega))
    refine steps_next (n := 2) ⟨_, by rfl, fun vals x hx hj => ?_⟩ ?_
    · have hk := KD x hx; have e1 : _ = _ := hj 1 (by decide +kernel); clear hj; refine kn_call hx (HU.out x (TD.out.later hx)) ?_; simp only [putF, dstO, Act.put]; (try simp only [e1]); go_simp
    refine steps_next (n := 3) ⟨_, by rfl, fun vals x hx hj => ?_⟩ ?_
    · have hk := KD x hx; have e0 : _ = _ := hj 0 (by decide +kernel); have e2 : _ = _ := hj 2 (by decide +kernel); clear hj; refine kn_row (c := 2) hx (rf2_new x 39 v u) ?_; simp only [putF, dstO, Act.put]; (try simp only [e0, e2]); go_simp
    refine steps_next (n := 4) ⟨_, by rfl, fun vals x hx hj => ?_⟩ ?_
    · have hk := KD x hx; obtain ⟨b3, c3, e3, R3⟩ := hj 3 (by decide +kernel); clear hj; refine kn_call hx (HR.out b3 c3 x (TD.out.later hx) R3) ?_; simp only [putF, dstO, Act.put]; (try simp only [e3]); go_simp
    exact steps_end
  intro vals Dx hDx hv
  have hkDx := KD Dx hDx
  have e0 : _ = _ := hv 0 (by omega)
  have e1 : _ = _ := hv 1 (by omega)
  have e2 : _ = _ := hv 2 (by omega)
  obtain ⟨b3, c3, e3, R3⟩ := hv 3 (by omega)
  have e4 : _ = _ := hv 4 (by omega)
  clear hv
  simp only [putF, dstO, Act.put]
  (try simp only [e0, e1, e2, e3, e4])
  refine wpAny_ready (rs := [5]) (by decide +kernel) (by simp) (AllReady.cons rfl (fun KK hKK => ?_) AllReady.nil)
  go_simp
  (refine hKK _ _ ?_); clear hKK KK; (try simp only [Nq1, Nq2, Nq3, Act.put, Nq4, Nq5, Nq6])
  refine wpAny_done (by kernel_rfl) ?_ _
  have p4 := keep_cell hDx m4 d4
  have o4 := keep_frozen hDx m4 g4
  have q4 := keep_lt hDx m4
  have hkD7 := keep_cell hDx m7 d7
  have p7 := keep_frozen hDx m7 g7
  have q7 := keep_lt hDx m7
  have hDD := below_after hD hDx
  clear KD hkDx R3 d4 g4 m4 g7 dh hDx hD
  go_upto_region 4 with (fail)
  refine wp_world (fun x => (∀ o, x.cell? ⟨w.heap.size, o, none⟩ = (#[.bool false, .int .u64 0, .int .u64 0, .int .u64 0, .int .u64 0, .bool false, .int .u64 0, .int .u64 0, .int .u64 0, .int .u64 0] : Array Value)[o]?) ∧ (∀ o, x.frozen? ⟨w.heap.size, o, none⟩ = false) ∧ w.heap.size < x.heap.size ∧ (∀ o, x.cell? ⟨b7, o, none⟩ = (#[.bool ((r).s), .int .u64 ↑r.a, .int .u64 0, .int .u64 0, .int .u64 0, .bool false, .int .u64 ↑r.d, .int .u64 0, .int .u64 0, .int .u64 0] : Array Value)[o]?) ∧ Below w.heap.size w x) ⟨set10_far n4 p4, fun o => by simp only [World.frozen?_setCell]; exact o4 o, by simpa using q4, set10_at (fun o => (hkD7 o)), by (repeat' first | (with_reducible first | exact Bq0 | assumption | refine Bq1 ?_ | refine Bq2 ?_ | refine Bq3 ?_ ?_ | refine Bq4 ?_ (by assumption)) | go_size)⟩ ?_
  rintro G ⟨d4, g4, m4, d7, hG⟩
  go_wp2_with ((with_reducible show bodyPost _ _ _ _ _ _); refine bodyPost_ret (by simp [results, Tryd.results38, go_sem, d4, g4, m4, d7]; try rfl) rfl ?_; exact ⟨rfl, by (repeat' first | (with_reducible first | exact Bq0 | assumption | refine Bq1 ?_ | refine Bq2 ?_ | refine Bq3 ?_ ?_ | refine Bq4 ?_ (by assumption)) | go_size)⟩)
end Go.Proofs.YthikaimhmpenhaaDoor
