/-
  What the reference's Same of two surfaces returns, where both hold the same.
-/
import Derived.Test.YtfmmnnodihpgmaaDoorMeshR
import Derived.Test.YtfmmnnodihpgmaaDoorHAwA
namespace Go.Proofs.YtfmmnnodihpgmaaDoor
set_option linter.all false
open Go Go.RowKit Wd
set_option maxRecDepth 100000
theorem eq_vec_self (a b c : Int) (w : World) : (Op.equalIn 10000 82 (.agg #[.int .i64 a, .int .i64 b, .int .i64 c]) (.agg #[.int .i64 a, .int .i64 b, .int .i64 c])).run Tryd.prog w = .ok true w := by
  rw [run_equalIn_agg (P := Tryd.prog) w 9999 82 _ _ (by kernel_rfl) (by kernel_rfl)]
  simp [Op.eqFields, go_sem]
theorem cells_i64 : Tryd.prog.cellsOf 3 = 1 := by kernel_rfl
theorem eq_tri_self (a b c : Int) (w : World) : (Op.equalIn 10000 84 (.agg #[.int .i64 a, .int .i64 b, .int .i64 c]) (.agg #[.int .i64 a, .int .i64 b, .int .i64 c])).run Tryd.prog w = .ok true w := by
  have h := run_equalIn_array (P := Tryd.prog) w 9999 #[.int .i64 a, .int .i64 b, .int .i64 c] #[.int .i64 a, .int .i64 b, .int .i64 c] (i := _) Tryd.underlying84 (by rfl)
  rw [h, cells_i64]
  simp [List.range, List.range.loop, Op.eqItems, go_sem]
/-- Numbers that lie in a row from a block's start. -/
def RowI (w : World) (b n : Nat) (F : Nat → Int) : Prop := ∀ j, j < n → w.cell? ⟨b, j, none⟩ = some (.int .i64 (F j))
set_option maxHeartbeats 4000000 in
theorem msame_true (g1 g2 h1 h2 np nf c1 c2 d1 d2 : Nat) (P F : Nat → Int) (hn : np ≤ 1000000) (hm : nf ≤ 1000000) (w : World) (p1 : RowI w g1 (np * 3) P) (p2 : RowI w g2 (np * 3) P) (f1 : RowI w h1 (nf * 3) F) (f2 : RowI w h2 (nf * 3) F)
    (l1 : g1 < w.heap.size) (l2 : g2 < w.heap.size) (l3 : h1 < w.heap.size) (l4 : h2 < w.heap.size) :
    Calls Tryd.prog 22 #[.agg #[.slice (some ⟨g1, 0, none⟩) np c1, .slice (some ⟨h1, 0, none⟩) nf d1], .agg #[.slice (some ⟨g2, 0, none⟩) np c2, .slice (some ⟨h2, 0, none⟩) nf d2]] w fun e w' => e = .returned (.bool true) ∧ Below w.heap.size w w' := by
  have P1 := Lib.hid p1
  have P2 := Lib.hid p2
  have F1 := Lib.hid f1
  have F2 := Lib.hid f2
  clear p1 p2 f1 f2
  go_enter Tryd.func22, Tryd.ntmps22
  go_upto_region 3 with (fail)
  refine wp_world (fun x => (∀ o, x.cell? ⟨w.heap.size, o, none⟩ = (#[.slice (some ⟨g1, 0, none⟩) np c1, .slice (some ⟨h1, 0, none⟩) nf d1] : Array Value)[o]?) ∧ (∀ o, x.cell? ⟨w.heap.size + 1, o, none⟩ = (#[.slice (some ⟨g2, 0, none⟩) np c2, .slice (some ⟨h2, 0, none⟩) nf d2] : Array Value)[o]?) ∧ (∀ o, x.frozen? ⟨w.heap.size, o, none⟩ = false) ∧ (∀ o, x.frozen? ⟨w.heap.size + 1, o, none⟩ = false) ∧ w.heap.size < x.heap.size ∧ w.heap.size + 1 < x.heap.size ∧ Below w.heap.size w x) ⟨fun o => by simp [go_sem], fun o => by simp [go_sem], fun o => by simp [go_sem], fun o => by simp [go_sem], by (first | omega | (simp [go_sem]; done) | (simp [go_sem]; omega)), by (first | omega | (simp [go_sem]; done) | (simp [go_sem]; omega)), by (repeat' (first | (with_reducible exact Below.refl _ _) | (with_reducible assumption) | (with_reducible refine below_alloc ?_ _) | (with_reducible refine Below.drew ?_) | (with_reducible refine Below.setCell ?_ ?_ _) | (with_reducible refine below_after ?_ (by assumption)) | go_size))⟩ ?_
  rintro G ⟨hGc0, hGc1, hGf0, hGf1, hGz0, hGz1, hGb⟩
  clear hGf0 hGf1
  have HB := Lib.hid hGb
  have C0 := Lib.hid hGc0
  have C1 := Lib.hid hGc1
  clear hGc0 hGc1 hGb
  go_wp2
  go_loopw [5] (fun i wr => ∃ k : Nat, k ≤ np ∧ i = .int .i64 (k : Int) ∧ Hid (Below G.heap.size G wr)) (fun i _ => np - (intOf i).toNat)
  case atStart => exact ⟨0, by omega, rfl, Lib.hid (Below.refl _ _)⟩
  case round =>
    obtain ⟨k, hk, rfl, hB⟩ := hrel
    have q0 : ∀ o, wr.cell? ⟨w.heap.size, o, none⟩ = (#[.slice (some ⟨g1, 0, none⟩) np c1, .slice (some ⟨h1, 0, none⟩) nf d1] : Array Value)[o]? := keep_cell hB.out hGz0 C0.out
    have q1 : ∀ o, wr.cell? ⟨w.heap.size + 1, o, none⟩ = (#[.slice (some ⟨g2, 0, none⟩) np c2, .slice (some ⟨h2, 0, none⟩) nf d2] : Array Value)[o]? := keep_cell hB.out hGz1 C1.out
    have z0 := keep_lt hB.out hGz0
    have z1 := keep_lt hB.out hGz1
    by_cases hlt : k < np
    · have hBw : Below w.heap.size w wr := HB.out.trans (hB.out.mono (by omega))
      have a0 := (hBw.cell (p := ⟨g1, k * 3, none⟩) l1).trans (P1.out (k * 3) (by omega))
      have a1 := (hBw.cell (p := ⟨g1, k * 3 + 1, none⟩) l1).trans (P1.out (k * 3 + 1) (by omega))
      have a2 := (hBw.cell (p := ⟨g1, k * 3 + 2, none⟩) l1).trans (P1.out (k * 3 + 2) (by omega))
      have b0 := (hBw.cell (p := ⟨g2, k * 3, none⟩) l2).trans (P2.out (k * 3) (by omega))
      have b1 := (hBw.cell (p := ⟨g2, k * 3 + 1, none⟩) l2).trans (P2.out (k * 3 + 1) (by omega))
      have b2 := (hBw.cell (p := ⟨g2, k * 3 + 2, none⟩) l2).trans (P2.out (k * 3 + 2) (by omega))
      have y1 := keep_lt hBw l1
      have y2 := keep_lt hBw l2
      have heq := eq_vec_self (P (k * 3)) (P (k * 3 + 1)) (P (k * 3 + 2))
      have hlt' : (k : Int) < (np : Int) := by omega
      clear hBw
      generalize P (k * 3) = x0 at *
      generalize P (k * 3 + 1) = x1 at *
      generalize P (k * 3 + 2) = x2 at *
      go_wp2
      go_region
      go_wp2
      go_roundw
      case rel => exact ⟨k + 1, by omega, by go_num, Lib.hid hB.out.drew⟩
      case measure => simp [intOf]; omega
    · obtain rfl : k = np := by omega
      have hlt' : ¬ (k : Int) < (k : Int) := by omega
      refine wp_world (fun x => (∀ o, x.cell? ⟨w.heap.size, o, none⟩ = (#[.slice (some ⟨g1, 0, none⟩) k c1, .slice (some ⟨h1, 0, none⟩) nf d1] : Array Value)[o]?) ∧ (∀ o, x.cell? ⟨w.heap.size + 1, o, none⟩ = (#[.slice (some ⟨g2, 0, none⟩) k c2, .slice (some ⟨h2, 0, none⟩) nf d2] : Array Value)[o]?) ∧ w.heap.size < x.heap.size ∧ w.heap.size + 1 < x.heap.size ∧ Below w.heap.size w x) ⟨q0, q1, z0, z1, HB.out.trans (hB.out.mono (by omega))⟩ ?_
      rintro Q ⟨r0, r1, y0, y1, hQ⟩
      have C2 := Lib.hid r0
      have C3 := Lib.hid r1
      have HQ := Lib.hid hQ
      clear hB q0 q1 z0 z1 hQ
      go_wp2
      clear r0 r1
      go_loopw [6] (fun i wq => ∃ j : Nat, j ≤ nf ∧ i = .int .i64 (j : Int) ∧ Hid (Below Q.heap.size Q wq)) (fun i _ => nf - (intOf i).toNat)
      case atStart => exact ⟨0, by omega, rfl, Lib.hid (Below.refl _ _)⟩
      case round =>
        obtain ⟨j, hj, rfl, hB⟩ := hrel
        have q0 : ∀ o, wr.cell? ⟨w.heap.size, o, none⟩ = (#[.slice (some ⟨g1, 0, none⟩) k c1, .slice (some ⟨h1, 0, none⟩) nf d1] : Array Value)[o]? := keep_cell hB.out y0 C2.out
        have q1 : ∀ o, wr.cell? ⟨w.heap.size + 1, o, none⟩ = (#[.slice (some ⟨g2, 0, none⟩) k c2, .slice (some ⟨h2, 0, none⟩) nf d2] : Array Value)[o]? := keep_cell hB.out y1 C3.out
        have z0 := keep_lt hB.out y0
        have z1 := keep_lt hB.out y1
        have hBw : Below w.heap.size w wr := HQ.out.trans (hB.out.mono (by omega))
        by_cases hlt2 : j < nf
        · have a0 := (hBw.cell (p := ⟨h1, j * 3, none⟩) l3).trans (F1.out (j * 3) (by omega))
          have a1 := (hBw.cell (p := ⟨h1, j * 3 + 1, none⟩) l3).trans (F1.out (j * 3 + 1) (by omega))
          have a2 := (hBw.cell (p := ⟨h1, j * 3 + 2, none⟩) l3).trans (F1.out (j * 3 + 2) (by omega))
          have b0 := (hBw.cell (p := ⟨h2, j * 3, none⟩) l4).trans (F2.out (j * 3) (by omega))
          have b1 := (hBw.cell (p := ⟨h2, j * 3 + 1, none⟩) l4).trans (F2.out (j * 3 + 1) (by omega))
          have b2 := (hBw.cell (p := ⟨h2, j * 3 + 2, none⟩) l4).trans (F2.out (j * 3 + 2) (by omega))
          have x1 := keep_lt hBw l3
          have x2 := keep_lt hBw l4
          have heq := eq_tri_self (F (j * 3)) (F (j * 3 + 1)) (F (j * 3 + 2))
          have hlt2' : (j : Int) < (nf : Int) := by omega
          clear hBw
          generalize F (j * 3) = x0 at *
          generalize F (j * 3 + 1) = u1 at *
          generalize F (j * 3 + 2) = u2 at *
          go_wp2
          go_region
          go_wp2
          go_roundw
          case rel => exact ⟨j + 1, by omega, by go_num, Lib.hid hB.out.drew⟩
          case measure => simp [intOf]; omega
        · obtain rfl : j = nf := by omega
          have hlt2' : ¬ (j : Int) < (j : Int) := by omega
          go_wp2
          go_returns
          exact ⟨rfl, hBw⟩
/-- A slice of a call's own, of numbers: its address and its numbers. -/
theorem own_row {w : World} {base : Nat} {e : TypeId} {v : Value} {n : Nat} {xs : List Value} (h : w.ownsRow base e 3 v n xs) (hx : 0 < xs.length) (hi : ∀ u ∈ xs, ∃ z, u = .int .i64 z) :
    ∃ g cap, v = .slice (some ⟨g, 0, none⟩) n cap ∧ g < w.heap.size ∧ xs.length = n * 3 ∧ RowI w g (n * 3) (fun j => intOf (xs.getD j (.int .i64 0))) := by
  have hn := own_n h hx
  obtain ⟨g, cp, rfl, hg, hl⟩ := h.form hn
  refine ⟨g, cp, rfl, hl, h.1, fun j hj => ?_⟩
  have hj' : j < xs.length := by rw [h.1]; exact hj
  rw [h.cellAt j hj]
  obtain ⟨z, hz⟩ := hi _ (List.getElem_mem hj')
  rw [List.getElem?_eq_getElem hj']
  simp [List.getD, hj', hz, intOf]
end Go.Proofs.YtfmmnnodihpgmaaDoor
