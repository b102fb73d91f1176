/-
  The maker of a hull's surface in memory; what p, s and face of it do.
  What the maker's sides does.
  (Written by wip/pack.py out of XFMeshA, XFMeshB.)
-/
import Derived.Test.YthikaimhmpenhaaDoorK25
import Derived.Deep.AppendLies

namespace Go.Proofs.YthikaimhmpenhaaDoor
set_option linter.all false
open Go Go.RowKit Wd
set_option maxRecDepth 100000
@[irreducible] def pI (m : Nat) (i k : Int) : Int := i * m + k
@[irreducible] def sI (n m : Nat) (i k : Int) : Int := n * m + i * m + k
structure Mk (b0 : Nat) (w0 w : World) (B n m : Nat) (pv fv : Value) (np nf : Nat) (ps fs : List Value) : Prop where
  cell : ∀ o, w.cell? ⟨B, o, none⟩ = (#[.int .i64 (n : Int), .int .i64 (m : Int), pv, fv] : Array Value)[o]?
  froz : ∀ o, w.frozen? ⟨B, o, none⟩ = false
  lo : b0 ≤ B
  hi : B < w.heap.size
  p : w.ownsRow b0 55 3 pv np ps
  f : w.ownsRow b0 63 3 fv nf fs
  sp : pv.ownBlock ≠ some B
  sf : fv.ownBlock ≠ some B
  sep : pv.ownBlock = none ∨ pv.ownBlock ≠ fv.ownBlock
  below : Below b0 w0 w
theorem Mk.alloc {b0 : Nat} {w0 w : World} {B n m : Nat} {pv fv : Value} {np nf : Nat} {ps fs : List Value} (h : Mk b0 w0 w B n m pv fv np nf ps fs) (O : Obj) : Mk b0 w0 (w.alloc O) B n m pv fv np nf ps fs :=
  ⟨keep_cell_a h.hi h.cell, keep_frozen_a h.hi h.froz, h.lo, keep_lt_a h.hi, h.p.alloc O, h.f.alloc O, h.sp, h.sf, h.sep, h.below.alloc (Nat.le_trans h.lo (Nat.le_of_lt h.hi)) O⟩
theorem Mk.drew {b0 : Nat} {w0 w : World} {B n m : Nat} {pv fv : Value} {np nf : Nat} {ps fs : List Value} (h : Mk b0 w0 w B n m pv fv np nf ps fs) : Mk b0 w0 w.drew B n m pv fv np nf ps fs :=
  ⟨h.cell, h.froz, h.lo, h.hi, h.p.drew, h.f.drew, h.sp, h.sf, h.sep, h.below.drew⟩
set_option maxHeartbeats 1000000 in
theorem p_any (B n m : Nat) (pv fv : Value) (i k : Int) (hm : m ≤ 16) (hi : 0 ≤ i) (hi' : i ≤ 24) (hk : 0 ≤ k) (hk' : k ≤ 16) (w : World) (hc : ∀ o, w.cell? ⟨B, o, none⟩ = (#[.int .i64 (n : Int), .int .i64 (m : Int), pv, fv] : Array Value)[o]?) :
    Calls Tryd.prog 35 #[.pointer (some ⟨B, 0, none⟩), .int .i64 i, .int .i64 k] w fun e w' => e = .returned (.int .i64 (pI m i k)) ∧ w' = w := by
  have e : i * m + k = pI m i k := by unfold pI; rfl
  have b1 : 0 ≤ i * m := Int.mul_nonneg hi (by omega)
  have b2 : i * m ≤ 24 * 16 := Int.mul_le_mul hi' (by omega) (by omega) (by omega)
  go_enter Tryd.func35, Tryd.ntmps35
  go_wp2
  go_returns
  exact ⟨rfl, rfl⟩
set_option maxHeartbeats 1000000 in
theorem s_any (B n m : Nat) (pv fv : Value) (i k : Int) (hn : n ≤ 24) (hm : m ≤ 16) (hi : 0 ≤ i) (hi' : i ≤ 24) (hk : 0 ≤ k) (hk' : k ≤ 16) (w : World) (hc : ∀ o, w.cell? ⟨B, o, none⟩ = (#[.int .i64 (n : Int), .int .i64 (m : Int), pv, fv] : Array Value)[o]?) :
    Calls Tryd.prog 36 #[.pointer (some ⟨B, 0, none⟩), .int .i64 i, .int .i64 k] w fun e w' => e = .returned (.int .i64 (sI n m i k)) ∧ w' = w.drew := by
  have b1 : 0 ≤ i * m := Int.mul_nonneg hi (by omega)
  have b2 : i * m ≤ 24 * 16 := Int.mul_le_mul hi' (by omega) (by omega) (by omega)
  have b3 : 0 ≤ (n : Int) * m := Int.mul_nonneg (by omega) (by omega)
  have b4 : (n : Int) * m ≤ 24 * 16 := Int.mul_le_mul (by omega) (by omega) (by omega) (by omega)
  obtain ⟨x, hx⟩ : ∃ x, x = (n : Int) * m := ⟨_, rfl⟩
  obtain ⟨y, hy⟩ : ∃ y, y = i * m := ⟨_, rfl⟩
  rw [← hx] at b3 b4
  rw [← hy] at b1 b2
  have e : x + y + k = sI n m i k := by unfold sI; rw [hx, hy]
  have r1 : IntKind.i64.wrap ((n : Int) * m) = x := by rw [← hx, IntKind.wrap_i64]; omega
  have r2 : IntKind.i64.wrap (i * m) = y := by rw [← hy, IntKind.wrap_i64]; omega
  have r3 : IntKind.i64.wrap (x + y) = x + y := by rw [IntKind.wrap_i64]; omega
  have r4 : IntKind.i64.wrap (x + y + k) = sI n m i k := by rw [← e, IntKind.wrap_i64]; omega
  clear e hx hy
  generalize sI n m i k = r at *
  go_enter Tryd.func36, Tryd.ntmps36
  go_wp2
  go_region
  go_wp2
  go_returns
  exact ⟨rfl, rfl⟩
theorem infoF : (Tryd.prog.info? 63).map (fun i => (i.zero, i.size, i.bytes)) = some (some (.agg #[.int .i64 0, .int .i64 0, .int .i64 0]), 3, 24) := by kernel_rfl
theorem infoV : (Tryd.prog.info? 55).map (fun i => (i.zero, i.size, i.bytes)) = some (some (.agg #[.int .i64 0, .int .i64 0, .int .i64 0]), 3, 24) := by kernel_rfl
theorem own_set {w : World} {base : Nat} {e : TypeId} {size : Nat} {v : Value} {n : Nat} {xs : List Value} {B i : Nat} (h : w.ownsRow base e size v n xs) (hn : v.ownBlock ≠ some B) (u : Value) : (w.setCell ⟨B, i, none⟩ u).ownsRow base e size v n xs := by
  obtain ⟨h1, h2⟩ := h
  refine ⟨h1, ?_⟩
  rcases h2 with h2 | ⟨g, cap, cur, hv, hg, hh, r⟩
  · exact Or.inl h2
  · subst hv
    have hgB : g ≠ B := by simpa [Value.ownBlock] using hn
    exact Or.inr ⟨g, cap, cur, rfl, hg, by rw [Below.heap_setCell _ _ _ _ (by first | exact hgB | exact Ne.symm hgB | omega)]; exact hh, r⟩
theorem Mk.face {b0 : Nat} {w0 w w1 : World} {B n m : Nat} {pv fv : Value} {np nf nf' : Nat} {ps fs fs' : List Value} {g cap : Nat} (h : Mk b0 w0 w B n m pv fv np nf ps fs)
    (hown : w1.ownsRow b0 63 3 (.slice (some ⟨g, 0, none⟩) nf' cap) nf' fs') (hg : w.grownBy w1 fv.ownBlock) (hat : fv.ownBlock = some g ∨ g = w.heap.size) :
    Mk b0 w0 (w1.setCell ⟨B, 3, none⟩ (.slice (some ⟨g, 0, none⟩) nf' cap)) B n m pv (.slice (some ⟨g, 0, none⟩) nf' cap) np nf' ps fs' := by
  have hi := h.hi
  have hB : some B ≠ fv.ownBlock := fun e => h.sf e.symm
  have hblk := hg.block B hi hB
  have hgB : g ≠ B := by
    rcases hat with e | e
    · intro e2; rw [e2] at e; exact h.sf e
    · omega
  have hpB : pv.ownBlock = none ∨ pv.ownBlock ≠ some g := by
    rcases h.sep with e | e
    · exact Or.inl e
    · right
      rcases hat with e2 | e2
      · rw [← e2]; exact e
      · intro e3
        have := (h.p.lt g e3).2
        omega
  have hc1 : ∀ o, w1.cell? ⟨B, o, none⟩ = (#[.int .i64 (n : Int), .int .i64 (m : Int), pv, fv] : Array Value)[o]? := fun o => (World.cell?_of_block (a := ⟨B, o, none⟩) hblk).trans (h.cell o)
  have hf1 : ∀ o, w1.frozen? ⟨B, o, none⟩ = false := fun o => (World.frozen?_of_block (a := ⟨B, o, none⟩) hblk).trans (h.froz o)
  have hp1 : w1.ownsRow b0 55 3 pv np ps := h.p.kept hg h.sep
  have hset := set_at (i := 3) (v := .slice (some ⟨g, 0, none⟩) nf' cap) hc1
  refine ⟨hset, fun o => by rw [World.frozen?_setCell]; exact hf1 o, h.lo, by simpa using Nat.lt_of_lt_of_le hi hg.size, ?_, ?_, h.sp, by simpa [Value.ownBlock] using hgB, ?_, ?_⟩
  · exact own_set hp1 h.sp _
  · exact own_set hown (by simpa [Value.ownBlock] using hgB) _
  · rcases hpB with e | e
    · exact Or.inl e
    · exact Or.inr (by simpa [Value.ownBlock] using e)
  · exact (h.below.grown hg (Nat.le_trans h.lo (Nat.le_of_lt hi)) (fun k hk => (h.f.lt k hk).1)).setCell h.lo _
set_option maxHeartbeats 1000000 in
theorem face_any {b0 : Nat} {w0 w : World} {B n m : Nat} {pv fv : Value} {np nf : Nat} {ps fs : List Value} (h : Mk b0 w0 w B n m pv fv np nf ps fs) (L c : Nat) (c0 c1 c2 c3 c4 c5 : Int) (hnf : nf ≤ 1000000)
    (hL : ∀ o, w.cell? ⟨L, o, none⟩ = (#[.int .i64 c0, .int .i64 c1, .int .i64 c2, .int .i64 c3, .int .i64 c4, .int .i64 c5] : Array Value)[o]?) :
    Calls Tryd.prog 34 #[.pointer (some ⟨B, 0, none⟩), .slice (some ⟨L, 0, none⟩) 2 c] w fun e w' => e = .returned (.tuple #[]) ∧ ∃ fv', Mk b0 w0 w' B n m pv fv' np (nf + 2) ps (fs ++ [.int .i64 c0, .int .i64 c1, .int .i64 c2, .int .i64 c3, .int .i64 c4, .int .i64 c5]) := by
  have H := Lib.hid h
  have hc := h.cell
  have hf := h.froz
  have hi := h.hi
  obtain ⟨i0, hinf, hz0, hz1, hz2⟩ := info_parts infoF
  have hnews : Hid (∀ j u, ([.int .i64 c0, .int .i64 c1, .int .i64 c2, .int .i64 c3, .int .i64 c4, .int .i64 c5] : List Value)[j]? = some u → w.cell? ((⟨L, 0, none⟩ : Addr).add j) = some u) := Lib.hid fun j u hu => by
    have hadd : (⟨L, 0, none⟩ : Addr).add j = ⟨L, j, none⟩ := by unfold Addr.add; split <;> simp_all
    rw [hadd, hL j]
    simpa using hu
  have h24 : (nf + 2) * 24 ≤ 140737488355328 := by omega
  have hml : nf + 2 ≤ maxLen := by unfold maxLen; omega
  have HML := Lib.hid hml
  have hlo := h.lo
  clear h hL hml
  go_enter Tryd.func34, Tryd.ntmps34
  go_wp2_with (first
    | (at_builtin; refine wpList_append_lies _ rfl _ _ 28 rfl b0 63 i0 (.agg #[.int .i64 0, .int .i64 0, .int .i64 0]) 3 24 Tryd.underlying28 hinf hz0 hz1 hz2 rfl (by decide) fv nf fs rfl H.out.f ⟨L, 0, none⟩ 2 c [.int .i64 c0, .int .i64 c1, .int .i64 c2, .int .i64 c3, .int .i64 c4, .int .i64 c5] rfl rfl hnews.out (by simp [Value.oneCell']) (by omega) HML.out h24 (by omega) w.heap.size rfl ?_)
    | go_in)
  intro g cap w1 hown hgrow hat hlt
  have M1 := H.out.face hown hgrow hat
  have hblk := hgrow.block B hi (fun e => H.out.sf e.symm)
  have hc1 : ∀ o, w1.cell? ⟨B, o, none⟩ = (#[.int .i64 (n : Int), .int .i64 (m : Int), pv, fv] : Array Value)[o]? := fun o => (World.cell?_of_block (a := ⟨B, o, none⟩) hblk).trans (hc o)
  have hf1 : ∀ o, w1.frozen? ⟨B, o, none⟩ = false := fun o => (World.frozen?_of_block (a := ⟨B, o, none⟩) hblk).trans (hf o)
  have hi1 : B < w1.heap.size := Nat.lt_of_lt_of_le hi hgrow.size
  have M2 := Lib.hid M1
  clear M1 hblk hown hgrow hat hlt hnews H
  go_wp2
  refine bodyPost_end (by simp [results, Tryd.results34, go_sem]; try rfl) rfl ?_
  exact ⟨rfl, _, M2.out⟩
end Go.Proofs.YthikaimhmpenhaaDoor

namespace Go.Proofs.YthikaimhmpenhaaDoor
set_option linter.all false
open Go Go.RowKit Wd
set_option maxRecDepth 100000
def iv (l : List Int) : List Value := l.map (fun x => Value.int .i64 x)
@[irreducible] def face4 (n m : Nat) (i k : Int) : List Value := iv [pI m i k, pI m (i + 1) (k + 1), pI m (i + 1) k, pI m i k, pI m i (k + 1), pI m (i + 1) (k + 1)] ++ iv [sI n m i k, sI n m (i + 1) k, sI n m (i + 1) (k + 1), sI n m i k, sI n m (i + 1) (k + 1), sI n m i (k + 1)]
@[irreducible] def innerF (n m i k : Nat) : List Value := (List.range k).flatMap fun j : Nat => face4 n m (i : Int) (j : Int)
@[irreducible] def sidesF (n m i : Nat) : List Value := (List.range i).flatMap fun a => innerF n m a (m - 1)
theorem innerF_zero (n m i : Nat) : innerF n m i 0 = [] := by unfold innerF; rfl
theorem innerF_succ (n m i k : Nat) : innerF n m i (k + 1) = innerF n m i k ++ face4 n m (i : Int) (k : Int) := by unfold innerF; rw [List.range_succ, List.flatMap_append]; simp
theorem sidesF_zero (n m : Nat) : sidesF n m 0 = [] := by unfold sidesF; rfl
theorem sidesF_succ (n m i : Nat) : sidesF n m (i + 1) = sidesF n m i ++ innerF n m i (m - 1) := by unfold sidesF; rw [List.range_succ, List.flatMap_append]; simp
set_option maxHeartbeats 4000000 in
theorem sides_any {b0 : Nat} {w0 w : World} {B n m : Nat} {pv fv : Value} {np nf : Nat} {ps fs : List Value} (h : Mk b0 w0 w B n m pv fv np nf ps fs) (hn : n ≤ 24) (hm : m ≤ 16) (hn2 : 2 ≤ n) (hm2 : 2 ≤ m) (hnf : nf ≤ 100000) :
    Calls Tryd.prog 14 #[.pointer (some ⟨B, 0, none⟩)] w fun e w' => e = .returned (.tuple #[]) ∧ ∃ fv' nf', nf' ≤ nf + 64 * 24 ∧ Mk b0 w0 w' B n m pv fv' np nf' ps (fs ++ sidesF n m (n - 1)) := by
  have H := Lib.hid h
  have hc := h.cell
  have hi := h.hi
  clear h
  go_enter Tryd.func14, Tryd.ntmps14
  go_wp2
  go_loopg [9] n (fun gg v wr => ∃ i : Nat, i ≤ n - 1 ∧ n - i ≤ gg ∧ v = .int .i64 (i : Int) ∧ ∃ fv' nf', nf' ≤ nf + 64 * i ∧ Hid (Mk b0 w0 wr B n m pv fv' np nf' ps (fs ++ sidesF n m i)))
  case atStart => exact ⟨0, by omega, by omega, rfl, fv, nf, by omega, Lib.hid (by rw [sidesF_zero, List.append_nil]; exact H.out)⟩
  case round =>
    obtain ⟨i, hin, hgi, rfl, fv1, nf1, hnf1, HM⟩ := hrel
    by_cases hlt : i < n - 1
    · have c1 := HM.out.cell
      have c1z := HM.out.hi
      have hin' : (i : Int) < (n : Int) - 1 := by omega
      clear hc hi H
      go_wp2
      go_loopg [17] m (fun gg v wi => ∃ k : Nat, k ≤ m - 1 ∧ m - k ≤ gg ∧ v = .int .i64 (k : Int) ∧ ∃ fv' nf', nf' ≤ nf + 64 * i + 4 * k ∧ Hid (Mk b0 w0 wi B n m pv fv' np nf' ps (fs ++ (sidesF n m i ++ innerF n m i k))))
      case atStart => exact ⟨0, by omega, by omega, rfl, fv1, nf1, by omega, Lib.hid (by rw [innerF_zero, List.append_nil]; exact HM.out)⟩
      case round =>
        obtain ⟨k, hkm, hgk, rfl, fv2, nf2, hnf2, HK⟩ := hrel
        clear c1 c1z HM
        by_cases hltk : k < m - 1
        · have d1 := HK.out.cell
          have d1z := HK.out.hi
          have hkm' : (k : Int) < (m : Int) - 1 := by omega
          go_wp2_with (first | (go_at_call 35; (with_reducible refine (p_any B n m pv fv2 _ _ hm ?_ ?_ ?_ ?_ _ d1).mono ?_); (focus omega); (focus omega); (focus omega); (focus omega); rintro e w1 ⟨rfl, rfl⟩))
          ((with_reducible refine (face_any (b0 := b0) (w0 := w0) (B := B) (n := n) (m := m) (pv := pv) (fv := fv2) (np := np) (nf := nf2) (ps := ps) (fs := fs ++ (sidesF n m i ++ innerF n m i k)) (by repeat (first | (with_reducible exact HK.out) | (with_reducible refine Mk.alloc ?_ _) | (with_reducible refine Mk.drew ?_))) _ 2 (pI m i k) (pI m (i + 1) (k + 1)) (pI m (i + 1) k) (pI m i k) (pI m i (k + 1)) (pI m (i + 1) (k + 1)) (by omega) ?_).mono ?_); (focus (exact fun o => World.cell?_alloc_new _ _ _ _)); rintro e w2 ⟨rfl, fv3, hM3⟩)
          have HM3 := Lib.hid hM3
          have d3 := hM3.cell
          have d3z := hM3.hi
          clear hM3 d1 d1z HK
          go_wp2_with (first | (go_at_call 36; (with_reducible refine (s_any B n m pv fv3 _ _ hn hm ?_ ?_ ?_ ?_ _ ?_).mono ?_); (focus omega); (focus omega); (focus omega); (focus omega); (focus (exact d3)); rintro e w1 ⟨rfl, rfl⟩))
          ((with_reducible refine (face_any (b0 := b0) (w0 := w0) (B := B) (n := n) (m := m) (pv := pv) (fv := fv3) (np := np) (nf := nf2 + 2) (ps := ps) (fs := (fs ++ (sidesF n m i ++ innerF n m i k)) ++ [.int .i64 (pI m i k), .int .i64 (pI m (i + 1) (k + 1)), .int .i64 (pI m (i + 1) k), .int .i64 (pI m i k), .int .i64 (pI m i (k + 1)), .int .i64 (pI m (i + 1) (k + 1))]) (by repeat (first | (with_reducible exact HM3.out) | (with_reducible refine Mk.alloc ?_ _) | (with_reducible refine Mk.drew ?_))) _ 2 (sI n m i k) (sI n m (i + 1) k) (sI n m (i + 1) (k + 1)) (sI n m i k) (sI n m (i + 1) (k + 1)) (sI n m i (k + 1)) (by omega) ?_).mono ?_); (focus (exact fun o => World.cell?_alloc_new _ _ _ _)); rintro e w4 ⟨rfl, fv5, hM5⟩)
          have HM5 := Lib.hid hM5
          clear hM5 d3 d3z HM3
          go_wp2
          go_roundg (m - (k + 1))
          case rel =>
            refine ⟨k + 1, by omega, by omega, by go_num, fv5, nf2 + 2 + 2, by omega, Lib.hid ?_⟩
            rw [innerF_succ]
            have e : fs ++ (sidesF n m i ++ (innerF n m i k ++ face4 n m (i : Int) (k : Int))) = ((fs ++ (sidesF n m i ++ innerF n m i k)) ++ [.int .i64 (pI m i k), .int .i64 (pI m (i + 1) (k + 1)), .int .i64 (pI m (i + 1) k), .int .i64 (pI m i k), .int .i64 (pI m i (k + 1)), .int .i64 (pI m (i + 1) (k + 1))]) ++ [.int .i64 (sI n m i k), .int .i64 (sI n m (i + 1) k), .int .i64 (sI n m (i + 1) (k + 1)), .int .i64 (sI n m i k), .int .i64 (sI n m (i + 1) (k + 1)), .int .i64 (sI n m i (k + 1))] := by
              unfold face4 iv
              simp
            rw [e]
            exact HM5.out
          case measure => omega
        · obtain rfl : k = m - 1 := by omega
          have hkm' : ¬ ((m - 1 : Nat) : Int) < (m : Int) - 1 := by omega
          go_wp2
          go_roundg (n - (i + 1))
          case rel =>
            refine ⟨i + 1, by omega, by omega, by go_num, fv2, nf2, by omega, Lib.hid ?_⟩
            rw [sidesF_succ]
            exact HK.out
          case measure => omega
    · obtain rfl : i = n - 1 := by omega
      have hin' : ¬ ((n - 1 : Nat) : Int) < (n : Int) - 1 := by omega
      go_wp2
      refine bodyPost_end (by simp [results, Tryd.results14, go_sem]; try rfl) rfl ?_
      exact ⟨rfl, fv1, nf1, by omega, HM.out⟩
end Go.Proofs.YthikaimhmpenhaaDoor
