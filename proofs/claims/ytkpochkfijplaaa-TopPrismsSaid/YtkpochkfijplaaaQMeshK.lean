/-
  mesh.closed: a surface each of whose directed edges occurs once, and the opposite one too, is closed.
-/
import Derived.Test.YtkpochkfijplaaaQMapA
import Derived.Test.YtkpochkfijplaaaQMeshS

namespace Go.Proofs.Ytkpochkfijplaaa
set_option linter.all false
open Go Go.RowKit Wd
set_option maxRecDepth 100000
/-- Edge number t of the faces whose corners are F. -/
@[irreducible] def eg (F : Nat → Int) (t : Nat) : Int × Int := (F t, F (3 * (t / 3) + (t % 3 + 1) % 3))
@[irreducible] def egs (F : Nat → Int) (t : Nat) : List (Int × Int) := (List.range t).map (eg F)
theorem egs_zero (F : Nat → Int) : egs F 0 = [] := by unfold egs; rfl
theorem egs_succ (F : Nat → Int) (t : Nat) : egs F (t + 1) = egs F t ++ [eg F t] := by unfold egs; rw [List.range_succ, List.map_append]; rfl
theorem egs_mem (F : Nat → Int) (t : Nat) (x : Int × Int) : x ∈ egs F t ↔ ∃ s, s < t ∧ eg F s = x := by unfold egs; simp
theorem eg_0 (F : Nat → Int) (j : Nat) : eg F (3 * j + 0) = (F (j * 3), F (j * 3 + 1)) := by
  unfold eg; rw [show 3 * j + 0 = j * 3 by omega, show 3 * (j * 3 / 3) + (j * 3 % 3 + 1) % 3 = j * 3 + 1 by omega]
theorem eg_1 (F : Nat → Int) (j : Nat) : eg F (3 * j + 1) = (F (j * 3 + 1), F (j * 3 + 2)) := by
  unfold eg; rw [show 3 * j + 1 = j * 3 + 1 by omega, show 3 * ((j * 3 + 1) / 3) + ((j * 3 + 1) % 3 + 1) % 3 = j * 3 + 2 by omega]
theorem eg_2 (F : Nat → Int) (j : Nat) : eg F (3 * j + 2) = (F (j * 3 + 2), F (j * 3)) := by
  unfold eg; rw [show 3 * j + 2 = j * 3 + 2 by omega, show 3 * ((j * 3 + 2) / 3) + ((j * 3 + 2) % 3 + 1) % 3 = j * 3 by omega]
/-- What makes a surface of n faces closed. -/
structure Shutd (F : Nat → Int) (n : Nat) : Prop where
  i64 : ∀ t, t < 3 * n → I64 (F t)
  ne : ∀ t, t < 3 * n → (eg F t).1 ≠ (eg F t).2
  once : ∀ s t, s < t → t < 3 * n → eg F s ≠ eg F t
  back : ∀ t, t < 3 * n → ∃ s, s < 3 * n ∧ eg F s = ((eg F t).2, (eg F t).1)
theorem Shutd.eg64 {F : Nat → Int} {n : Nat} (h : Shutd F n) {t : Nat} (ht : t < 3 * n) : I64 (eg F t).1 ∧ I64 (eg F t).2 := by
  unfold eg
  exact ⟨h.i64 _ ht, h.i64 _ (by omega)⟩
theorem Shutd.good {F : Nat → Int} {n : Nat} (h : Shutd F n) {t : Nat} (ht : t ≤ 3 * n) : Good (egs F t) := by
  intro x hx
  obtain ⟨s, hs, rfl⟩ := (egs_mem F t x).1 hx
  exact h.eg64 (by omega)
theorem Shutd.new {F : Nat → Int} {n : Nat} (h : Shutd F n) {t : Nat} (ht : t < 3 * n) : decide (eg F t ∈ egs F t) = false := by
  rw [decide_eq_false_iff_not, egs_mem]
  rintro ⟨s, hs, he⟩
  exact h.once s t hs ht he
theorem Shutd.rev {F : Nat → Int} {n : Nat} (h : Shutd F n) {x : Int × Int} (hx : x ∈ egs F (3 * n)) : decide ((x.2, x.1) ∈ egs F (3 * n)) = true := by
  obtain ⟨s, hs, rfl⟩ := (egs_mem F _ x).1 hx
  obtain ⟨u, hu, he⟩ := h.back s hs
  rw [decide_eq_true_iff, egs_mem]
  exact ⟨u, hu, he⟩
abbrev MapAt (w : World) (B n : Nat) (E : List (Int × Int)) : Prop := w.ownsMap (H := Unit) Try.prog 80 (plainElem Try.prog 4) B n (Sd E)
/-- The next of a set's pairs. -/
theorem wpList_next_pairs {w : World} {ops : Array Oper} {rest : List Oper} {o : Oper} {a : Act} {Q : Exit → Act → World → Prop} (hg : o.guard = none) (it : Operand) (hop : o.op = Op.next it false) (b r n : Nat) (D : DataW Unit) (left : Lit → Bool) (cnt : Nat)
    (hit : a.eval it = .pointer (some ⟨r, 0, none⟩)) (h : w.ranges Try.prog 80 (plainElem Try.prog 4) b r n D left cnt)
    (hDone : wpList Try.prog ops Q rest (a.put o.dst (.tuple #[.bool false])) w)
    (hMore : ∀ (x1 x2 : Int) (v : Value) (w' : World) (cnt' : Nat), I64 x1 → I64 x2 → left (key2 (x1, x2)) = true → w'.ranges Try.prog 80 (plainElem Try.prog 4) b r n D (fun z => left z && !z.sameKey (key2 (x1, x2))) cnt' → cnt' < cnt →
      w.grownBy w' (some r) → (Instr.entry (.pointer (some ⟨r, 0, none⟩))).run Try.prog w' = .ok (.tuple #[.agg #[.int .i64 x1, .int .i64 x2], v]) w' → wpList Try.prog ops Q rest (a.put o.dst (.tuple #[.bool true, .agg #[.int .i64 x1, .int .i64 x2], v])) w') :
    wpList Try.prog ops Q (o :: rest) a w :=
  wpList_next_ranges w hg it hop 80 mp_law (plainElem Try.prog 4) (fun x : Int × Int => .agg #[.int .i64 x.1, .int .i64 x.2]) (fun v : Value => v) (fun key kl hk => by obtain ⟨x, hx, -⟩ := key2_back hk; exact ⟨x, hx⟩) (fun v y hv => ⟨v, rfl⟩)
    b r n D left cnt hit h (fun _ _ => hDone) (fun x v kl y w' cnt' hkey hlk hv hat hrg hlt hgr hsz hen => by
      obtain ⟨x', hx', hi1, hi2, rfl⟩ := key2_back hkey
      have ex : x = x' := by unfold pair2 at hx'; simp at hx'; exact Prod.ext hx'.1 hx'.2
      subst ex
      exact hMore x.1 x.2 v w' cnt' hi1 hi2 hlk hrg hlt hgr hen)
set_option maxHeartbeats 4000000 in
theorem closed_any (g h np n c d : Nat) (F : Nat → Int) (hn : n ≤ 100000) (hS : Shutd F n) (w : World) (hF : RowI w h (n * 3) F) (lh : h < w.heap.size) :
    Calls Try.prog 32 #[.agg #[.slice (some ⟨g, 0, none⟩) np c, .slice (some ⟨h, 0, none⟩) n d]] w fun e w' => e = .returned (.bool true) ∧ Below w.heap.size w w' := by
  have HS := Lib.hid hS
  have HF := Lib.hid hF
  have hmm := @run_makeMap Try.prog
  clear hS hF
  go_enter Try.func32, Try.ntmps32
  go_upto_region 2 with (fail)
  refine wp_world (fun x => (∀ o, x.cell? ⟨w.heap.size, o, none⟩ = (#[.slice (some ⟨g, 0, none⟩) np c, .slice (some ⟨h, 0, none⟩) n d] : Array Value)[o]?) ∧ w.heap.size < x.heap.size ∧ w.heap.size + 1 < x.heap.size ∧ Hid (MapAt x (w.heap.size + 1) 0 []) ∧ Hid (Below w.heap.size w x))
    ⟨fun o => by simp [go_sem], by simp; omega, by simp, Lib.hid (by unfold MapAt; rw [Sd_nil]; have := World.ownsMap_made (H := Unit) (w.alloc (.cells #[.slice (some ⟨g, 0, none⟩) np c, .slice (some ⟨h, 0, none⟩) n d] 37)) Try.prog 80 (plainElem Try.prog 4); simpa using this), Lib.hid (by (repeat' (first | (with_reducible exact Below.refl _ _) | (with_reducible assumption) | (with_reducible refine below_alloc ?_ _) | (with_reducible refine Below.drew ?_) | (with_reducible refine Below.setCell ?_ ?_ _) | (with_reducible refine below_after ?_ (by assumption)) | go_size)))⟩ ?_
  rintro G ⟨c0, z0, z1, hO, hB⟩
  obtain ⟨B, hBd⟩ : ∃ B, B = w.heap.size + 1 := ⟨_, rfl⟩
  rw [← hBd] at z1 hO
  have hwB : w.heap.size < B := by omega
  rw [← hBd]
  clear hBd hmm
  go_wp2
  clear c0 z0
  go_loopg [13] n (fun gg v wr => ∃ j : Nat, j ≤ n ∧ n - j ≤ gg ∧ v = .int .i64 (j : Int) ∧ Hid (MapAt wr B (3 * j) (egs F (3 * j)) ∧ Below w.heap.size w wr))
  case atStart => exact ⟨0, by omega, by omega, rfl, Lib.hid ⟨by rw [Nat.mul_zero, egs_zero]; exact hO.out, hB.out⟩⟩
  case round =>
    obtain ⟨j, hj, hgj, rfl, HI⟩ := hrel
    by_cases hlt : j < n
    · have hjn : (j : Int) < (n : Int) := by omega
      have hlr := keep_lt HI.out.2 lh
      have f0 := (HI.out.2.cell (p := ⟨h, j * 3, none⟩) lh).trans (HF.out (j * 3) (by omega))
      have f1 := (HI.out.2.cell (p := ⟨h, j * 3 + 1, none⟩) lh).trans (HF.out (j * 3 + 1) (by omega))
      have f2 := (HI.out.2.cell (p := ⟨h, j * 3 + 2, none⟩) lh).trans (HF.out (j * 3 + 2) (by omega))
      have G0 := Lib.hid (eg_0 F j)
      have G1 := Lib.hid (eg_1 F j)
      have G2 := Lib.hid (eg_2 F j)
      obtain ⟨a0, ha0⟩ : ∃ a, a = F (j * 3) := ⟨_, rfl⟩
      obtain ⟨a1, ha1⟩ : ∃ a, a = F (j * 3 + 1) := ⟨_, rfl⟩
      obtain ⟨a2, ha2⟩ : ∃ a, a = F (j * 3 + 2) := ⟨_, rfl⟩
      rw [← ha0] at f0 G0 G2
      rw [← ha1] at f1 G0 G1
      rw [← ha2] at f2 G1 G2
      clear ha0 ha1 ha2
      go_upto_region 5 with (fail)
      refine wp_world (fun x => (∀ o, x.cell? ⟨wr.heap.size, o, none⟩ = (#[.int .i64 a0, .int .i64 a1, .int .i64 a2] : Array Value)[o]?) ∧ wr.heap.size < x.heap.size ∧ Hid (MapAt x B (3 * j) (egs F (3 * j)) ∧ Below w.heap.size w x))
        ⟨fun o => by simp [go_sem], by simp, Lib.hid ⟨HI.out.1.alloc _, by have := HI.out.2; (repeat' (first | (with_reducible exact Below.refl _ _) | (with_reducible assumption) | (with_reducible refine below_alloc ?_ _) | (with_reducible refine Below.drew ?_) | (with_reducible refine Below.setCell ?_ ?_ _) | (with_reducible refine below_after ?_ (by assumption)) | go_size))⟩⟩ ?_
      rintro E ⟨e0, y0, HE⟩
      have hBn : B ≠ wr.heap.size := Nat.ne_of_lt HI.out.1.lt
      have hwr : w.heap.size ≤ wr.heap.size := HI.out.2.size
      generalize wr.heap.size = b5 at *
      clear f0 f1 f2 hlr HI
      have E0 := Lib.hid e0
      go_wp2
      clear e0
      go_loopg [17] 3 (fun gg v wr => ∃ i : Nat, i ≤ 3 ∧ 3 - i ≤ gg ∧ v = .int .i64 (i : Int) ∧ Hid (MapAt wr B (3 * j + i) (egs F (3 * j + i)) ∧ Below w.heap.size w wr ∧ (∀ o, wr.cell? ⟨b5, o, none⟩ = (#[.int .i64 a0, .int .i64 a1, .int .i64 a2] : Array Value)[o]?) ∧ b5 < wr.heap.size))
      case atStart => exact ⟨0, by omega, by omega, rfl, Lib.hid ⟨HE.out.1, HE.out.2, E0.out, y0⟩⟩
      case round =>
        obtain ⟨i, hi, hgi, rfl, HK⟩ := hrel
        clear HE
        rcases (by omega : i = 0 ∨ i = 1 ∨ i = 2 ∨ i = 3) with rfl | rfl | rfl | rfl
        · have x64 := HS.out.eg64 (t := 3 * j + 0) (by omega)
          have xne := HS.out.ne (3 * j + 0) (by omega)
          have xnew := HS.out.new (t := 3 * j + 0) (by omega)
          have hsucc := egs_succ F (3 * j + 0)
          rw [G0.out] at x64 xne xnew hsucc
          have e5 := HK.out.2.2.1
          have y5 := HK.out.2.2.2
          have XN := Lib.hid xnew
          have XG := Lib.hid (HS.out.good (t := 3 * j + 0) (by omega))
          have XS := Lib.hid hsucc
          have X64 := Lib.hid x64
          simp only [] at xne
          clear xnew hsucc x64
          go_upto_region 8 with (fail)
          go_region
          go_upto_region 9 with (fail)
          refine wp_world (fun x => (∀ o, x.cell? ⟨wr.heap.size, o, none⟩ = (#[.int .i64 a0, .int .i64 a1] : Array Value)[o]?) ∧ wr.heap.size < x.heap.size ∧ Hid (MapAt x B (3 * j + 0) (egs F (3 * j + 0)) ∧ Below w.heap.size w x ∧ (∀ o, x.cell? ⟨b5, o, none⟩ = (#[.int .i64 a0, .int .i64 a1, .int .i64 a2] : Array Value)[o]?) ∧ b5 < x.heap.size))
            ⟨fun o => by simp [go_sem], by simp, Lib.hid ⟨HK.out.1.drew.alloc _, by have := HK.out.2.1; (repeat' (first | (with_reducible exact Below.refl _ _) | (with_reducible assumption) | (with_reducible refine below_alloc ?_ _) | (with_reducible refine Below.drew ?_) | (with_reducible refine Below.setCell ?_ ?_ _) | (with_reducible refine below_after ?_ (by assumption)) | go_size)), fun o => by simp [go_sem, e5, y5], by simp; omega⟩⟩ ?_
          rintro V ⟨v0, vz, HV⟩
          have hrun := look2 HV.out.1 XG.out X64.out
          rw [XN.out] at hrun
          have hBV : B ≠ wr.heap.size := Nat.ne_of_lt HK.out.1.lt
          generalize wr.heap.size = b7 at *
          clear HK e5 y5
          simp only [] at hrun
          go_wp2_with (first
            | (at_mapUpdate; refine wpList_mapUpdate_own _ rfl _ _ _ 79 rfl 80 4 mp_law Try.underlying79 _ B _ _ rfl HV.out.1 (by unfold maxLen; omega) _ _ _ rfl rfl (key2_of X64.out.1 X64.out.2) _ [] (plainElem_bool Try.underlying4 true) ?_; intro w1 hown1 hgrow1; go_frame)
            | go_in)
          have HW := Lib.hid hown1
          have hb1 : Below w.heap.size w w1 := HV.out.2.1.grown hgrow1 HV.out.2.1.size (fun a1 hq => by cases hq; omega)
          have hbl := hgrow1.block b5 HV.out.2.2.2 (fun e => by cases e; exact hBn rfl)
          go_roundg (3 - 1)
          case rel => exact ⟨1, by omega, by omega, by go_num, Lib.hid ⟨by unfold MapAt; rw [show 3 * j + 1 = 3 * j + 0 + 1 by omega, XS.out, Sd_snoc]; exact HW.out, hb1, fun o => (World.cell?_of_block (a := ⟨b5, o, none⟩) hbl).trans (HV.out.2.2.1 o), Nat.lt_of_lt_of_le HV.out.2.2.2 hgrow1.size⟩⟩
          case measure => omega
        · have x64 := HS.out.eg64 (t := 3 * j + 1) (by omega)
          have xne := HS.out.ne (3 * j + 1) (by omega)
          have xnew := HS.out.new (t := 3 * j + 1) (by omega)
          have hsucc := egs_succ F (3 * j + 1)
          rw [G1.out] at x64 xne xnew hsucc
          have e5 := HK.out.2.2.1
          have y5 := HK.out.2.2.2
          have XN := Lib.hid xnew
          have XG := Lib.hid (HS.out.good (t := 3 * j + 1) (by omega))
          have XS := Lib.hid hsucc
          have X64 := Lib.hid x64
          simp only [] at xne
          clear xnew hsucc x64
          go_upto_region 8 with (fail)
          go_region
          go_upto_region 9 with (fail)
          refine wp_world (fun x => (∀ o, x.cell? ⟨wr.heap.size, o, none⟩ = (#[.int .i64 a1, .int .i64 a2] : Array Value)[o]?) ∧ wr.heap.size < x.heap.size ∧ Hid (MapAt x B (3 * j + 1) (egs F (3 * j + 1)) ∧ Below w.heap.size w x ∧ (∀ o, x.cell? ⟨b5, o, none⟩ = (#[.int .i64 a0, .int .i64 a1, .int .i64 a2] : Array Value)[o]?) ∧ b5 < x.heap.size))
            ⟨fun o => by simp [go_sem], by simp, Lib.hid ⟨HK.out.1.drew.alloc _, by have := HK.out.2.1; (repeat' (first | (with_reducible exact Below.refl _ _) | (with_reducible assumption) | (with_reducible refine below_alloc ?_ _) | (with_reducible refine Below.drew ?_) | (with_reducible refine Below.setCell ?_ ?_ _) | (with_reducible refine below_after ?_ (by assumption)) | go_size)), fun o => by simp [go_sem, e5, y5], by simp; omega⟩⟩ ?_
          rintro V ⟨v0, vz, HV⟩
          have hrun := look2 HV.out.1 XG.out X64.out
          rw [XN.out] at hrun
          have hBV : B ≠ wr.heap.size := Nat.ne_of_lt HK.out.1.lt
          generalize wr.heap.size = b7 at *
          clear HK e5 y5
          simp only [] at hrun
          go_wp2_with (first
            | (at_mapUpdate; refine wpList_mapUpdate_own _ rfl _ _ _ 79 rfl 80 4 mp_law Try.underlying79 _ B _ _ rfl HV.out.1 (by unfold maxLen; omega) _ _ _ rfl rfl (key2_of X64.out.1 X64.out.2) _ [] (plainElem_bool Try.underlying4 true) ?_; intro w1 hown1 hgrow1; go_frame)
            | go_in)
          have HW := Lib.hid hown1
          have hb1 : Below w.heap.size w w1 := HV.out.2.1.grown hgrow1 HV.out.2.1.size (fun a2 hq => by cases hq; omega)
          have hbl := hgrow1.block b5 HV.out.2.2.2 (fun e => by cases e; exact hBn rfl)
          go_roundg (3 - 2)
          case rel => exact ⟨2, by omega, by omega, by go_num, Lib.hid ⟨by unfold MapAt; rw [show 3 * j + 2 = 3 * j + 1 + 1 by omega, XS.out, Sd_snoc]; exact HW.out, hb1, fun o => (World.cell?_of_block (a := ⟨b5, o, none⟩) hbl).trans (HV.out.2.2.1 o), Nat.lt_of_lt_of_le HV.out.2.2.2 hgrow1.size⟩⟩
          case measure => omega
        · have x64 := HS.out.eg64 (t := 3 * j + 2) (by omega)
          have xne := HS.out.ne (3 * j + 2) (by omega)
          have xnew := HS.out.new (t := 3 * j + 2) (by omega)
          have hsucc := egs_succ F (3 * j + 2)
          rw [G2.out] at x64 xne xnew hsucc
          have e5 := HK.out.2.2.1
          have y5 := HK.out.2.2.2
          have XN := Lib.hid xnew
          have XG := Lib.hid (HS.out.good (t := 3 * j + 2) (by omega))
          have XS := Lib.hid hsucc
          have X64 := Lib.hid x64
          simp only [] at xne
          clear xnew hsucc x64
          go_upto_region 8 with (fail)
          go_region
          go_upto_region 9 with (fail)
          refine wp_world (fun x => (∀ o, x.cell? ⟨wr.heap.size, o, none⟩ = (#[.int .i64 a2, .int .i64 a0] : Array Value)[o]?) ∧ wr.heap.size < x.heap.size ∧ Hid (MapAt x B (3 * j + 2) (egs F (3 * j + 2)) ∧ Below w.heap.size w x ∧ (∀ o, x.cell? ⟨b5, o, none⟩ = (#[.int .i64 a0, .int .i64 a1, .int .i64 a2] : Array Value)[o]?) ∧ b5 < x.heap.size))
            ⟨fun o => by simp [go_sem], by simp, Lib.hid ⟨HK.out.1.drew.alloc _, by have := HK.out.2.1; (repeat' (first | (with_reducible exact Below.refl _ _) | (with_reducible assumption) | (with_reducible refine below_alloc ?_ _) | (with_reducible refine Below.drew ?_) | (with_reducible refine Below.setCell ?_ ?_ _) | (with_reducible refine below_after ?_ (by assumption)) | go_size)), fun o => by simp [go_sem, e5, y5], by simp; omega⟩⟩ ?_
          rintro V ⟨v0, vz, HV⟩
          have hrun := look2 HV.out.1 XG.out X64.out
          rw [XN.out] at hrun
          have hBV : B ≠ wr.heap.size := Nat.ne_of_lt HK.out.1.lt
          generalize wr.heap.size = b7 at *
          clear HK e5 y5
          simp only [] at hrun
          go_wp2_with (first
            | (at_mapUpdate; refine wpList_mapUpdate_own _ rfl _ _ _ 79 rfl 80 4 mp_law Try.underlying79 _ B _ _ rfl HV.out.1 (by unfold maxLen; omega) _ _ _ rfl rfl (key2_of X64.out.1 X64.out.2) _ [] (plainElem_bool Try.underlying4 true) ?_; intro w1 hown1 hgrow1; go_frame)
            | go_in)
          have HW := Lib.hid hown1
          have hb1 : Below w.heap.size w w1 := HV.out.2.1.grown hgrow1 HV.out.2.1.size (fun a0 hq => by cases hq; omega)
          have hbl := hgrow1.block b5 HV.out.2.2.2 (fun e => by cases e; exact hBn rfl)
          go_roundg (3 - 3)
          case rel => exact ⟨3, by omega, by omega, by go_num, Lib.hid ⟨by unfold MapAt; rw [show 3 * j + 3 = 3 * j + 2 + 1 by omega, XS.out, Sd_snoc]; exact HW.out, hb1, fun o => (World.cell?_of_block (a := ⟨b5, o, none⟩) hbl).trans (HV.out.2.2.1 o), Nat.lt_of_lt_of_le HV.out.2.2.2 hgrow1.size⟩⟩
          case measure => omega
        · have e5 := HK.out.2.2.1
          have y5 := HK.out.2.2.2
          go_wp2
          go_roundg (n - (j + 1))
          case rel => exact ⟨j + 1, by omega, by omega, by go_num, Lib.hid ⟨HK.out.1, HK.out.2.1⟩⟩
          case measure => omega
    · obtain rfl : j = n := by omega
      have hjn : ¬ (j : Int) < (j : Int) := by omega
      go_wp2_with (first
        | (at_range; refine wpList_range_own _ rfl _ 79 rfl 80 4 mp_law Try.underlying79 _ B _ _ rfl HI.out.1 ?_; intro w0 hrg0 hg0 hs0)
        | go_in)
      (try go_frame)
      have hb0 : Below w.heap.size w w0 := HI.out.2.grown hg0 HI.out.2.size (fun q hq => by cases hq)
      have hwr : w.heap.size ≤ wr.heap.size := HI.out.2.size
      generalize wr.heap.size = r at *
      clear HI hg0 hs0
      go_loopw [8] (fun _ wr => ∃ (left : Lit → Bool) (cnt : Nat), wr.ranges (H := Unit) Try.prog 80 (plainElem Try.prog 4) B r (3 * j) (Sd (egs F (3 * j))) left cnt ∧ (∀ l, left l = true → Maps.has (Sd (egs F (3 * j))) l = true) ∧ Below w.heap.size w wr) (fun _ wr => wr.rangeLeft B r)
      case atStart => exact ⟨_, _, hrg0, fun l hl => hl, hb0⟩
      case round =>
        obtain ⟨left, cnt, hrg, hle, hnx⟩ := hrel
        go_wp2_with (first
          | (at_next; refine wpList_next_pairs rfl _ rfl B r _ _ _ _ rfl hrg ?_ ?_)
          | go_in)
        · go_wp2
          go_returns
          exact ⟨rfl, hnx⟩
        · intro x1 x2 v w1 cnt1 hi1 hi2 hlk hrg1 hlt hg1 hen
          have hin : (x1, x2) ∈ egs F (3 * j) := by
            have h1 := hle _ hlk
            rw [Sd_has (HS.out.good (by omega)) ⟨hi1, hi2⟩] at h1
            simpa using h1
          have HRV := Lib.hid (HS.out.rev hin)
          have hb1 : Below w.heap.size w w1 := hnx.grown hg1 hnx.size (fun q hq => by cases hq; exact hwr)
          have HB1 := Lib.hid hb1
          have HR1 := Lib.hid hrg1
          have HG := Lib.hid (⟨hi2, hi1⟩ : I64 x2 ∧ I64 x1)
          have HLE := Lib.hid hle
          have HLT := Lib.hid hlt
          have HOLD := Lib.hid hrg.left_eq
          clear hlk hin hi1 hi2 hle hb1 hnx hrg1 hg1 hlt
          go_upto_region 17 with (fail)
          refine wp_world (fun x => (∀ o, x.cell? ⟨w1.heap.size, o, none⟩ = (#[.int .i64 x1, .int .i64 x2] : Array Value)[o]?) ∧ w1.heap.size < x.heap.size ∧ Hid (x.ranges (H := Unit) Try.prog 80 (plainElem Try.prog 4) B r (3 * j) (Sd (egs F (3 * j))) (fun z => left z && !z.sameKey (key2 (x1, x2))) cnt1 ∧ Below w.heap.size w x))
            ⟨fun o => by simp [go_sem], by simp, Lib.hid ⟨HR1.out.alloc _, by have := HB1.out; (repeat' (first | (with_reducible exact Below.refl _ _) | (with_reducible assumption) | (with_reducible refine below_alloc ?_ _) | (with_reducible refine Below.drew ?_) | (with_reducible refine Below.setCell ?_ ?_ _) | (with_reducible refine below_after ?_ (by assumption)) | go_size))⟩⟩ ?_
          rintro V ⟨v0, vz, HV⟩
          have hrun := look2 (x := (x2, x1)) HV.out.1.owns (HS.out.good (by omega)) HG.out
          rw [HRV.out] at hrun
          simp only [] at hrun
          generalize w1.heap.size = b8 at *
          clear HRV HB1 HR1
          go_wp2
          go_roundw
          case rel => exact ⟨_, cnt1, HV.out.1, fun l hl => HLE.out l (by simp at hl; exact hl.1), HV.out.2⟩
          case measure => rw [HV.out.1.left_eq, HOLD.out]; exact HLT.out
end Go.Proofs.Ytkpochkfijplaaa
