/-
  What the reference's side returns.
-/
import Derived.Test.YtfmmnnodihpgmaaDoorMeshD
namespace Go.Proofs.YtfmmnnodihpgmaaDoor
set_option linter.all false
open Go Go.RowKit Wd
set_option maxRecDepth 100000
/-- A slice of a call's own. -/
structure Ow (e : TypeId) (size b0 : Nat) (w0 w : World) (v : Value) (n : Nat) (xs : List Value) : Prop where
  own : w.ownsRow b0 e size v n xs
  below : Below b0 w0 w
  base : b0 ≤ w.heap.size
theorem Ow.start (e : TypeId) (size : Nat) (w : World) : Ow e size w.heap.size w w (.slice none 0 0) 0 [] := ⟨World.ownsRow_nil _ _ _ _, Below.refl _ _, Nat.le_refl _⟩
theorem Ow.push {e : TypeId} {size b0 : Nat} {w0 w w1 : World} {v : Value} {n n' : Nat} {xs xs' : List Value} {g cap : Nat} {O : Obj} (h : Ow e size b0 w0 w v n xs)
    (hown : w1.ownsRow b0 e size (.slice (some ⟨g, 0, none⟩) n' cap) n' xs') (hg : (w.alloc O).grownBy w1 v.ownBlock) : Ow e size b0 w0 w1 (.slice (some ⟨g, 0, none⟩) n' cap) n' xs' :=
  ⟨hown, (h.below.alloc h.base O).grown hg (by simp; have := h.base; omega) (fun q hq => (h.own.lt q hq).1), Nat.le_trans h.base (by have := hg.size; simp at this; omega)⟩
theorem Ow.drew {e : TypeId} {size b0 : Nat} {w0 w : World} {v : Value} {n : Nat} {xs : List Value} (h : Ow e size b0 w0 w v n xs) : Ow e size b0 w0 w.drew v n xs := ⟨h.own.drew, h.below.drew, h.base⟩
theorem Ow.pushD {e : TypeId} {size b0 : Nat} {w0 w w1 : World} {v : Value} {n n' : Nat} {xs xs' : List Value} {g cap : Nat} {O : Obj} (h : Ow e size b0 w0 w v n xs)
    (hown : w1.ownsRow b0 e size (.slice (some ⟨g, 0, none⟩) n' cap) n' xs') (hg : (w.drew.alloc O).grownBy w1 v.ownBlock) : Ow e size b0 w0 w1 (.slice (some ⟨g, 0, none⟩) n' cap) n' xs' := h.drew.push hown hg
set_option maxHeartbeats 4000000 in
/-- side: the points of a side. -/
theorem rside_any (ax az ah : Option Addr) (cx cz ch : Nat) (A : Nat → Option Addr) (C : Nat → Nat) (X Z : List Int) (H : List (List Int)) (sd : Int) (hsd : sd = 1 ∨ sd = -1) (hv : Fine X Z H) (w : World) (hf : Frm w ax az ah A C X Z H) :
    Calls Tryd.prog 53 #[.agg #[.slice ax X.length cx, .slice az Z.length cz, .slice ah H.length ch], .int .i64 sd] w fun e w' => ∃ pv np, e = .returned pv ∧ np ≤ 500 ∧ Below w.heap.size w w' ∧ w'.ownsRow w.heap.size 82 3 pv np (sideP X Z H sd X.length) := by
  have x2 := hv.x2
  have z2 := hv.z2
  have x24 := hv.x24
  have z16 := hv.z16
  have hl := hv.hl
  obtain ⟨bx, ox, rfl, hxi⟩ := hf.x (by omega)
  obtain ⟨bz, oz, rfl, hzi⟩ := hf.z (by omega)
  obtain ⟨bh, oh, rfl, hri⟩ := hf.h (by omega)
  have lx := hxi.lt
  have lz := hzi.lt
  have lh := hri.lt
  have HV := Lib.hid hv
  have HX := Lib.hid hxi
  have HZ := Lib.hid hzi
  have HR := Lib.hid hri
  have HL := Lib.hid hl
  have HSD := Lib.hid hsd
  clear hv hf hxi hzi hri hl hsd
  go_enter Tryd.func53, Tryd.ntmps53
  go_upto_region 1 with (fail)
  refine wp_world (fun x => (∀ o, x.cell? ⟨w.heap.size, o, none⟩ = (#[.slice (some ⟨bx, ox, none⟩) X.length cx, .slice (some ⟨bz, oz, none⟩) Z.length cz, .slice (some ⟨bh, oh, none⟩) H.length ch] : Array Value)[o]?) ∧ (∀ o, x.frozen? ⟨w.heap.size, o, none⟩ = false) ∧ w.heap.size < x.heap.size ∧ Below w.heap.size w x) ⟨fun o => by simp [go_sem], fun o => by simp [go_sem], by (first | omega | (simp [go_sem]; done) | (simp [go_sem]; omega)), by (repeat' (first | (with_reducible exact Below.refl _ _) | (with_reducible assumption) | (with_reducible refine below_alloc ?_ _) | (with_reducible refine Below.drew ?_) | (with_reducible refine Below.setCell ?_ ?_ _) | (with_reducible refine below_after ?_ (by assumption)) | go_size))⟩ ?_
  rintro G ⟨hGc0, hGf0, hGz0, hGb⟩
  have hFm := Lib.hid (show ∀ x : World, Below G.heap.size G x → (∀ o, x.cell? ⟨w.heap.size, o, none⟩ = (#[.slice (some ⟨bx, ox, none⟩) X.length cx, .slice (some ⟨bz, oz, none⟩) Z.length cz, .slice (some ⟨bh, oh, none⟩) H.length ch] : Array Value)[o]?) ∧ w.heap.size < x.heap.size from fun x hb => ⟨fun o => (hb.cell (p := ⟨w.heap.size, o, none⟩) hGz0).trans (hGc0 o), Nat.lt_of_lt_of_le hGz0 hb.size⟩)
  have hOld := Lib.hid (show ∀ x : World, Below G.heap.size G x → Below w.heap.size w x from fun x hb => hGb.trans (hb.mono (Nat.le_of_lt hGz0)))
  have M0 := Lib.hid (Ow.start 82 3 G)
  clear hGc0 hGf0
  go_wp2
  go_loopg [5, 6] X.length (fun gg ov v wq => ∃ i : Nat, i ≤ X.length ∧ X.length - i ≤ gg ∧ v = .int .i64 (i : Int) ∧ ∃ pv np, pv = ov ∧ np ≤ 20 * i ∧ Hid (Ow 82 3 G.heap.size G wq pv np (sideP X Z H sd i)))
  case atStart => exact ⟨0, by omega, by omega, rfl, _, 0, rfl, by omega, Lib.hid (by rw [sideP_zero]; exact M0.out)⟩
  case round =>
    obtain ⟨i, hi, hgi, rfl, pv1, np1, rfl, hnp1, HI⟩ := hrel
    by_cases hlti : i < X.length
    · have f1 := (hFm.out wr HI.out.below).1
      have f1z := (hFm.out wr HI.out.below).2
      have hiX : (i : Int) < (X.length : Int) := by omega
      obtain ⟨xi, hxi⟩ : ∃ xi, xi = ix X i := ⟨_, rfl⟩
      have HXI := Lib.hid hxi
      clear hxi
      go_wp2
      go_loopg [5, 7] Z.length (fun gg ov v wp => ∃ k : Nat, k ≤ Z.length ∧ Z.length - k ≤ gg ∧ v = .int .i64 (k : Int) ∧ ∃ pv np, pv = ov ∧ np ≤ 20 * i + k ∧ Hid (Ow 82 3 G.heap.size G wp pv np (sideP X Z H sd i ++ rowP X Z H sd i k)))
      case atStart => exact ⟨0, by omega, by omega, rfl, pv1, np1, rfl, by omega, Lib.hid (by rw [rowP_zero, List.append_nil]; exact HI.out)⟩
      case round =>
        obtain ⟨k, hk, hgk, rfl, pv2, np2, rfl, hnp2, HK⟩ := hrel
        clear f1 f1z
        by_cases hltk : k < Z.length
        · have f2 := (hFm.out wr HK.out.below).1
          have f2z := (hFm.out wr HK.out.below).2
          have hO2 := hOld.out wr HK.out.below
          have x1 := (HX.out.later hO2).cell i hlti
          rw [← HXI.out] at x1
          have z1 := (HZ.out.later hO2).cell k hltk
          have hkZ : (k : Int) < (Z.length : Int) := by omega
          have hiH : (i : Int) < (H.length : Int) := by have := HL.out; omega
          have hrl := HV.out.hr i (by have := HL.out; omega)
          have h1 := (HR.out.later hO2).cell i (by have := HL.out; omega)
          obtain ⟨rb, ro, ea, hrow⟩ := HR.out.row i (by have := HL.out; omega) (by omega)
          rw [ea, hrl] at h1
          have h2 := (hrow.later hO2).cell k (by omega)
          have lr := hrow.lt
          have hvb := HV.out.hv i (by have := HL.out; omega) k hltk
          obtain ⟨v, hv⟩ : ∃ v, v = ix (row H i) k := ⟨_, rfl⟩
          obtain ⟨zk, hzk⟩ : ∃ zk, zk = ix Z k := ⟨_, rfl⟩
          rw [← hv] at h2 hvb
          rw [← hzk] at z1
          have HW := Lib.hid hv
          have HZK := Lib.hid hzk
          obtain ⟨y, hy⟩ : ∃ y, y = sd * v := ⟨_, rfl⟩
          have hyb : -4096 ≤ sd * v ∧ sd * v ≤ 4096 := by
            rcases HSD.out with e | e <;> rw [e] <;> omega
          have r1 : IntKind.i64.wrap (sd * v) = y := by rw [hy, IntKind.wrap_i64]; omega
          have HY := Lib.hid hy
          have hbl := HK.out.below
          have hbs := HK.out.base
          have hgs := HK.out.own
          have hS := Lib.hid (show ∀ x : World, Below G.heap.size G x → (∀ o, x.cell? ⟨w.heap.size, o, none⟩ = (#[.slice (some ⟨bx, ox, none⟩) X.length cx, .slice (some ⟨bz, oz, none⟩) Z.length cz, .slice (some ⟨bh, oh, none⟩) H.length ch] : Array Value)[o]?) ∧ x.cell? ⟨bx, ox + i, none⟩ = some (.int .i64 xi) ∧ x.cell? ⟨bz, oz + k, none⟩ = some (.int .i64 zk) ∧ x.cell? ⟨bh, oh + i, none⟩ = some (.slice (some ⟨rb, ro, none⟩) Z.length (C i)) ∧ x.cell? ⟨rb, ro + k, none⟩ = some (.int .i64 v) ∧ w.heap.size < x.heap.size ∧ bx < x.heap.size ∧ bz < x.heap.size ∧ bh < x.heap.size ∧ rb < x.heap.size from fun x hb => by
            have hO := hOld.out x hb
            have a1 := (HX.out.later hO).cell i hlti
            have a2 := (HZ.out.later hO).cell k hltk
            have a3 := (HR.out.later hO).cell i (by have := HL.out; omega)
            have a4 := (hrow.later hO).cell k (by omega)
            rw [ea, hrl] at a3
            rw [← HXI.out] at a1
            rw [← hzk] at a2
            rw [← hv] at a4
            exact ⟨(hFm.out x hb).1, a1, a2, a3, a4, (hFm.out x hb).2, keep_lt hO lx, keep_lt hO lz, keep_lt hO lh, keep_lt hO lr⟩)
          obtain ⟨i0, hinf, hz0, hz1', hz2⟩ := info_parts infoV
          have hn : np2 + 1 ≤ maxLen := by unfold maxLen; omega
          have hb24 : (np2 + 1) * 24 ≤ 140737488355328 := by omega
          have HN := Lib.hid hn
          clear hv hzk hy hyb hn hrow hrl ea hgs
          go_upto_region 8 with (fail)
          refine wp_region_held_drew (S := fun x => (∀ o, x.cell? ⟨w.heap.size, o, none⟩ = (#[.slice (some ⟨bx, ox, none⟩) X.length cx, .slice (some ⟨bz, oz, none⟩) Z.length cz, .slice (some ⟨bh, oh, none⟩) H.length ch] : Array Value)[o]?) ∧ x.cell? ⟨bx, ox + i, none⟩ = some (.int .i64 xi) ∧ x.cell? ⟨bz, oz + k, none⟩ = some (.int .i64 zk) ∧ x.cell? ⟨bh, oh + i, none⟩ = some (.slice (some ⟨rb, ro, none⟩) Z.length (C i)) ∧ x.cell? ⟨rb, ro + k, none⟩ = some (.int .i64 v) ∧ w.heap.size < x.heap.size ∧ bx < x.heap.size ∧ bz < x.heap.size ∧ bh < x.heap.size ∧ rb < x.heap.size) (by kernel_rfl) (by (refine hS.out _ ?_; (repeat (first | (with_reducible assumption) | (with_reducible refine Below.drew ?_) | ((with_reducible refine below_alloc' ?_ ?_ _); (focus (first | omega | (simp; omega)))))))) (fun hHeld => ?_)
          iterate 25 (all_goals (first
            | ((refine wpAnyH_take (i := 0) (v := pv2) rfl (by kernel_rfl) (by decide +kernel) (by decide +kernel) (fun _ _ _ h => h) (Or.inl ⟨rfl, fun x hx => (by ((try dsimp only at hx); go_simp))⟩) hHeld ?_); (try simp only [List.getElem_toArray, List.getElem_cons_succ, List.getElem_cons_zero, Act.put, List.setIfInBounds_toArray, List.set_cons_zero, List.set_cons_succ]))
            | ((refine wpAnyH_take (i := 1) (v := .pointer (some ⟨w.heap.size, 0, none⟩)) rfl (by kernel_rfl) (by decide +kernel) (by decide +kernel) (fun _ _ _ h => h) (Or.inl ⟨rfl, fun x hx => (by ((try dsimp only at hx); go_simp))⟩) hHeld ?_); (try simp only [List.getElem_toArray, List.getElem_cons_succ, List.getElem_cons_zero, Act.put, List.setIfInBounds_toArray, List.set_cons_zero, List.set_cons_succ]))
            | ((refine wpAnyH_take (i := 2) (v := .slice (some ⟨bx, ox, none⟩) X.length cx) rfl (by kernel_rfl) (by decide +kernel) (by decide +kernel) (fun _ _ _ h => h) (Or.inl ⟨rfl, fun x hx => (by ((try dsimp only at hx); go_simp))⟩) hHeld ?_); (try simp only [List.getElem_toArray, List.getElem_cons_succ, List.getElem_cons_zero, Act.put, List.setIfInBounds_toArray, List.set_cons_zero, List.set_cons_succ]))
            | ((refine wpAnyH_take (i := 3) (v := .int .i64 (i : Int)) rfl (by kernel_rfl) (by decide +kernel) (by decide +kernel) (fun _ _ _ h => h) (Or.inl ⟨rfl, fun x hx => (by ((try dsimp only at hx); go_simp))⟩) hHeld ?_); (try simp only [List.getElem_toArray, List.getElem_cons_succ, List.getElem_cons_zero, Act.put, List.setIfInBounds_toArray, List.set_cons_zero, List.set_cons_succ]))
            | ((refine wpAnyH_take (i := 4) (v := .pointer (some ⟨bx, ox + i, none⟩)) rfl (by kernel_rfl) (by decide +kernel) (by decide +kernel) (fun _ _ _ h => h) (Or.inl ⟨rfl, fun x hx => (by ((try dsimp only at hx); go_simp))⟩) hHeld ?_); (try simp only [List.getElem_toArray, List.getElem_cons_succ, List.getElem_cons_zero, Act.put, List.setIfInBounds_toArray, List.set_cons_zero, List.set_cons_succ]))
            | ((refine wpAnyH_take (i := 5) (v := .int .i64 xi) rfl (by kernel_rfl) (by decide +kernel) (by decide +kernel) (fun _ _ _ h => h) (Or.inl ⟨rfl, fun x hx => (by ((try dsimp only at hx); go_simp))⟩) hHeld ?_); (try simp only [List.getElem_toArray, List.getElem_cons_succ, List.getElem_cons_zero, Act.put, List.setIfInBounds_toArray, List.set_cons_zero, List.set_cons_succ]))
            | ((refine wpAnyH_take (i := 6) (v := .int .i64 sd) rfl (by kernel_rfl) (by decide +kernel) (by decide +kernel) (fun _ _ _ h => h) (Or.inl ⟨rfl, fun x hx => (by ((try dsimp only at hx); go_simp))⟩) hHeld ?_); (try simp only [List.getElem_toArray, List.getElem_cons_succ, List.getElem_cons_zero, Act.put, List.setIfInBounds_toArray, List.set_cons_zero, List.set_cons_succ]))
            | ((refine wpAnyH_take (i := 7) (v := .pointer (some ⟨w.heap.size, 2, none⟩)) rfl (by kernel_rfl) (by decide +kernel) (by decide +kernel) (fun _ _ _ h => h) (Or.inl ⟨rfl, fun x hx => (by ((try dsimp only at hx); go_simp))⟩) hHeld ?_); (try simp only [List.getElem_toArray, List.getElem_cons_succ, List.getElem_cons_zero, Act.put, List.setIfInBounds_toArray, List.set_cons_zero, List.set_cons_succ]))
            | ((refine wpAnyH_take (i := 8) (v := .slice (some ⟨bh, oh, none⟩) H.length ch) rfl (by kernel_rfl) (by decide +kernel) (by decide +kernel) (fun _ _ _ h => h) (Or.inl ⟨rfl, fun x hx => (by ((try dsimp only at hx); go_simp))⟩) hHeld ?_); (try simp only [List.getElem_toArray, List.getElem_cons_succ, List.getElem_cons_zero, Act.put, List.setIfInBounds_toArray, List.set_cons_zero, List.set_cons_succ]))
            | ((refine wpAnyH_take (i := 9) (v := .int .i64 (i : Int)) rfl (by kernel_rfl) (by decide +kernel) (by decide +kernel) (fun _ _ _ h => h) (Or.inl ⟨rfl, fun x hx => (by ((try dsimp only at hx); go_simp))⟩) hHeld ?_); (try simp only [List.getElem_toArray, List.getElem_cons_succ, List.getElem_cons_zero, Act.put, List.setIfInBounds_toArray, List.set_cons_zero, List.set_cons_succ]))
            | ((refine wpAnyH_take (i := 10) (v := .pointer (some ⟨bh, oh + i, none⟩)) rfl (by kernel_rfl) (by decide +kernel) (by decide +kernel) (fun _ _ _ h => h) (Or.inl ⟨rfl, fun x hx => (by ((try dsimp only at hx); go_simp))⟩) hHeld ?_); (try simp only [List.getElem_toArray, List.getElem_cons_succ, List.getElem_cons_zero, Act.put, List.setIfInBounds_toArray, List.set_cons_zero, List.set_cons_succ]))
            | ((refine wpAnyH_take (i := 11) (v := .slice (some ⟨rb, ro, none⟩) Z.length (C i)) rfl (by kernel_rfl) (by decide +kernel) (by decide +kernel) (fun _ _ _ h => h) (Or.inl ⟨rfl, fun x hx => (by ((try dsimp only at hx); go_simp))⟩) hHeld ?_); (try simp only [List.getElem_toArray, List.getElem_cons_succ, List.getElem_cons_zero, Act.put, List.setIfInBounds_toArray, List.set_cons_zero, List.set_cons_succ]))
            | ((refine wpAnyH_take (i := 12) (v := .int .i64 (k : Int)) rfl (by kernel_rfl) (by decide +kernel) (by decide +kernel) (fun _ _ _ h => h) (Or.inl ⟨rfl, fun x hx => (by ((try dsimp only at hx); go_simp))⟩) hHeld ?_); (try simp only [List.getElem_toArray, List.getElem_cons_succ, List.getElem_cons_zero, Act.put, List.setIfInBounds_toArray, List.set_cons_zero, List.set_cons_succ]))
            | ((refine wpAnyH_take (i := 13) (v := .pointer (some ⟨rb, ro + k, none⟩)) rfl (by kernel_rfl) (by decide +kernel) (by decide +kernel) (fun _ _ _ h => h) (Or.inl ⟨rfl, fun x hx => (by ((try dsimp only at hx); go_simp))⟩) hHeld ?_); (try simp only [List.getElem_toArray, List.getElem_cons_succ, List.getElem_cons_zero, Act.put, List.setIfInBounds_toArray, List.set_cons_zero, List.set_cons_succ]))
            | ((refine wpAnyH_take (i := 14) (v := .int .i64 v) rfl (by kernel_rfl) (by decide +kernel) (by decide +kernel) (fun _ _ _ h => h) (Or.inl ⟨rfl, fun x hx => (by ((try dsimp only at hx); go_simp))⟩) hHeld ?_); (try simp only [List.getElem_toArray, List.getElem_cons_succ, List.getElem_cons_zero, Act.put, List.setIfInBounds_toArray, List.set_cons_zero, List.set_cons_succ]))
            | ((refine wpAnyH_take (i := 15) (v := .int .i64 y) rfl (by kernel_rfl) (by decide +kernel) (by decide +kernel) (fun _ _ _ h => h) (Or.inl ⟨rfl, fun x hx => (by ((try dsimp only at hx); go_simp))⟩) hHeld ?_); (try simp only [List.getElem_toArray, List.getElem_cons_succ, List.getElem_cons_zero, Act.put, List.setIfInBounds_toArray, List.set_cons_zero, List.set_cons_succ]))
            | ((refine wpAnyH_take (i := 16) (v := .pointer (some ⟨w.heap.size, 1, none⟩)) rfl (by kernel_rfl) (by decide +kernel) (by decide +kernel) (fun _ _ _ h => h) (Or.inl ⟨rfl, fun x hx => (by ((try dsimp only at hx); go_simp))⟩) hHeld ?_); (try simp only [List.getElem_toArray, List.getElem_cons_succ, List.getElem_cons_zero, Act.put, List.setIfInBounds_toArray, List.set_cons_zero, List.set_cons_succ]))
            | ((refine wpAnyH_take (i := 17) (v := .slice (some ⟨bz, oz, none⟩) Z.length cz) rfl (by kernel_rfl) (by decide +kernel) (by decide +kernel) (fun _ _ _ h => h) (Or.inl ⟨rfl, fun x hx => (by ((try dsimp only at hx); go_simp))⟩) hHeld ?_); (try simp only [List.getElem_toArray, List.getElem_cons_succ, List.getElem_cons_zero, Act.put, List.setIfInBounds_toArray, List.set_cons_zero, List.set_cons_succ]))
            | ((refine wpAnyH_take (i := 18) (v := .int .i64 (k : Int)) rfl (by kernel_rfl) (by decide +kernel) (by decide +kernel) (fun _ _ _ h => h) (Or.inl ⟨rfl, fun x hx => (by ((try dsimp only at hx); go_simp))⟩) hHeld ?_); (try simp only [List.getElem_toArray, List.getElem_cons_succ, List.getElem_cons_zero, Act.put, List.setIfInBounds_toArray, List.set_cons_zero, List.set_cons_succ]))
            | ((refine wpAnyH_take (i := 19) (v := .pointer (some ⟨bz, oz + k, none⟩)) rfl (by kernel_rfl) (by decide +kernel) (by decide +kernel) (fun _ _ _ h => h) (Or.inl ⟨rfl, fun x hx => (by ((try dsimp only at hx); go_simp))⟩) hHeld ?_); (try simp only [List.getElem_toArray, List.getElem_cons_succ, List.getElem_cons_zero, Act.put, List.setIfInBounds_toArray, List.set_cons_zero, List.set_cons_succ]))
            | ((refine wpAnyH_take (i := 20) (v := .int .i64 zk) rfl (by kernel_rfl) (by decide +kernel) (by decide +kernel) (fun _ _ _ h => h) (Or.inl ⟨rfl, fun x hx => (by ((try dsimp only at hx); go_simp))⟩) hHeld ?_); (try simp only [List.getElem_toArray, List.getElem_cons_succ, List.getElem_cons_zero, Act.put, List.setIfInBounds_toArray, List.set_cons_zero, List.set_cons_succ]))
            | ((refine wpAnyH_take (i := 21) (v := .agg (#[.int .i64 xi, .int .i64 y, .int .i64 zk] : Array Value)) rfl (by kernel_rfl) (by decide +kernel) (by decide +kernel) (fun _ _ _ h => h) (Or.inl ⟨rfl, fun x hx => (by ((try dsimp only at hx); go_simp))⟩) hHeld ?_); (try simp only [List.getElem_toArray, List.getElem_cons_succ, List.getElem_cons_zero, Act.put, List.setIfInBounds_toArray, List.set_cons_zero, List.set_cons_succ]))
            | ((refine wpAnyH_ready (rs := [22]) (by decide +kernel) (by simp) (AllReadyH.cons rfl (fun K hK => ?_) AllReadyH.nil)) <;> ((first | (first | (refine step_append_lies _ (by rfl) _ _ _ (by rfl) G.heap.size 82 i0 _ 3 24 Tryd.underlying44 hinf hz0 hz1' hz2 rfl (by decide) _ np2 (sideP X Z H sd i ++ rowP X Z H sd i k) (by rfl) ((HK.out.own.alloc _).drew) ⟨wr.heap.size, 0, none⟩ 1 1 [.int .i64 xi, .int .i64 y, .int .i64 zk] (by rfl) (by rfl) (World.news_of_block (cs := #[.int .i64 xi, .int .i64 y, .int .i64 zk]) (t := 82) (fr := (0, 0)) (heap_alloc_new wr _)) (by simp [Value.oneCell']) (by omega) HN.out hb24 (by simp; omega) (wr.heap.size + 1) (by simp) ?_; intro g cap v1 hown1 hgrow hat hltg; have HP := Lib.hid (HK.out.pushD hown1 hgrow); have hbel1 := HP.out.below)) | (go_simp; (first | (refine step_append_lies _ (by rfl) _ _ _ (by rfl) G.heap.size 82 i0 _ 3 24 Tryd.underlying44 hinf hz0 hz1' hz2 rfl (by decide) _ np2 (sideP X Z H sd i ++ rowP X Z H sd i k) (by rfl) ((HK.out.own.alloc _).drew) ⟨wr.heap.size, 0, none⟩ 1 1 [.int .i64 xi, .int .i64 y, .int .i64 zk] (by rfl) (by rfl) (World.news_of_block (cs := #[.int .i64 xi, .int .i64 y, .int .i64 zk]) (t := 82) (fr := (0, 0)) (heap_alloc_new wr _)) (by simp [Value.oneCell']) (by omega) HN.out hb24 (by simp; omega) (wr.heap.size + 1) (by simp) ?_; intro g cap v1 hown1 hgrow hat hltg; have HP := Lib.hid (HK.out.pushD hown1 hgrow); have hbel1 := HP.out.below) | skip))); (refine hK.out _ _ ?_ (fun hNew => ?_)); (focus (refine hS.out _ ?_; (repeat (first | (with_reducible assumption) | (with_reducible refine Below.drew ?_) | ((with_reducible refine below_alloc' ?_ ?_ _); (focus (first | omega | (simp; omega)))))))); clear hHeld hK K; have hHeld := hNew; clear hNew; (try simp only [List.getElem_toArray, List.getElem_cons_succ, List.getElem_cons_zero, Act.put, List.setIfInBounds_toArray, List.set_cons_zero, List.set_cons_succ])))
            | ((refine wpAnyH_ready (rs := [23]) (by decide +kernel) (by simp) (AllReadyH.cons rfl (fun K hK => ?_) AllReadyH.nil)) <;> ((first | (first | (refine step_append_lies _ (by rfl) _ _ _ (by rfl) G.heap.size 82 i0 _ 3 24 Tryd.underlying44 hinf hz0 hz1' hz2 rfl (by decide) _ np2 (sideP X Z H sd i ++ rowP X Z H sd i k) (by rfl) ((HK.out.own.alloc _).drew) ⟨wr.heap.size, 0, none⟩ 1 1 [.int .i64 xi, .int .i64 y, .int .i64 zk] (by rfl) (by rfl) (World.news_of_block (cs := #[.int .i64 xi, .int .i64 y, .int .i64 zk]) (t := 82) (fr := (0, 0)) (heap_alloc_new wr _)) (by simp [Value.oneCell']) (by omega) HN.out hb24 (by simp; omega) (wr.heap.size + 1) (by simp) ?_; intro g cap v1 hown1 hgrow hat hltg; have HP := Lib.hid (HK.out.pushD hown1 hgrow); have hbel1 := HP.out.below)) | (go_simp; (first | (refine step_append_lies _ (by rfl) _ _ _ (by rfl) G.heap.size 82 i0 _ 3 24 Tryd.underlying44 hinf hz0 hz1' hz2 rfl (by decide) _ np2 (sideP X Z H sd i ++ rowP X Z H sd i k) (by rfl) ((HK.out.own.alloc _).drew) ⟨wr.heap.size, 0, none⟩ 1 1 [.int .i64 xi, .int .i64 y, .int .i64 zk] (by rfl) (by rfl) (World.news_of_block (cs := #[.int .i64 xi, .int .i64 y, .int .i64 zk]) (t := 82) (fr := (0, 0)) (heap_alloc_new wr _)) (by simp [Value.oneCell']) (by omega) HN.out hb24 (by simp; omega) (wr.heap.size + 1) (by simp) ?_; intro g cap v1 hown1 hgrow hat hltg; have HP := Lib.hid (HK.out.pushD hown1 hgrow); have hbel1 := HP.out.below) | skip))); (refine hK.out _ _ ?_ (fun hNew => ?_)); (focus (refine hS.out _ ?_; (repeat (first | (with_reducible assumption) | (with_reducible refine Below.drew ?_) | ((with_reducible refine below_alloc' ?_ ?_ _); (focus (first | omega | (simp; omega)))))))); clear hHeld hK K; have hHeld := hNew; clear hNew; (try simp only [List.getElem_toArray, List.getElem_cons_succ, List.getElem_cons_zero, Act.put, List.setIfInBounds_toArray, List.set_cons_zero, List.set_cons_succ])))
            | ((refine wpAnyH_ready (rs := [24]) (by decide +kernel) (by simp) (AllReadyH.cons rfl (fun K hK => ?_) AllReadyH.nil)) <;> ((first | (first | (refine step_append_lies _ (by rfl) _ _ _ (by rfl) G.heap.size 82 i0 _ 3 24 Tryd.underlying44 hinf hz0 hz1' hz2 rfl (by decide) _ np2 (sideP X Z H sd i ++ rowP X Z H sd i k) (by rfl) ((HK.out.own.alloc _).drew) ⟨wr.heap.size, 0, none⟩ 1 1 [.int .i64 xi, .int .i64 y, .int .i64 zk] (by rfl) (by rfl) (World.news_of_block (cs := #[.int .i64 xi, .int .i64 y, .int .i64 zk]) (t := 82) (fr := (0, 0)) (heap_alloc_new wr _)) (by simp [Value.oneCell']) (by omega) HN.out hb24 (by simp; omega) (wr.heap.size + 1) (by simp) ?_; intro g cap v1 hown1 hgrow hat hltg; have HP := Lib.hid (HK.out.pushD hown1 hgrow); have hbel1 := HP.out.below)) | (go_simp; (first | (refine step_append_lies _ (by rfl) _ _ _ (by rfl) G.heap.size 82 i0 _ 3 24 Tryd.underlying44 hinf hz0 hz1' hz2 rfl (by decide) _ np2 (sideP X Z H sd i ++ rowP X Z H sd i k) (by rfl) ((HK.out.own.alloc _).drew) ⟨wr.heap.size, 0, none⟩ 1 1 [.int .i64 xi, .int .i64 y, .int .i64 zk] (by rfl) (by rfl) (World.news_of_block (cs := #[.int .i64 xi, .int .i64 y, .int .i64 zk]) (t := 82) (fr := (0, 0)) (heap_alloc_new wr _)) (by simp [Value.oneCell']) (by omega) HN.out hb24 (by simp; omega) (wr.heap.size + 1) (by simp) ?_; intro g cap v1 hown1 hgrow hat hltg; have HP := Lib.hid (HK.out.pushD hown1 hgrow); have hbel1 := HP.out.below) | skip))); (refine hK.out _ _ ?_ (fun hNew => ?_)); (focus (refine hS.out _ ?_; (repeat (first | (with_reducible assumption) | (with_reducible refine Below.drew ?_) | ((with_reducible refine below_alloc' ?_ ?_ _); (focus (first | omega | (simp; omega)))))))); clear hHeld hK K; have hHeld := hNew; clear hNew; (try simp only [List.getElem_toArray, List.getElem_cons_succ, List.getElem_cons_zero, Act.put, List.setIfInBounds_toArray, List.set_cons_zero, List.set_cons_succ])))
            | ((refine wpAnyH_ready (rs := [22, 23]) (by decide +kernel) (by simp) (AllReadyH.cons rfl (fun K hK => ?_) (AllReadyH.cons rfl (fun K hK => ?_) AllReadyH.nil))) <;> ((first | (first | (refine step_append_lies _ (by rfl) _ _ _ (by rfl) G.heap.size 82 i0 _ 3 24 Tryd.underlying44 hinf hz0 hz1' hz2 rfl (by decide) _ np2 (sideP X Z H sd i ++ rowP X Z H sd i k) (by rfl) ((HK.out.own.alloc _).drew) ⟨wr.heap.size, 0, none⟩ 1 1 [.int .i64 xi, .int .i64 y, .int .i64 zk] (by rfl) (by rfl) (World.news_of_block (cs := #[.int .i64 xi, .int .i64 y, .int .i64 zk]) (t := 82) (fr := (0, 0)) (heap_alloc_new wr _)) (by simp [Value.oneCell']) (by omega) HN.out hb24 (by simp; omega) (wr.heap.size + 1) (by simp) ?_; intro g cap v1 hown1 hgrow hat hltg; have HP := Lib.hid (HK.out.pushD hown1 hgrow); have hbel1 := HP.out.below)) | (go_simp; (first | (refine step_append_lies _ (by rfl) _ _ _ (by rfl) G.heap.size 82 i0 _ 3 24 Tryd.underlying44 hinf hz0 hz1' hz2 rfl (by decide) _ np2 (sideP X Z H sd i ++ rowP X Z H sd i k) (by rfl) ((HK.out.own.alloc _).drew) ⟨wr.heap.size, 0, none⟩ 1 1 [.int .i64 xi, .int .i64 y, .int .i64 zk] (by rfl) (by rfl) (World.news_of_block (cs := #[.int .i64 xi, .int .i64 y, .int .i64 zk]) (t := 82) (fr := (0, 0)) (heap_alloc_new wr _)) (by simp [Value.oneCell']) (by omega) HN.out hb24 (by simp; omega) (wr.heap.size + 1) (by simp) ?_; intro g cap v1 hown1 hgrow hat hltg; have HP := Lib.hid (HK.out.pushD hown1 hgrow); have hbel1 := HP.out.below) | skip))); (refine hK.out _ _ ?_ (fun hNew => ?_)); (focus (refine hS.out _ ?_; (repeat (first | (with_reducible assumption) | (with_reducible refine Below.drew ?_) | ((with_reducible refine below_alloc' ?_ ?_ _); (focus (first | omega | (simp; omega)))))))); clear hHeld hK K; have hHeld := hNew; clear hNew; (try simp only [List.getElem_toArray, List.getElem_cons_succ, List.getElem_cons_zero, Act.put, List.setIfInBounds_toArray, List.set_cons_zero, List.set_cons_succ])))
            | ((refine wpAnyH_ready (rs := [22, 24]) (by decide +kernel) (by simp) (AllReadyH.cons rfl (fun K hK => ?_) (AllReadyH.cons rfl (fun K hK => ?_) AllReadyH.nil))) <;> ((first | (first | (refine step_append_lies _ (by rfl) _ _ _ (by rfl) G.heap.size 82 i0 _ 3 24 Tryd.underlying44 hinf hz0 hz1' hz2 rfl (by decide) _ np2 (sideP X Z H sd i ++ rowP X Z H sd i k) (by rfl) ((HK.out.own.alloc _).drew) ⟨wr.heap.size, 0, none⟩ 1 1 [.int .i64 xi, .int .i64 y, .int .i64 zk] (by rfl) (by rfl) (World.news_of_block (cs := #[.int .i64 xi, .int .i64 y, .int .i64 zk]) (t := 82) (fr := (0, 0)) (heap_alloc_new wr _)) (by simp [Value.oneCell']) (by omega) HN.out hb24 (by simp; omega) (wr.heap.size + 1) (by simp) ?_; intro g cap v1 hown1 hgrow hat hltg; have HP := Lib.hid (HK.out.pushD hown1 hgrow); have hbel1 := HP.out.below)) | (go_simp; (first | (refine step_append_lies _ (by rfl) _ _ _ (by rfl) G.heap.size 82 i0 _ 3 24 Tryd.underlying44 hinf hz0 hz1' hz2 rfl (by decide) _ np2 (sideP X Z H sd i ++ rowP X Z H sd i k) (by rfl) ((HK.out.own.alloc _).drew) ⟨wr.heap.size, 0, none⟩ 1 1 [.int .i64 xi, .int .i64 y, .int .i64 zk] (by rfl) (by rfl) (World.news_of_block (cs := #[.int .i64 xi, .int .i64 y, .int .i64 zk]) (t := 82) (fr := (0, 0)) (heap_alloc_new wr _)) (by simp [Value.oneCell']) (by omega) HN.out hb24 (by simp; omega) (wr.heap.size + 1) (by simp) ?_; intro g cap v1 hown1 hgrow hat hltg; have HP := Lib.hid (HK.out.pushD hown1 hgrow); have hbel1 := HP.out.below) | skip))); (refine hK.out _ _ ?_ (fun hNew => ?_)); (focus (refine hS.out _ ?_; (repeat (first | (with_reducible assumption) | (with_reducible refine Below.drew ?_) | ((with_reducible refine below_alloc' ?_ ?_ _); (focus (first | omega | (simp; omega)))))))); clear hHeld hK K; have hHeld := hNew; clear hNew; (try simp only [List.getElem_toArray, List.getElem_cons_succ, List.getElem_cons_zero, Act.put, List.setIfInBounds_toArray, List.set_cons_zero, List.set_cons_succ])))
            | ((refine wpAnyH_ready (rs := [23, 24]) (by decide +kernel) (by simp) (AllReadyH.cons rfl (fun K hK => ?_) (AllReadyH.cons rfl (fun K hK => ?_) AllReadyH.nil))) <;> ((first | (first | (refine step_append_lies _ (by rfl) _ _ _ (by rfl) G.heap.size 82 i0 _ 3 24 Tryd.underlying44 hinf hz0 hz1' hz2 rfl (by decide) _ np2 (sideP X Z H sd i ++ rowP X Z H sd i k) (by rfl) ((HK.out.own.alloc _).drew) ⟨wr.heap.size, 0, none⟩ 1 1 [.int .i64 xi, .int .i64 y, .int .i64 zk] (by rfl) (by rfl) (World.news_of_block (cs := #[.int .i64 xi, .int .i64 y, .int .i64 zk]) (t := 82) (fr := (0, 0)) (heap_alloc_new wr _)) (by simp [Value.oneCell']) (by omega) HN.out hb24 (by simp; omega) (wr.heap.size + 1) (by simp) ?_; intro g cap v1 hown1 hgrow hat hltg; have HP := Lib.hid (HK.out.pushD hown1 hgrow); have hbel1 := HP.out.below)) | (go_simp; (first | (refine step_append_lies _ (by rfl) _ _ _ (by rfl) G.heap.size 82 i0 _ 3 24 Tryd.underlying44 hinf hz0 hz1' hz2 rfl (by decide) _ np2 (sideP X Z H sd i ++ rowP X Z H sd i k) (by rfl) ((HK.out.own.alloc _).drew) ⟨wr.heap.size, 0, none⟩ 1 1 [.int .i64 xi, .int .i64 y, .int .i64 zk] (by rfl) (by rfl) (World.news_of_block (cs := #[.int .i64 xi, .int .i64 y, .int .i64 zk]) (t := 82) (fr := (0, 0)) (heap_alloc_new wr _)) (by simp [Value.oneCell']) (by omega) HN.out hb24 (by simp; omega) (wr.heap.size + 1) (by simp) ?_; intro g cap v1 hown1 hgrow hat hltg; have HP := Lib.hid (HK.out.pushD hown1 hgrow); have hbel1 := HP.out.below) | skip))); (refine hK.out _ _ ?_ (fun hNew => ?_)); (focus (refine hS.out _ ?_; (repeat (first | (with_reducible assumption) | (with_reducible refine Below.drew ?_) | ((with_reducible refine below_alloc' ?_ ?_ _); (focus (first | omega | (simp; omega)))))))); clear hHeld hK K; have hHeld := hNew; clear hNew; (try simp only [List.getElem_toArray, List.getElem_cons_succ, List.getElem_cons_zero, Act.put, List.setIfInBounds_toArray, List.set_cons_zero, List.set_cons_succ])))))
          all_goals (refine wpAnyH_done (by kernel_rfl) ?_ _; clear hHeld)
          all_goals go_wp2
          all_goals go_roundg (Z.length - (k + 1))
          all_goals first
            | omega
            | (refine ⟨k + 1, by omega, by omega, by go_num, .slice (some ⟨g, 0, none⟩) (np2 + 1) cap, np2 + 1, rfl, by omega, Lib.hid ?_⟩
               rw [rowP_succ]
               have e : sideP X Z H sd i ++ (rowP X Z H sd i k ++ vec3 (ix X i) (sd * ix (row H i) k) (ix Z k)) = (sideP X Z H sd i ++ rowP X Z H sd i k) ++ [.int .i64 xi, .int .i64 y, .int .i64 zk] := by
                 rw [HY.out, HW.out, HXI.out, HZK.out]
                 unfold vec3
                 simp
               rw [e]
               exact HP.out)
        · obtain rfl : k = Z.length := by omega
          have f2 := (hFm.out wr HK.out.below).1
          have f2z := (hFm.out wr HK.out.below).2
          go_wp2
          go_roundg (X.length - (i + 1))
          case rel =>
            refine ⟨i + 1, by omega, by omega, by go_num, pv2, np2, rfl, by omega, Lib.hid ?_⟩
            rw [sideP_succ]
            exact HK.out
          case measure => omega
    · obtain rfl : i = X.length := by omega
      have f1 := (hFm.out wr HI.out.below).1
      have f1z := (hFm.out wr HI.out.below).2
      have HO := Lib.hid (hOld.out wr HI.out.below)
      have HE := Lib.hid (own_mono (Nat.le_of_lt hGz0) HI.out.own)
      go_wp2
      go_returns
      exact ⟨_, _, rfl, by omega, HO.out, HE.out⟩
theorem rowP_len (X Z : List Int) (H : List (List Int)) (s : Int) (i : Nat) : ∀ k, (rowP X Z H s i k).length = 3 * k
  | 0 => by rw [rowP_zero]; rfl
  | k + 1 => by rw [rowP_succ, List.length_append, rowP_len X Z H s i k]; simp [vec3]; omega
theorem sideP_pos (X Z : List Int) (H : List (List Int)) (s : Int) (hx : 0 < X.length) (hz : 0 < Z.length) : 0 < (sideP X Z H s X.length).length := by
  obtain ⟨n, hn⟩ : ∃ n, X.length = n + 1 := ⟨X.length - 1, by omega⟩
  rw [hn, sideP_succ, List.length_append, rowP_len]; omega
theorem rowP_int (X Z : List Int) (H : List (List Int)) (s : Int) (i : Nat) : ∀ k, ∀ u ∈ rowP X Z H s i k, ∃ z, u = .int .i64 z
  | 0 => by rw [rowP_zero]; simp
  | k + 1 => by
    rw [rowP_succ]
    intro u hu
    rcases List.mem_append.1 hu with h | h
    · exact rowP_int X Z H s i k u h
    · simp [vec3] at h; rcases h with h | h | h <;> exact ⟨_, h⟩
theorem sideP_int (X Z : List Int) (H : List (List Int)) (s : Int) : ∀ i, ∀ u ∈ sideP X Z H s i, ∃ z, u = .int .i64 z
  | 0 => by rw [sideP_zero]; simp
  | i + 1 => by
    rw [sideP_succ]
    intro u hu
    rcases List.mem_append.1 hu with h | h
    · exact sideP_int X Z H s i u h
    · exact rowP_int X Z H s i _ u h
theorem own_news {w : World} {base : Nat} {e : TypeId} {size g n cap : Nat} {xs : List Value} (h : w.ownsRow base e size (.slice (some ⟨g, 0, none⟩) n cap) n xs) : ∀ j u, xs[j]? = some u → w.cell? ((⟨g, 0, none⟩ : Addr).add j) = some u := fun j u hu => by
  have hadd : (⟨g, 0, none⟩ : Addr).add j = ⟨g, j, none⟩ := by unfold Addr.add; split <;> simp_all
  have hj : j < xs.length := (List.getElem?_eq_some_iff.1 hu).1
  rw [hadd, h.cellAt j (by rw [← h.1]; exact hj), hu]
theorem own_n {w : World} {base : Nat} {e : TypeId} {size n : Nat} {v : Value} {xs : List Value} (h : w.ownsRow base e size v n xs) (hx : 0 < xs.length) : 0 < n := by
  rw [h.1] at hx
  exact Nat.pos_of_mul_pos_right hx
end Go.Proofs.YtfmmnnodihpgmaaDoor
