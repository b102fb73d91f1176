/-
  What package hull's Mesh returns, for all forms.
-/
import Derived.Test.YtfmmnnodihpgmaaDoorMeshC
namespace Go.Proofs.YtfmmnnodihpgmaaDoor
set_option linter.all false
open Go Go.RowKit Wd
set_option maxRecDepth 100000
@[irreducible] def sg (t : Nat) : Int := if t = 0 then 1 else -1
def vec3 (x y z : Int) : List Value := [.int .i64 x, .int .i64 y, .int .i64 z]
@[irreducible] def rowP (X Z : List Int) (H : List (List Int)) (s : Int) (i k : Nat) : List Value := (List.range k).flatMap fun j => vec3 (ix X i) (s * ix (row H i) j) (ix Z j)
@[irreducible] def sideP (X Z : List Int) (H : List (List Int)) (s : Int) (i : Nat) : List Value := (List.range i).flatMap fun a => rowP X Z H s a Z.length
@[irreducible] def ptsP (X Z : List Int) (H : List (List Int)) (t : Nat) : List Value := (List.range t).flatMap fun a => sideP X Z H (sg a) X.length
theorem rowP_zero (X Z : List Int) (H : List (List Int)) (s : Int) (i : Nat) : rowP X Z H s i 0 = [] := by unfold rowP; rfl
theorem rowP_succ (X Z : List Int) (H : List (List Int)) (s : Int) (i k : Nat) : rowP X Z H s i (k + 1) = rowP X Z H s i k ++ vec3 (ix X i) (s * ix (row H i) k) (ix Z k) := by unfold rowP; rw [List.range_succ, List.flatMap_append]; simp
theorem sideP_zero (X Z : List Int) (H : List (List Int)) (s : Int) : sideP X Z H s 0 = [] := by unfold sideP; rfl
theorem sideP_succ (X Z : List Int) (H : List (List Int)) (s : Int) (i : Nat) : sideP X Z H s (i + 1) = sideP X Z H s i ++ rowP X Z H s i Z.length := by unfold sideP; rw [List.range_succ, List.flatMap_append]; simp
theorem ptsP_zero (X Z : List Int) (H : List (List Int)) : ptsP X Z H 0 = [] := by unfold ptsP; rfl
theorem ptsP_succ (X Z : List Int) (H : List (List Int)) (t : Nat) : ptsP X Z H (t + 1) = ptsP X Z H t ++ sideP X Z H (sg t) X.length := by unfold ptsP; rw [List.range_succ, List.flatMap_append]; simp
theorem index_sg (t : Nat) (ht : t < 2) (w : World) : (Instr.index 80 (.agg #[.int .i64 1, .int .i64 (-1)]) (.int .i64 (t : Int))).run Tryd.prog w = .ok (.int .i64 (sg t)) w := by
  obtain rfl | rfl : t = 0 ∨ t = 1 := by omega
  · rw [show sg 0 = 1 by unfold sg; rfl]
    rfl
  · rw [show sg 1 = -1 by unfold sg; rfl]
    rfl
theorem sg_bounds (t : Nat) : -1 ≤ sg t ∧ sg t ≤ 1 := by unfold sg; split <;> omega
/-- One point more: what is kept. -/
theorem Mk.point {b0 : Nat} {w0 w w1 : World} {B n m : Nat} {pv fv : Value} {np nf np' : Nat} {ps fs ps' : List Value} {g cap : Nat} (h : Mk b0 w0 w B n m pv fv np nf ps fs) (hfv : fv.ownBlock = none)
    (hown : w1.ownsRow b0 82 3 (.slice (some ⟨g, 0, none⟩) np' cap) np' ps') (hg : w.grownBy w1 pv.ownBlock) (hat : pv.ownBlock = some g ∨ g = w.heap.size) :
    Mk b0 w0 (w1.setCell ⟨B, 2, none⟩ (.slice (some ⟨g, 0, none⟩) np' cap)) B n m (.slice (some ⟨g, 0, none⟩) np' cap) fv np' nf ps' fs := by
  have hi := h.hi
  have hblk := hg.block B hi (fun e => h.sp e.symm)
  have hgB : g ≠ B := by
    rcases hat with e | e
    · intro e2; rw [e2] at e; exact h.sp e
    · omega
  have hc1 : ∀ o, w1.cell? ⟨B, o, none⟩ = (#[.int .i64 (n : Int), .int .i64 (m : Int), pv, fv] : Array Value)[o]? := fun o => (World.cell?_of_block (a := ⟨B, o, none⟩) hblk).trans (h.cell o)
  have hf1 : ∀ o, w1.frozen? ⟨B, o, none⟩ = false := fun o => (World.frozen?_of_block (a := ⟨B, o, none⟩) hblk).trans (h.froz o)
  have hp1 : w1.ownsRow b0 84 3 fv nf fs := h.f.kept hg (Or.inl hfv)
  have hset := set_at (i := 2) (v := .slice (some ⟨g, 0, none⟩) np' cap) hc1
  refine ⟨hset, fun o => by rw [World.frozen?_setCell]; exact hf1 o, h.lo, by simpa using Nat.lt_of_lt_of_le hi hg.size, ?_, ?_, by simpa [Value.ownBlock] using hgB, h.sf, ?_, ?_⟩
  · exact own_set hown (by simpa [Value.ownBlock] using hgB) _
  · exact own_set hp1 h.sf _
  · exact Or.inr (by rw [hfv]; simp [Value.ownBlock])
  · exact (h.below.grown hg (Nat.le_trans h.lo (Nat.le_of_lt hi)) (fun k hk => (h.p.lt k hk).1)).setCell h.lo _
set_option maxHeartbeats 1000000 in
theorem Mesh_bad (ax az ah : Option Addr) (cx cz ch : Nat) (A : Nat → Option Addr) (C : Nat → Nat) (X Z : List Int) (H : List (List Int)) (hs : chk X Z H ≠ 0) (w : World) (hf : Frm w ax az ah A C X Z H) :
    Calls Tryd.prog 20 #[.agg #[.slice ax X.length cx, .slice az Z.length cz, .slice ah H.length ch]] w fun e w' => e = .returned (.tuple #[.agg #[.slice none 0 0, .slice none 0 0], .int .i64 (chk X Z H)]) ∧ Below w.heap.size w w' := by
  have K := Lib.hid (fun W hF => check_any ax az ah cx cz ch A C X Z H W hF)
  generalize chk X Z H = r at *
  have HF := Lib.hid hf
  clear hf
  go_enter Tryd.func20, Tryd.ntmps20
  go_wp2_with fail
  ((with_reducible refine (K.out _ (HF.out.later (by (repeat' (first | (with_reducible exact Below.refl _ _) | (with_reducible assumption) | (with_reducible refine below_alloc ?_ _) | (with_reducible refine Below.drew ?_) | (with_reducible refine Below.setCell ?_ ?_ _) | (with_reducible refine below_after ?_ (by assumption)) | go_size))))).mono ?_); rintro e w1 ⟨rfl, hb1⟩)
  obtain ⟨hc1, hf1⟩ := bcell hb1
  have hz1_w_0 : w.heap.size < w1.heap.size := by have h := hb1.size; (try simp at h); omega
  have hz1_w_1 : w.heap.size + 1 < w1.heap.size := by have h := hb1.size; (try simp at h); omega
  go_wp2_with ((with_reducible show bodyPost _ _ _ _ _ _); refine bodyPost_ret (by simp [results, Tryd.results20, go_sem, hc1, hf1, hz1_w_0, hz1_w_1]; try rfl) rfl ?_; exact ⟨rfl, by (repeat' (first | (with_reducible exact Below.refl _ _) | (with_reducible assumption) | (with_reducible refine below_alloc ?_ _) | (with_reducible refine Below.drew ?_) | (with_reducible refine Below.setCell ?_ ?_ _) | (with_reducible refine below_after ?_ (by assumption)) | go_size))⟩)
theorem own_mono {w : World} {base base' : Nat} {e : TypeId} {size : Nat} {v : Value} {n : Nat} {xs : List Value} (hb : base' ≤ base) (h : w.ownsRow base e size v n xs) : w.ownsRow base' e size v n xs := by
  obtain ⟨h1, h2⟩ := h
  refine ⟨h1, ?_⟩
  rcases h2 with h2 | ⟨g, cap, cur, hv, hg, r⟩
  · exact Or.inl h2
  · exact Or.inr ⟨g, cap, cur, hv, Nat.le_trans hb hg, r⟩
theorem own_slice {w : World} {base : Nat} {e : TypeId} {size : Nat} {v : Value} {n : Nat} {xs : List Value} (h : w.ownsRow base e size v n xs) : ∃ a n c, v = .slice a n c := by
  rcases h.2 with ⟨h2, _⟩ | ⟨g, cap, cur, hv, _⟩
  · exact ⟨_, _, _, h2⟩
  · exact ⟨_, _, _, hv⟩
theorem below_alloc' {B : Nat} {a w : World} (hB : B ≤ w.heap.size) (h : Below B a w) (o : Obj) : Below B a (w.alloc o) := h.alloc hB o
theorem below_set' {B : Nat} {a w : World} {p : Addr} (hp : B ≤ p.block) (h : Below B a w) (u : Value) : Below B a (w.setCell p u) := h.setCell hp u
set_option maxHeartbeats 4000000 in
/-- Mesh: the surface. -/
theorem Mesh_ok (ax az ah : Option Addr) (cx cz ch : Nat) (A : Nat → Option Addr) (C : Nat → Nat) (X Z : List Int) (H : List (List Int)) (hs : chk X Z H = 0) (w : World) (hf : Frm w ax az ah A C X Z H) :
    Calls Tryd.prog 20 #[.agg #[.slice ax X.length cx, .slice az Z.length cz, .slice ah H.length ch]] w fun e w' => ∃ pv fv np nf, e = .returned (.tuple #[.agg #[pv, fv], .int .i64 0]) ∧ Below w.heap.size w w' ∧ w'.ownsRow w.heap.size 82 3 pv np (ptsP X Z H 2) ∧ w'.ownsRow w.heap.size 84 3 fv nf (sidesF X.length Z.length (X.length - 1) ++ flatsF X.length Z.length (X.length - 1) ++ endsF X.length Z.length (Z.length - 1)) := by
  have K1 := fun W hF => check_any ax az ah cx cz ch A C X Z H W hF
  rw [hs] at K1
  have K := Lib.hid K1
  have hv := chk_fine hs
  have x2 := hv.x2
  have z2 := hv.z2
  have x24 := hv.x24
  have z16 := hv.z16
  have hl := hv.hl
  obtain ⟨bx, ox, rfl, hxi⟩ := hf.x (by omega)
  obtain ⟨bz, oz, rfl, hzi⟩ := hf.z (by omega)
  obtain ⟨bh, oh, rfl, hri⟩ := hf.h (by omega)
  have lx := hxi.lt
  have lz := hzi.lt
  have lh := hri.lt
  have HF := Lib.hid hf
  have HV := Lib.hid hv
  have HX := Lib.hid hxi
  have HZ := Lib.hid hzi
  have HR := Lib.hid hri
  have HL := Lib.hid hl
  clear K1 hs hv hf hxi hzi hri hl
  go_enter Tryd.func20, Tryd.ntmps20
  go_wp2_with fail
  ((with_reducible refine (K.out _ (HF.out.later (by (repeat' (first | (with_reducible exact Below.refl _ _) | (with_reducible assumption) | (with_reducible refine below_alloc ?_ _) | (with_reducible refine Below.drew ?_) | (with_reducible refine Below.setCell ?_ ?_ _) | (with_reducible refine below_after ?_ (by assumption)) | go_size))))).mono ?_); rintro e w1 ⟨rfl, hb1⟩)
  obtain ⟨hc1, hf1⟩ := bcell hb1
  have hz1_w_0 : w.heap.size < w1.heap.size := by have h := hb1.size; (try simp at h); omega
  have hz1_w_1 : w.heap.size + 1 < w1.heap.size := by have h := hb1.size; (try simp at h); omega
  go_upto_region 5 with (fail)
  refine wp_world (fun x => (∀ o, x.cell? ⟨w.heap.size, o, none⟩ = (#[.slice (some ⟨bx, ox, none⟩) X.length cx, .slice (some ⟨bz, oz, none⟩) Z.length cz, .slice (some ⟨bh, oh, none⟩) H.length ch] : Array Value)[o]?) ∧ (∀ o, x.cell? ⟨w.heap.size + 1, o, none⟩ = (#[.slice none 0 0, .slice none 0 0] : Array Value)[o]?) ∧ (∀ o, x.cell? ⟨w1.heap.size, o, none⟩ = (#[.int .i64 (X.length : Int), .int .i64 (Z.length : Int), .slice none 0 0, .slice none 0 0] : Array Value)[o]?) ∧ (∀ o, x.frozen? ⟨w.heap.size, o, none⟩ = false) ∧ (∀ o, x.frozen? ⟨w.heap.size + 1, o, none⟩ = false) ∧ (∀ o, x.frozen? ⟨w1.heap.size, o, none⟩ = false) ∧ w.heap.size < x.heap.size ∧ w.heap.size + 1 < x.heap.size ∧ w1.heap.size < x.heap.size ∧ Below w.heap.size w x) ⟨fun o => by simp [go_sem, hc1, hf1, hz1_w_0, hz1_w_1], fun o => by simp [go_sem, hc1, hf1, hz1_w_0, hz1_w_1], fun o => by simp [go_sem, hc1, hf1, hz1_w_0, hz1_w_1], fun o => by simp [go_sem, hc1, hf1, hz1_w_0, hz1_w_1], fun o => by simp [go_sem, hc1, hf1, hz1_w_0, hz1_w_1], fun o => by simp [go_sem, hc1, hf1, hz1_w_0, hz1_w_1], by (first | omega | (simp [go_sem, hc1, hf1, hz1_w_0, hz1_w_1]; done) | (simp [go_sem, hc1, hf1, hz1_w_0, hz1_w_1]; omega)), by (first | omega | (simp [go_sem, hc1, hf1, hz1_w_0, hz1_w_1]; done) | (simp [go_sem, hc1, hf1, hz1_w_0, hz1_w_1]; omega)), by (first | omega | (simp [go_sem, hc1, hf1, hz1_w_0, hz1_w_1]; done) | (simp [go_sem, hc1, hf1, hz1_w_0, hz1_w_1]; omega)), by (repeat' (first | (with_reducible exact Below.refl _ _) | (with_reducible assumption) | (with_reducible refine below_alloc ?_ _) | (with_reducible refine Below.drew ?_) | (with_reducible refine Below.setCell ?_ ?_ _) | (with_reducible refine below_after ?_ (by assumption)) | go_size))⟩ ?_
  rintro G ⟨hGc0, hGc1, hGc2, hGf0, hGf1, hGf2, hGz0, hGz1, hGz2, hGb⟩
  have hB : w.heap.size + 1 < w1.heap.size := by have := hb1.size; simp at this; omega
  clear hb1 hc1 hf1
  generalize w1.heap.size = B at *
  have hBG : Below B G G := Below.refl _ _
  have M0 := Lib.hid (show Mk B G G B X.length Z.length (.slice none 0 0) (.slice none 0 0) 0 0 [] [] from ⟨hGc2, hGf2, Nat.le_refl _, hGz2, World.ownsRow_nil _ _ _ _, World.ownsRow_nil _ _ _ _, by simp [Value.ownBlock], by simp [Value.ownBlock], Or.inl rfl, hBG⟩)
  have hFm := Lib.hid (show ∀ x : World, Below B G x → (∀ o, x.cell? ⟨w.heap.size, o, none⟩ = (#[.slice (some ⟨bx, ox, none⟩) X.length cx, .slice (some ⟨bz, oz, none⟩) Z.length cz, .slice (some ⟨bh, oh, none⟩) H.length ch] : Array Value)[o]?) ∧ w.heap.size < x.heap.size from fun x hb => ⟨fun o => (hb.cell (p := ⟨w.heap.size, o, none⟩) (by simp only []; omega)).trans (hGc0 o), Nat.lt_of_lt_of_le hGz0 hb.size⟩)
  have hOld := Lib.hid (show ∀ x : World, Below B G x → Below w.heap.size w x from fun x hb => hGb.trans (hb.mono (by omega)))
  clear hGc2 hGf2 hBG
  go_wp2
  go_loopg [27] 2 (fun gg v wr => ∃ t : Nat, t ≤ 2 ∧ 2 - t ≤ gg ∧ v = .int .i64 (t : Int) ∧ ∃ pv np, np ≤ 500 * t ∧ Hid (Mk B G wr B X.length Z.length pv (.slice none 0 0) np 0 (ptsP X Z H t) []))
  case atStart => exact ⟨0, by omega, by omega, rfl, _, 0, by omega, Lib.hid (by rw [ptsP_zero]; exact M0.out)⟩
  case round =>
    obtain ⟨t, ht, hgt, rfl, pv0, np0, hnp0, HM⟩ := hrel
    by_cases hlt : t < 2
    · have hix := index_sg t hlt
      have htl : (t : Int) < 2 := by omega
      have hsg := sg_bounds t
      have f0 := (hFm.out wr HM.out.below).1
      have f0z := (hFm.out wr HM.out.below).2
      generalize hsd : sg t = sd at *
      have HSD := Lib.hid hsd
      clear hsd
      go_wp2
      go_loopg [33] X.length (fun gg v wq => ∃ i : Nat, i ≤ X.length ∧ X.length - i ≤ gg ∧ v = .int .i64 (i : Int) ∧ ∃ pv np, np ≤ 500 * t + 20 * i ∧ Hid (Mk B G wq B X.length Z.length pv (.slice none 0 0) np 0 (ptsP X Z H t ++ sideP X Z H sd i) []))
      case atStart => exact ⟨0, by omega, by omega, rfl, pv0, np0, by omega, Lib.hid (by rw [sideP_zero, List.append_nil]; exact HM.out)⟩
      case round =>
        obtain ⟨i, hi, hgi, rfl, pv1, np1, hnp1, HI⟩ := hrel
        clear f0 f0z hix
        by_cases hlti : i < X.length
        · have f1 := (hFm.out wr HI.out.below).1
          have f1z := (hFm.out wr HI.out.below).2
          have hO1 := hOld.out wr HI.out.below
          have x1 := (HX.out.later hO1).cell i hlti
          have hiX : (i : Int) < (X.length : Int) := by omega
          obtain ⟨xi, hxi⟩ : ∃ xi, xi = ix X i := ⟨_, rfl⟩
          rw [← hxi] at x1
          have HXI := Lib.hid hxi
          clear hxi
          go_wp2
          go_loopg [41] Z.length (fun gg v wp => ∃ k : Nat, k ≤ Z.length ∧ Z.length - k ≤ gg ∧ v = .int .i64 (k : Int) ∧ ∃ pv np, np ≤ 500 * t + 20 * i + k ∧ Hid (Mk B G wp B X.length Z.length pv (.slice none 0 0) np 0 (ptsP X Z H t ++ (sideP X Z H sd i ++ rowP X Z H sd i k)) []))
          case atStart => exact ⟨0, by omega, by omega, rfl, pv1, np1, by omega, Lib.hid (by rw [rowP_zero, List.append_nil]; exact HI.out)⟩
          case round =>
            obtain ⟨k, hk, hgk, rfl, pv2, np2, hnp2, HK⟩ := hrel
            clear f1 f1z x1 hO1
            by_cases hltk : k < Z.length
            · have f2 := (hFm.out wr HK.out.below).1
              have f2z := (hFm.out wr HK.out.below).2
              have hO2 := hOld.out wr HK.out.below
              have z1 := (HZ.out.later hO2).cell k hltk
              have hkZ : (k : Int) < (Z.length : Int) := by omega
              have hiH : (i : Int) < (H.length : Int) := by have := HL.out; omega
              have hrl := HV.out.hr i (by have := HL.out; omega)
              have h1 := (HR.out.later hO2).cell i (by have := HL.out; omega)
              obtain ⟨rb, ro, ea, hrow⟩ := HR.out.row i (by have := HL.out; omega) (by omega)
              rw [ea, hrl] at h1
              have h2 := (hrow.later hO2).cell k (by omega)
              have lr := hrow.lt
              have hvb := HV.out.hv i (by have := HL.out; omega) k hltk
              obtain ⟨v, hv⟩ : ∃ v, v = ix (row H i) k := ⟨_, rfl⟩
              obtain ⟨zk, hzk⟩ : ∃ zk, zk = ix Z k := ⟨_, rfl⟩
              rw [← hv] at h2 hvb
              rw [← hzk] at z1
              have HW := Lib.hid hv
              have HZK := Lib.hid hzk
              obtain ⟨y, hy⟩ : ∃ y, y = sd * v := ⟨_, rfl⟩
              have hyb : -4096 ≤ sd * v ∧ sd * v ≤ 4096 := by
                rcases (by omega : sd = 1 ∨ sd = 0 ∨ sd = -1) with e | e | e <;> rw [e] <;> omega
              have r1 : IntKind.i64.wrap (sd * v) = y := by rw [hy, IntKind.wrap_i64]; omega
              have HY := Lib.hid hy
              have hcB := HK.out.cell
              have hfB := HK.out.froz
              have hzB := HK.out.hi
              have hbl := HK.out.below
              have hS := Lib.hid (show ∀ x : World, Below B G x → (∀ o, x.cell? ⟨w.heap.size, o, none⟩ = (#[.slice (some ⟨bx, ox, none⟩) X.length cx, .slice (some ⟨bz, oz, none⟩) Z.length cz, .slice (some ⟨bh, oh, none⟩) H.length ch] : Array Value)[o]?) ∧ x.cell? ⟨bh, oh + i, none⟩ = some (.slice (some ⟨rb, ro, none⟩) Z.length (C i)) ∧ x.cell? ⟨rb, ro + k, none⟩ = some (.int .i64 v) ∧ w.heap.size < x.heap.size ∧ bh < x.heap.size ∧ rb < x.heap.size from
                fun x hb => ⟨(hFm.out x hb).1, (hb.cell (p := ⟨bh, oh + i, none⟩) (by simp only []; omega)).trans ((hGb.cell (p := ⟨bh, oh + i, none⟩) lh).trans (by have := HR.out.cell i (by have := HL.out; omega); rw [ea, hrl] at this; exact this)), (hb.cell (p := ⟨rb, ro + k, none⟩) (by simp only []; omega)).trans ((hGb.cell (p := ⟨rb, ro + k, none⟩) lr).trans (by rw [hv]; exact hrow.cell k (by omega))), (hFm.out x hb).2, Nat.lt_of_lt_of_le (keep_lt hGb lh) hb.size, Nat.lt_of_lt_of_le (keep_lt hGb lr) hb.size⟩)
              obtain ⟨i0, hinf, hz0, hz1', hz2⟩ := info_parts infoV
              have hn : np2 + 1 ≤ maxLen := by unfold maxLen; omega
              have hb24 : (np2 + 1) * 24 ≤ 140737488355328 := by omega
              have HN := Lib.hid hn
              clear hv hzk hy hyb hn hrow hrl ea
              go_upto_region 14 with (fail)
              refine wp_region_held_drew (S := fun x => (∀ o, x.cell? ⟨w.heap.size, o, none⟩ = (#[.slice (some ⟨bx, ox, none⟩) X.length cx, .slice (some ⟨bz, oz, none⟩) Z.length cz, .slice (some ⟨bh, oh, none⟩) H.length ch] : Array Value)[o]?) ∧ x.cell? ⟨bh, oh + i, none⟩ = some (.slice (some ⟨rb, ro, none⟩) Z.length (C i)) ∧ x.cell? ⟨rb, ro + k, none⟩ = some (.int .i64 v) ∧ w.heap.size < x.heap.size ∧ bh < x.heap.size ∧ rb < x.heap.size) (by kernel_rfl) (by (refine hS.out _ ?_; (repeat (first | (with_reducible assumption) | (with_reducible refine Below.drew ?_) | ((with_reducible refine below_alloc' ?_ ?_ _); (focus (first | omega | (simp; omega)))) | ((with_reducible refine below_set' ?_ ?_ _); (focus (first | exact Nat.le_refl _ | (simp; done)))))))) (fun hHeld => ?_)
              iterate 25 (all_goals (first
                | ((refine wpAnyH_take (i := 0) (v := .pointer (some ⟨B, 0, none⟩)) rfl (by kernel_rfl) (by decide +kernel) (by decide +kernel) (fun _ _ _ h => h) (Or.inl ⟨rfl, fun x hx => (by ((try dsimp only at hx); go_simp))⟩) hHeld ?_); (try simp only [List.getElem_toArray, List.getElem_cons_succ, List.getElem_cons_zero, Act.put, List.setIfInBounds_toArray, List.set_cons_zero, List.set_cons_succ]))
                | ((refine wpAnyH_take (i := 1) (v := .pointer (some ⟨B, 0, none⟩)) rfl (by kernel_rfl) (by decide +kernel) (by decide +kernel) (fun _ _ _ h => h) (Or.inl ⟨rfl, fun x hx => (by ((try dsimp only at hx); go_simp))⟩) hHeld ?_); (try simp only [List.getElem_toArray, List.getElem_cons_succ, List.getElem_cons_zero, Act.put, List.setIfInBounds_toArray, List.set_cons_zero, List.set_cons_succ]))
                | ((refine wpAnyH_take (i := 2) (v := .pointer (some ⟨B, 0, none⟩)) rfl (by kernel_rfl) (by decide +kernel) (by decide +kernel) (fun _ _ _ h => h) (Or.inl ⟨rfl, fun x hx => (by ((try dsimp only at hx); go_simp))⟩) hHeld ?_); (try simp only [List.getElem_toArray, List.getElem_cons_succ, List.getElem_cons_zero, Act.put, List.setIfInBounds_toArray, List.set_cons_zero, List.set_cons_succ]))
                | ((refine wpAnyH_take (i := 3) (v := .pointer (some ⟨B, 2, none⟩)) rfl (by kernel_rfl) (by decide +kernel) (by decide +kernel) (fun _ _ _ h => h) (Or.inl ⟨rfl, fun x hx => (by ((try dsimp only at hx); go_simp))⟩) hHeld ?_); (try simp only [List.getElem_toArray, List.getElem_cons_succ, List.getElem_cons_zero, Act.put, List.setIfInBounds_toArray, List.set_cons_zero, List.set_cons_succ]))
                | ((refine wpAnyH_take (i := 4) (v := .pointer (some ⟨B, 2, none⟩)) rfl (by kernel_rfl) (by decide +kernel) (by decide +kernel) (fun _ _ _ h => h) (Or.inl ⟨rfl, fun x hx => (by ((try dsimp only at hx); go_simp))⟩) hHeld ?_); (try simp only [List.getElem_toArray, List.getElem_cons_succ, List.getElem_cons_zero, Act.put, List.setIfInBounds_toArray, List.set_cons_zero, List.set_cons_succ]))
                | ((refine wpAnyH_take (i := 6) (v := .int .i64 xi) rfl (by kernel_rfl) (by decide +kernel) (by decide +kernel) (fun _ _ _ h => h) (Or.inl ⟨rfl, fun x hx => (by ((try dsimp only at hx); go_simp))⟩) hHeld ?_); (try simp only [List.getElem_toArray, List.getElem_cons_succ, List.getElem_cons_zero, Act.put, List.setIfInBounds_toArray, List.set_cons_zero, List.set_cons_succ]))
                | ((refine wpAnyH_take (i := 7) (v := .int .i64 sd) rfl (by kernel_rfl) (by decide +kernel) (by decide +kernel) (fun _ _ _ h => h) (Or.inl ⟨rfl, fun x hx => (by ((try dsimp only at hx); go_simp))⟩) hHeld ?_); (try simp only [List.getElem_toArray, List.getElem_cons_succ, List.getElem_cons_zero, Act.put, List.setIfInBounds_toArray, List.set_cons_zero, List.set_cons_succ]))
                | ((refine wpAnyH_take (i := 8) (v := .pointer (some ⟨w.heap.size, 2, none⟩)) rfl (by kernel_rfl) (by decide +kernel) (by decide +kernel) (fun _ _ _ h => h) (Or.inl ⟨rfl, fun x hx => (by ((try dsimp only at hx); go_simp))⟩) hHeld ?_); (try simp only [List.getElem_toArray, List.getElem_cons_succ, List.getElem_cons_zero, Act.put, List.setIfInBounds_toArray, List.set_cons_zero, List.set_cons_succ]))
                | ((refine wpAnyH_take (i := 9) (v := .slice (some ⟨bh, oh, none⟩) H.length ch) rfl (by kernel_rfl) (by decide +kernel) (by decide +kernel) (fun _ _ _ h => h) (Or.inl ⟨rfl, fun x hx => (by ((try dsimp only at hx); go_simp))⟩) hHeld ?_); (try simp only [List.getElem_toArray, List.getElem_cons_succ, List.getElem_cons_zero, Act.put, List.setIfInBounds_toArray, List.set_cons_zero, List.set_cons_succ]))
                | ((refine wpAnyH_take (i := 10) (v := .int .i64 (i : Int)) rfl (by kernel_rfl) (by decide +kernel) (by decide +kernel) (fun _ _ _ h => h) (Or.inl ⟨rfl, fun x hx => (by ((try dsimp only at hx); go_simp))⟩) hHeld ?_); (try simp only [List.getElem_toArray, List.getElem_cons_succ, List.getElem_cons_zero, Act.put, List.setIfInBounds_toArray, List.set_cons_zero, List.set_cons_succ]))
                | ((refine wpAnyH_take (i := 11) (v := .pointer (some ⟨bh, oh + i, none⟩)) rfl (by kernel_rfl) (by decide +kernel) (by decide +kernel) (fun _ _ _ h => h) (Or.inl ⟨rfl, fun x hx => (by ((try dsimp only at hx); go_simp))⟩) hHeld ?_); (try simp only [List.getElem_toArray, List.getElem_cons_succ, List.getElem_cons_zero, Act.put, List.setIfInBounds_toArray, List.set_cons_zero, List.set_cons_succ]))
                | ((refine wpAnyH_take (i := 12) (v := .slice (some ⟨rb, ro, none⟩) Z.length (C i)) rfl (by kernel_rfl) (by decide +kernel) (by decide +kernel) (fun _ _ _ h => h) (Or.inl ⟨rfl, fun x hx => (by ((try dsimp only at hx); go_simp))⟩) hHeld ?_); (try simp only [List.getElem_toArray, List.getElem_cons_succ, List.getElem_cons_zero, Act.put, List.setIfInBounds_toArray, List.set_cons_zero, List.set_cons_succ]))
                | ((refine wpAnyH_take (i := 13) (v := .int .i64 (k : Int)) rfl (by kernel_rfl) (by decide +kernel) (by decide +kernel) (fun _ _ _ h => h) (Or.inl ⟨rfl, fun x hx => (by ((try dsimp only at hx); go_simp))⟩) hHeld ?_); (try simp only [List.getElem_toArray, List.getElem_cons_succ, List.getElem_cons_zero, Act.put, List.setIfInBounds_toArray, List.set_cons_zero, List.set_cons_succ]))
                | ((refine wpAnyH_take (i := 14) (v := .pointer (some ⟨rb, ro + k, none⟩)) rfl (by kernel_rfl) (by decide +kernel) (by decide +kernel) (fun _ _ _ h => h) (Or.inl ⟨rfl, fun x hx => (by ((try dsimp only at hx); go_simp))⟩) hHeld ?_); (try simp only [List.getElem_toArray, List.getElem_cons_succ, List.getElem_cons_zero, Act.put, List.setIfInBounds_toArray, List.set_cons_zero, List.set_cons_succ]))
                | ((refine wpAnyH_take (i := 15) (v := .int .i64 v) rfl (by kernel_rfl) (by decide +kernel) (by decide +kernel) (fun _ _ _ h => h) (Or.inl ⟨rfl, fun x hx => (by ((try dsimp only at hx); go_simp))⟩) hHeld ?_); (try simp only [List.getElem_toArray, List.getElem_cons_succ, List.getElem_cons_zero, Act.put, List.setIfInBounds_toArray, List.set_cons_zero, List.set_cons_succ]))
                | ((refine wpAnyH_take (i := 16) (v := .int .i64 y) rfl (by kernel_rfl) (by decide +kernel) (by decide +kernel) (fun _ _ _ h => h) (Or.inl ⟨rfl, fun x hx => (by ((try dsimp only at hx); go_simp))⟩) hHeld ?_); (try simp only [List.getElem_toArray, List.getElem_cons_succ, List.getElem_cons_zero, Act.put, List.setIfInBounds_toArray, List.set_cons_zero, List.set_cons_succ]))
                | ((refine wpAnyH_take (i := 17) (v := .int .i64 zk) rfl (by kernel_rfl) (by decide +kernel) (by decide +kernel) (fun _ _ _ h => h) (Or.inl ⟨rfl, fun x hx => (by ((try dsimp only at hx); go_simp))⟩) hHeld ?_); (try simp only [List.getElem_toArray, List.getElem_cons_succ, List.getElem_cons_zero, Act.put, List.setIfInBounds_toArray, List.set_cons_zero, List.set_cons_succ]))
                | ((refine wpAnyH_take (i := 18) (v := .agg (#[.int .i64 xi, .int .i64 y, .int .i64 zk] : Array Value)) rfl (by kernel_rfl) (by decide +kernel) (by decide +kernel) (fun _ _ _ h => h) (Or.inl ⟨rfl, fun x hx => (by ((try dsimp only at hx); go_simp))⟩) hHeld ?_); (try simp only [List.getElem_toArray, List.getElem_cons_succ, List.getElem_cons_zero, Act.put, List.setIfInBounds_toArray, List.set_cons_zero, List.set_cons_succ]))
                | ((refine wpAnyH_take (i := 21) (v := .pointer (some ⟨B, 0, none⟩)) rfl (by kernel_rfl) (by decide +kernel) (by decide +kernel) (fun _ _ _ h => h) (Or.inl ⟨rfl, fun x hx => (by ((try dsimp only at hx); go_simp))⟩) hHeld ?_); (try simp only [List.getElem_toArray, List.getElem_cons_succ, List.getElem_cons_zero, Act.put, List.setIfInBounds_toArray, List.set_cons_zero, List.set_cons_succ]))
                | ((refine wpAnyH_take (i := 22) (v := .pointer (some ⟨B, 2, none⟩)) rfl (by kernel_rfl) (by decide +kernel) (by decide +kernel) (fun _ _ _ h => h) (Or.inl ⟨rfl, fun x hx => (by ((try dsimp only at hx); go_simp))⟩) hHeld ?_); (try simp only [List.getElem_toArray, List.getElem_cons_succ, List.getElem_cons_zero, Act.put, List.setIfInBounds_toArray, List.set_cons_zero, List.set_cons_succ]))
                | ((refine wpAnyH_take (i := 23) (v := .pointer (some ⟨B, 2, none⟩)) rfl (by kernel_rfl) (by decide +kernel) (by decide +kernel) (fun _ _ _ h => h) (Or.inl ⟨rfl, fun x hx => (by ((try dsimp only at hx); go_simp))⟩) hHeld ?_); (try simp only [List.getElem_toArray, List.getElem_cons_succ, List.getElem_cons_zero, Act.put, List.setIfInBounds_toArray, List.set_cons_zero, List.set_cons_succ]))
                | ((refine wpAnyH_ready (rs := [5]) (by decide +kernel) (by simp) (AllReadyH.cons rfl (fun K hK => ?_) AllReadyH.nil)) <;> ((first | (first | (refine step_append_lies _ (by rfl) _ _ _ (by rfl) B 82 i0 _ 3 24 Tryd.underlying44 hinf hz0 hz1' hz2 rfl (by decide) pv2 np2 (ptsP X Z H t ++ (sideP X Z H sd i ++ rowP X Z H sd i k)) (by rfl) ((HK.out.p.alloc _).drew) ⟨wr.heap.size, 0, none⟩ 1 1 [.int .i64 xi, .int .i64 y, .int .i64 zk] (by rfl) (by rfl) (World.news_of_block (cs := #[.int .i64 xi, .int .i64 y, .int .i64 zk]) (t := 82) (fr := (0, 0)) (heap_alloc_new wr _)) (by simp [Value.oneCell']) (by omega) HN.out hb24 (by simp; omega) (wr.heap.size + 1) (by simp) ?_; intro g cap v1 hown1 hgrow hat hltg; have HP := Lib.hid ((HK.out.alloc _).drew.point rfl hown1 hgrow (by simpa using hat)); have hbel1 : Below B G v1 := ((HK.out.alloc _).drew.below).grown hgrow (by simp; omega) (fun q hq => (HK.out.p.lt q hq).1); have hblk := hgrow.block B (by simp; omega) (fun e => HK.out.sp e.symm); have hcB1 : ∀ o, v1.cell? ⟨B, o, none⟩ = _ := fun o => (World.cell?_of_block (a := ⟨B, o, none⟩) hblk).trans ((HK.out.alloc _).drew.cell o); have hfB1 : ∀ o, v1.frozen? ⟨B, o, none⟩ = false := fun o => (World.frozen?_of_block (a := ⟨B, o, none⟩) hblk).trans ((HK.out.alloc _).drew.froz o); have hzB1 : B < v1.heap.size := Nat.lt_of_lt_of_le (by simp; omega) hgrow.size)) | go_simp); (refine hK.out _ _ ?_ (fun hNew => ?_)); (focus (refine hS.out _ ?_; (repeat (first | (with_reducible assumption) | (with_reducible refine Below.drew ?_) | ((with_reducible refine below_alloc' ?_ ?_ _); (focus (first | omega | (simp; omega)))) | ((with_reducible refine below_set' ?_ ?_ _); (focus (first | exact Nat.le_refl _ | (simp; done)))))))); clear hHeld hK K; have hHeld := hNew; clear hNew; (try simp only [List.getElem_toArray, List.getElem_cons_succ, List.getElem_cons_zero, Act.put, List.setIfInBounds_toArray, List.set_cons_zero, List.set_cons_succ])))
                | ((refine wpAnyH_ready (rs := [19]) (by decide +kernel) (by simp) (AllReadyH.cons rfl (fun K hK => ?_) AllReadyH.nil)) <;> ((first | (first | (refine step_append_lies _ (by rfl) _ _ _ (by rfl) B 82 i0 _ 3 24 Tryd.underlying44 hinf hz0 hz1' hz2 rfl (by decide) pv2 np2 (ptsP X Z H t ++ (sideP X Z H sd i ++ rowP X Z H sd i k)) (by rfl) ((HK.out.p.alloc _).drew) ⟨wr.heap.size, 0, none⟩ 1 1 [.int .i64 xi, .int .i64 y, .int .i64 zk] (by rfl) (by rfl) (World.news_of_block (cs := #[.int .i64 xi, .int .i64 y, .int .i64 zk]) (t := 82) (fr := (0, 0)) (heap_alloc_new wr _)) (by simp [Value.oneCell']) (by omega) HN.out hb24 (by simp; omega) (wr.heap.size + 1) (by simp) ?_; intro g cap v1 hown1 hgrow hat hltg; have HP := Lib.hid ((HK.out.alloc _).drew.point rfl hown1 hgrow (by simpa using hat)); have hbel1 : Below B G v1 := ((HK.out.alloc _).drew.below).grown hgrow (by simp; omega) (fun q hq => (HK.out.p.lt q hq).1); have hblk := hgrow.block B (by simp; omega) (fun e => HK.out.sp e.symm); have hcB1 : ∀ o, v1.cell? ⟨B, o, none⟩ = _ := fun o => (World.cell?_of_block (a := ⟨B, o, none⟩) hblk).trans ((HK.out.alloc _).drew.cell o); have hfB1 : ∀ o, v1.frozen? ⟨B, o, none⟩ = false := fun o => (World.frozen?_of_block (a := ⟨B, o, none⟩) hblk).trans ((HK.out.alloc _).drew.froz o); have hzB1 : B < v1.heap.size := Nat.lt_of_lt_of_le (by simp; omega) hgrow.size)) | go_simp); (refine hK.out _ _ ?_ (fun hNew => ?_)); (focus (refine hS.out _ ?_; (repeat (first | (with_reducible assumption) | (with_reducible refine Below.drew ?_) | ((with_reducible refine below_alloc' ?_ ?_ _); (focus (first | omega | (simp; omega)))) | ((with_reducible refine below_set' ?_ ?_ _); (focus (first | exact Nat.le_refl _ | (simp; done)))))))); clear hHeld hK K; have hHeld := hNew; clear hNew; (try simp only [List.getElem_toArray, List.getElem_cons_succ, List.getElem_cons_zero, Act.put, List.setIfInBounds_toArray, List.set_cons_zero, List.set_cons_succ])))
                | ((refine wpAnyH_ready (rs := [20]) (by decide +kernel) (by simp) (AllReadyH.cons rfl (fun K hK => ?_) AllReadyH.nil)) <;> ((first | (first | (refine step_append_lies _ (by rfl) _ _ _ (by rfl) B 82 i0 _ 3 24 Tryd.underlying44 hinf hz0 hz1' hz2 rfl (by decide) pv2 np2 (ptsP X Z H t ++ (sideP X Z H sd i ++ rowP X Z H sd i k)) (by rfl) ((HK.out.p.alloc _).drew) ⟨wr.heap.size, 0, none⟩ 1 1 [.int .i64 xi, .int .i64 y, .int .i64 zk] (by rfl) (by rfl) (World.news_of_block (cs := #[.int .i64 xi, .int .i64 y, .int .i64 zk]) (t := 82) (fr := (0, 0)) (heap_alloc_new wr _)) (by simp [Value.oneCell']) (by omega) HN.out hb24 (by simp; omega) (wr.heap.size + 1) (by simp) ?_; intro g cap v1 hown1 hgrow hat hltg; have HP := Lib.hid ((HK.out.alloc _).drew.point rfl hown1 hgrow (by simpa using hat)); have hbel1 : Below B G v1 := ((HK.out.alloc _).drew.below).grown hgrow (by simp; omega) (fun q hq => (HK.out.p.lt q hq).1); have hblk := hgrow.block B (by simp; omega) (fun e => HK.out.sp e.symm); have hcB1 : ∀ o, v1.cell? ⟨B, o, none⟩ = _ := fun o => (World.cell?_of_block (a := ⟨B, o, none⟩) hblk).trans ((HK.out.alloc _).drew.cell o); have hfB1 : ∀ o, v1.frozen? ⟨B, o, none⟩ = false := fun o => (World.frozen?_of_block (a := ⟨B, o, none⟩) hblk).trans ((HK.out.alloc _).drew.froz o); have hzB1 : B < v1.heap.size := Nat.lt_of_lt_of_le (by simp; omega) hgrow.size)) | go_simp); (refine hK.out _ _ ?_ (fun hNew => ?_)); (focus (refine hS.out _ ?_; (repeat (first | (with_reducible assumption) | (with_reducible refine Below.drew ?_) | ((with_reducible refine below_alloc' ?_ ?_ _); (focus (first | omega | (simp; omega)))) | ((with_reducible refine below_set' ?_ ?_ _); (focus (first | exact Nat.le_refl _ | (simp; done)))))))); clear hHeld hK K; have hHeld := hNew; clear hNew; (try simp only [List.getElem_toArray, List.getElem_cons_succ, List.getElem_cons_zero, Act.put, List.setIfInBounds_toArray, List.set_cons_zero, List.set_cons_succ])))
                | ((refine wpAnyH_ready (rs := [24]) (by decide +kernel) (by simp) (AllReadyH.cons rfl (fun K hK => ?_) AllReadyH.nil)) <;> ((first | (first | (refine step_append_lies _ (by rfl) _ _ _ (by rfl) B 82 i0 _ 3 24 Tryd.underlying44 hinf hz0 hz1' hz2 rfl (by decide) pv2 np2 (ptsP X Z H t ++ (sideP X Z H sd i ++ rowP X Z H sd i k)) (by rfl) ((HK.out.p.alloc _).drew) ⟨wr.heap.size, 0, none⟩ 1 1 [.int .i64 xi, .int .i64 y, .int .i64 zk] (by rfl) (by rfl) (World.news_of_block (cs := #[.int .i64 xi, .int .i64 y, .int .i64 zk]) (t := 82) (fr := (0, 0)) (heap_alloc_new wr _)) (by simp [Value.oneCell']) (by omega) HN.out hb24 (by simp; omega) (wr.heap.size + 1) (by simp) ?_; intro g cap v1 hown1 hgrow hat hltg; have HP := Lib.hid ((HK.out.alloc _).drew.point rfl hown1 hgrow (by simpa using hat)); have hbel1 : Below B G v1 := ((HK.out.alloc _).drew.below).grown hgrow (by simp; omega) (fun q hq => (HK.out.p.lt q hq).1); have hblk := hgrow.block B (by simp; omega) (fun e => HK.out.sp e.symm); have hcB1 : ∀ o, v1.cell? ⟨B, o, none⟩ = _ := fun o => (World.cell?_of_block (a := ⟨B, o, none⟩) hblk).trans ((HK.out.alloc _).drew.cell o); have hfB1 : ∀ o, v1.frozen? ⟨B, o, none⟩ = false := fun o => (World.frozen?_of_block (a := ⟨B, o, none⟩) hblk).trans ((HK.out.alloc _).drew.froz o); have hzB1 : B < v1.heap.size := Nat.lt_of_lt_of_le (by simp; omega) hgrow.size)) | go_simp); (refine hK.out _ _ ?_ (fun hNew => ?_)); (focus (refine hS.out _ ?_; (repeat (first | (with_reducible assumption) | (with_reducible refine Below.drew ?_) | ((with_reducible refine below_alloc' ?_ ?_ _); (focus (first | omega | (simp; omega)))) | ((with_reducible refine below_set' ?_ ?_ _); (focus (first | exact Nat.le_refl _ | (simp; done)))))))); clear hHeld hK K; have hHeld := hNew; clear hNew; (try simp only [List.getElem_toArray, List.getElem_cons_succ, List.getElem_cons_zero, Act.put, List.setIfInBounds_toArray, List.set_cons_zero, List.set_cons_succ])))
                | ((refine wpAnyH_ready (rs := [5, 19]) (by decide +kernel) (by simp) (AllReadyH.cons rfl (fun K hK => ?_) (AllReadyH.cons rfl (fun K hK => ?_) AllReadyH.nil))) <;> ((first | (first | (refine step_append_lies _ (by rfl) _ _ _ (by rfl) B 82 i0 _ 3 24 Tryd.underlying44 hinf hz0 hz1' hz2 rfl (by decide) pv2 np2 (ptsP X Z H t ++ (sideP X Z H sd i ++ rowP X Z H sd i k)) (by rfl) ((HK.out.p.alloc _).drew) ⟨wr.heap.size, 0, none⟩ 1 1 [.int .i64 xi, .int .i64 y, .int .i64 zk] (by rfl) (by rfl) (World.news_of_block (cs := #[.int .i64 xi, .int .i64 y, .int .i64 zk]) (t := 82) (fr := (0, 0)) (heap_alloc_new wr _)) (by simp [Value.oneCell']) (by omega) HN.out hb24 (by simp; omega) (wr.heap.size + 1) (by simp) ?_; intro g cap v1 hown1 hgrow hat hltg; have HP := Lib.hid ((HK.out.alloc _).drew.point rfl hown1 hgrow (by simpa using hat)); have hbel1 : Below B G v1 := ((HK.out.alloc _).drew.below).grown hgrow (by simp; omega) (fun q hq => (HK.out.p.lt q hq).1); have hblk := hgrow.block B (by simp; omega) (fun e => HK.out.sp e.symm); have hcB1 : ∀ o, v1.cell? ⟨B, o, none⟩ = _ := fun o => (World.cell?_of_block (a := ⟨B, o, none⟩) hblk).trans ((HK.out.alloc _).drew.cell o); have hfB1 : ∀ o, v1.frozen? ⟨B, o, none⟩ = false := fun o => (World.frozen?_of_block (a := ⟨B, o, none⟩) hblk).trans ((HK.out.alloc _).drew.froz o); have hzB1 : B < v1.heap.size := Nat.lt_of_lt_of_le (by simp; omega) hgrow.size)) | go_simp); (refine hK.out _ _ ?_ (fun hNew => ?_)); (focus (refine hS.out _ ?_; (repeat (first | (with_reducible assumption) | (with_reducible refine Below.drew ?_) | ((with_reducible refine below_alloc' ?_ ?_ _); (focus (first | omega | (simp; omega)))) | ((with_reducible refine below_set' ?_ ?_ _); (focus (first | exact Nat.le_refl _ | (simp; done)))))))); clear hHeld hK K; have hHeld := hNew; clear hNew; (try simp only [List.getElem_toArray, List.getElem_cons_succ, List.getElem_cons_zero, Act.put, List.setIfInBounds_toArray, List.set_cons_zero, List.set_cons_succ])))
                | ((refine wpAnyH_ready (rs := [5, 20]) (by decide +kernel) (by simp) (AllReadyH.cons rfl (fun K hK => ?_) (AllReadyH.cons rfl (fun K hK => ?_) AllReadyH.nil))) <;> ((first | (first | (refine step_append_lies _ (by rfl) _ _ _ (by rfl) B 82 i0 _ 3 24 Tryd.underlying44 hinf hz0 hz1' hz2 rfl (by decide) pv2 np2 (ptsP X Z H t ++ (sideP X Z H sd i ++ rowP X Z H sd i k)) (by rfl) ((HK.out.p.alloc _).drew) ⟨wr.heap.size, 0, none⟩ 1 1 [.int .i64 xi, .int .i64 y, .int .i64 zk] (by rfl) (by rfl) (World.news_of_block (cs := #[.int .i64 xi, .int .i64 y, .int .i64 zk]) (t := 82) (fr := (0, 0)) (heap_alloc_new wr _)) (by simp [Value.oneCell']) (by omega) HN.out hb24 (by simp; omega) (wr.heap.size + 1) (by simp) ?_; intro g cap v1 hown1 hgrow hat hltg; have HP := Lib.hid ((HK.out.alloc _).drew.point rfl hown1 hgrow (by simpa using hat)); have hbel1 : Below B G v1 := ((HK.out.alloc _).drew.below).grown hgrow (by simp; omega) (fun q hq => (HK.out.p.lt q hq).1); have hblk := hgrow.block B (by simp; omega) (fun e => HK.out.sp e.symm); have hcB1 : ∀ o, v1.cell? ⟨B, o, none⟩ = _ := fun o => (World.cell?_of_block (a := ⟨B, o, none⟩) hblk).trans ((HK.out.alloc _).drew.cell o); have hfB1 : ∀ o, v1.frozen? ⟨B, o, none⟩ = false := fun o => (World.frozen?_of_block (a := ⟨B, o, none⟩) hblk).trans ((HK.out.alloc _).drew.froz o); have hzB1 : B < v1.heap.size := Nat.lt_of_lt_of_le (by simp; omega) hgrow.size)) | go_simp); (refine hK.out _ _ ?_ (fun hNew => ?_)); (focus (refine hS.out _ ?_; (repeat (first | (with_reducible assumption) | (with_reducible refine Below.drew ?_) | ((with_reducible refine below_alloc' ?_ ?_ _); (focus (first | omega | (simp; omega)))) | ((with_reducible refine below_set' ?_ ?_ _); (focus (first | exact Nat.le_refl _ | (simp; done)))))))); clear hHeld hK K; have hHeld := hNew; clear hNew; (try simp only [List.getElem_toArray, List.getElem_cons_succ, List.getElem_cons_zero, Act.put, List.setIfInBounds_toArray, List.set_cons_zero, List.set_cons_succ])))
                | ((refine wpAnyH_ready (rs := [5, 24]) (by decide +kernel) (by simp) (AllReadyH.cons rfl (fun K hK => ?_) (AllReadyH.cons rfl (fun K hK => ?_) AllReadyH.nil))) <;> ((first | (first | (refine step_append_lies _ (by rfl) _ _ _ (by rfl) B 82 i0 _ 3 24 Tryd.underlying44 hinf hz0 hz1' hz2 rfl (by decide) pv2 np2 (ptsP X Z H t ++ (sideP X Z H sd i ++ rowP X Z H sd i k)) (by rfl) ((HK.out.p.alloc _).drew) ⟨wr.heap.size, 0, none⟩ 1 1 [.int .i64 xi, .int .i64 y, .int .i64 zk] (by rfl) (by rfl) (World.news_of_block (cs := #[.int .i64 xi, .int .i64 y, .int .i64 zk]) (t := 82) (fr := (0, 0)) (heap_alloc_new wr _)) (by simp [Value.oneCell']) (by omega) HN.out hb24 (by simp; omega) (wr.heap.size + 1) (by simp) ?_; intro g cap v1 hown1 hgrow hat hltg; have HP := Lib.hid ((HK.out.alloc _).drew.point rfl hown1 hgrow (by simpa using hat)); have hbel1 : Below B G v1 := ((HK.out.alloc _).drew.below).grown hgrow (by simp; omega) (fun q hq => (HK.out.p.lt q hq).1); have hblk := hgrow.block B (by simp; omega) (fun e => HK.out.sp e.symm); have hcB1 : ∀ o, v1.cell? ⟨B, o, none⟩ = _ := fun o => (World.cell?_of_block (a := ⟨B, o, none⟩) hblk).trans ((HK.out.alloc _).drew.cell o); have hfB1 : ∀ o, v1.frozen? ⟨B, o, none⟩ = false := fun o => (World.frozen?_of_block (a := ⟨B, o, none⟩) hblk).trans ((HK.out.alloc _).drew.froz o); have hzB1 : B < v1.heap.size := Nat.lt_of_lt_of_le (by simp; omega) hgrow.size)) | go_simp); (refine hK.out _ _ ?_ (fun hNew => ?_)); (focus (refine hS.out _ ?_; (repeat (first | (with_reducible assumption) | (with_reducible refine Below.drew ?_) | ((with_reducible refine below_alloc' ?_ ?_ _); (focus (first | omega | (simp; omega)))) | ((with_reducible refine below_set' ?_ ?_ _); (focus (first | exact Nat.le_refl _ | (simp; done)))))))); clear hHeld hK K; have hHeld := hNew; clear hNew; (try simp only [List.getElem_toArray, List.getElem_cons_succ, List.getElem_cons_zero, Act.put, List.setIfInBounds_toArray, List.set_cons_zero, List.set_cons_succ])))
                | ((refine wpAnyH_ready (rs := [19, 20]) (by decide +kernel) (by simp) (AllReadyH.cons rfl (fun K hK => ?_) (AllReadyH.cons rfl (fun K hK => ?_) AllReadyH.nil))) <;> ((first | (first | (refine step_append_lies _ (by rfl) _ _ _ (by rfl) B 82 i0 _ 3 24 Tryd.underlying44 hinf hz0 hz1' hz2 rfl (by decide) pv2 np2 (ptsP X Z H t ++ (sideP X Z H sd i ++ rowP X Z H sd i k)) (by rfl) ((HK.out.p.alloc _).drew) ⟨wr.heap.size, 0, none⟩ 1 1 [.int .i64 xi, .int .i64 y, .int .i64 zk] (by rfl) (by rfl) (World.news_of_block (cs := #[.int .i64 xi, .int .i64 y, .int .i64 zk]) (t := 82) (fr := (0, 0)) (heap_alloc_new wr _)) (by simp [Value.oneCell']) (by omega) HN.out hb24 (by simp; omega) (wr.heap.size + 1) (by simp) ?_; intro g cap v1 hown1 hgrow hat hltg; have HP := Lib.hid ((HK.out.alloc _).drew.point rfl hown1 hgrow (by simpa using hat)); have hbel1 : Below B G v1 := ((HK.out.alloc _).drew.below).grown hgrow (by simp; omega) (fun q hq => (HK.out.p.lt q hq).1); have hblk := hgrow.block B (by simp; omega) (fun e => HK.out.sp e.symm); have hcB1 : ∀ o, v1.cell? ⟨B, o, none⟩ = _ := fun o => (World.cell?_of_block (a := ⟨B, o, none⟩) hblk).trans ((HK.out.alloc _).drew.cell o); have hfB1 : ∀ o, v1.frozen? ⟨B, o, none⟩ = false := fun o => (World.frozen?_of_block (a := ⟨B, o, none⟩) hblk).trans ((HK.out.alloc _).drew.froz o); have hzB1 : B < v1.heap.size := Nat.lt_of_lt_of_le (by simp; omega) hgrow.size)) | go_simp); (refine hK.out _ _ ?_ (fun hNew => ?_)); (focus (refine hS.out _ ?_; (repeat (first | (with_reducible assumption) | (with_reducible refine Below.drew ?_) | ((with_reducible refine below_alloc' ?_ ?_ _); (focus (first | omega | (simp; omega)))) | ((with_reducible refine below_set' ?_ ?_ _); (focus (first | exact Nat.le_refl _ | (simp; done)))))))); clear hHeld hK K; have hHeld := hNew; clear hNew; (try simp only [List.getElem_toArray, List.getElem_cons_succ, List.getElem_cons_zero, Act.put, List.setIfInBounds_toArray, List.set_cons_zero, List.set_cons_succ])))
                | ((refine wpAnyH_ready (rs := [19, 24]) (by decide +kernel) (by simp) (AllReadyH.cons rfl (fun K hK => ?_) (AllReadyH.cons rfl (fun K hK => ?_) AllReadyH.nil))) <;> ((first | (first | (refine step_append_lies _ (by rfl) _ _ _ (by rfl) B 82 i0 _ 3 24 Tryd.underlying44 hinf hz0 hz1' hz2 rfl (by decide) pv2 np2 (ptsP X Z H t ++ (sideP X Z H sd i ++ rowP X Z H sd i k)) (by rfl) ((HK.out.p.alloc _).drew) ⟨wr.heap.size, 0, none⟩ 1 1 [.int .i64 xi, .int .i64 y, .int .i64 zk] (by rfl) (by rfl) (World.news_of_block (cs := #[.int .i64 xi, .int .i64 y, .int .i64 zk]) (t := 82) (fr := (0, 0)) (heap_alloc_new wr _)) (by simp [Value.oneCell']) (by omega) HN.out hb24 (by simp; omega) (wr.heap.size + 1) (by simp) ?_; intro g cap v1 hown1 hgrow hat hltg; have HP := Lib.hid ((HK.out.alloc _).drew.point rfl hown1 hgrow (by simpa using hat)); have hbel1 : Below B G v1 := ((HK.out.alloc _).drew.below).grown hgrow (by simp; omega) (fun q hq => (HK.out.p.lt q hq).1); have hblk := hgrow.block B (by simp; omega) (fun e => HK.out.sp e.symm); have hcB1 : ∀ o, v1.cell? ⟨B, o, none⟩ = _ := fun o => (World.cell?_of_block (a := ⟨B, o, none⟩) hblk).trans ((HK.out.alloc _).drew.cell o); have hfB1 : ∀ o, v1.frozen? ⟨B, o, none⟩ = false := fun o => (World.frozen?_of_block (a := ⟨B, o, none⟩) hblk).trans ((HK.out.alloc _).drew.froz o); have hzB1 : B < v1.heap.size := Nat.lt_of_lt_of_le (by simp; omega) hgrow.size)) | go_simp); (refine hK.out _ _ ?_ (fun hNew => ?_)); (focus (refine hS.out _ ?_; (repeat (first | (with_reducible assumption) | (with_reducible refine Below.drew ?_) | ((with_reducible refine below_alloc' ?_ ?_ _); (focus (first | omega | (simp; omega)))) | ((with_reducible refine below_set' ?_ ?_ _); (focus (first | exact Nat.le_refl _ | (simp; done)))))))); clear hHeld hK K; have hHeld := hNew; clear hNew; (try simp only [List.getElem_toArray, List.getElem_cons_succ, List.getElem_cons_zero, Act.put, List.setIfInBounds_toArray, List.set_cons_zero, List.set_cons_succ])))
                | ((refine wpAnyH_ready (rs := [20, 24]) (by decide +kernel) (by simp) (AllReadyH.cons rfl (fun K hK => ?_) (AllReadyH.cons rfl (fun K hK => ?_) AllReadyH.nil))) <;> ((first | (first | (refine step_append_lies _ (by rfl) _ _ _ (by rfl) B 82 i0 _ 3 24 Tryd.underlying44 hinf hz0 hz1' hz2 rfl (by decide) pv2 np2 (ptsP X Z H t ++ (sideP X Z H sd i ++ rowP X Z H sd i k)) (by rfl) ((HK.out.p.alloc _).drew) ⟨wr.heap.size, 0, none⟩ 1 1 [.int .i64 xi, .int .i64 y, .int .i64 zk] (by rfl) (by rfl) (World.news_of_block (cs := #[.int .i64 xi, .int .i64 y, .int .i64 zk]) (t := 82) (fr := (0, 0)) (heap_alloc_new wr _)) (by simp [Value.oneCell']) (by omega) HN.out hb24 (by simp; omega) (wr.heap.size + 1) (by simp) ?_; intro g cap v1 hown1 hgrow hat hltg; have HP := Lib.hid ((HK.out.alloc _).drew.point rfl hown1 hgrow (by simpa using hat)); have hbel1 : Below B G v1 := ((HK.out.alloc _).drew.below).grown hgrow (by simp; omega) (fun q hq => (HK.out.p.lt q hq).1); have hblk := hgrow.block B (by simp; omega) (fun e => HK.out.sp e.symm); have hcB1 : ∀ o, v1.cell? ⟨B, o, none⟩ = _ := fun o => (World.cell?_of_block (a := ⟨B, o, none⟩) hblk).trans ((HK.out.alloc _).drew.cell o); have hfB1 : ∀ o, v1.frozen? ⟨B, o, none⟩ = false := fun o => (World.frozen?_of_block (a := ⟨B, o, none⟩) hblk).trans ((HK.out.alloc _).drew.froz o); have hzB1 : B < v1.heap.size := Nat.lt_of_lt_of_le (by simp; omega) hgrow.size)) | go_simp); (refine hK.out _ _ ?_ (fun hNew => ?_)); (focus (refine hS.out _ ?_; (repeat (first | (with_reducible assumption) | (with_reducible refine Below.drew ?_) | ((with_reducible refine below_alloc' ?_ ?_ _); (focus (first | omega | (simp; omega)))) | ((with_reducible refine below_set' ?_ ?_ _); (focus (first | exact Nat.le_refl _ | (simp; done)))))))); clear hHeld hK K; have hHeld := hNew; clear hNew; (try simp only [List.getElem_toArray, List.getElem_cons_succ, List.getElem_cons_zero, Act.put, List.setIfInBounds_toArray, List.set_cons_zero, List.set_cons_succ])))))
              all_goals (refine wpAnyH_done (by kernel_rfl) ?_ _; clear hHeld)
              all_goals go_wp2
              all_goals go_roundg (Z.length - (k + 1))
              all_goals first
                | omega
                | (refine ⟨k + 1, by omega, by omega, by go_num, .slice (some ⟨g, 0, none⟩) (np2 + 1) cap, np2 + 1, by omega, Lib.hid ?_⟩
                   rw [rowP_succ]
                   have e : ptsP X Z H t ++ (sideP X Z H sd i ++ (rowP X Z H sd i k ++ vec3 (ix X i) (sd * ix (row H i) k) (ix Z k))) = (ptsP X Z H t ++ (sideP X Z H sd i ++ rowP X Z H sd i k)) ++ [.int .i64 xi, .int .i64 y, .int .i64 zk] := by
                     rw [HY.out, HW.out, HXI.out, HZK.out]
                     unfold vec3
                     simp
                   rw [e]
                   exact HP.out)
            · obtain rfl : k = Z.length := by omega
              go_wp2
              go_roundg (X.length - (i + 1))
              case rel =>
                refine ⟨i + 1, by omega, by omega, by go_num, pv2, np2, by omega, Lib.hid ?_⟩
                rw [sideP_succ]
                exact HK.out
              case measure => omega
        · obtain rfl : i = X.length := by omega
          go_wp2
          go_roundg (2 - (t + 1))
          case rel =>
            refine ⟨t + 1, by omega, by omega, by go_num, pv1, np1, by omega, Lib.hid ?_⟩
            rw [ptsP_succ, HSD.out]
            exact HI.out
          case measure => omega
    · obtain rfl : t = 2 := by omega
      go_wp2_with fail
      ((with_reducible refine (sides_any HM.out x24 z16 x2 z2 (by omega)).mono ?_); rintro e w2 ⟨rfl, fv2, nf2, hnf2, hM2⟩)
      have HM2 := Lib.hid hM2
      clear hM2 HM
      go_wp2_with fail
      ((with_reducible refine (flats_any HM2.out x24 z16 x2 z2 (by omega)).mono ?_); rintro e w3 ⟨rfl, fv3, nf3, hnf3, hM3⟩)
      have HM3 := Lib.hid hM3
      clear hM3 HM2
      go_wp2_with fail
      ((with_reducible refine (ends_any HM3.out x24 z16 x2 z2 (by omega)).mono ?_); rintro e w4 ⟨rfl, fv4, nf4, hnf4, hM4⟩)
      obtain ⟨pa, pn, pc, rfl⟩ := own_slice hM4.p
      obtain ⟨fa, fn, fc, rfl⟩ := own_slice hM4.f
      have HM4 := Lib.hid hM4
      have d4 := hM4.cell
      have d4z := hM4.hi
      have e1 : ∀ o, w4.cell? ⟨w.heap.size + 1, o, none⟩ = (#[.slice none 0 0, .slice none 0 0] : Array Value)[o]? := fun o => (hM4.below.cell (p := ⟨w.heap.size + 1, o, none⟩) (by simp only []; omega)).trans (hGc1 o)
      have e2 : ∀ o, w4.frozen? ⟨w.heap.size + 1, o, none⟩ = false := fun o => (hM4.below.frozen (p := ⟨w.heap.size + 1, o, none⟩) (by simp only []; omega)).trans (hGf1 o)
      have e3 : w.heap.size + 1 < w4.heap.size := by omega
      have hW := hOld.out w4 hM4.below
      clear hM4 HM3 hGc0 hGc1 hGf0 hGf1
      have hP4 := Lib.hid (show ((w4.setCell ⟨w.heap.size + 1, 0, none⟩ (.slice pa pn pc)).setCell ⟨w.heap.size + 1, 1, none⟩ (.slice fa fn fc)).ownsRow w.heap.size 82 3 (.slice pa pn pc) np0 (ptsP X Z H 2) from own_mono (by omega) (ownsRow_setCell_below (ownsRow_setCell_below HM4.out.p (by simp only []; omega) _) (by simp only []; omega) _))
      have hF4 := Lib.hid (show ((w4.setCell ⟨w.heap.size + 1, 0, none⟩ (.slice pa pn pc)).setCell ⟨w.heap.size + 1, 1, none⟩ (.slice fa fn fc)).ownsRow w.heap.size 84 3 (.slice fa fn fc) nf4 (sidesF X.length Z.length (X.length - 1) ++ flatsF X.length Z.length (X.length - 1) ++ endsF X.length Z.length (Z.length - 1)) from by
        have h := own_mono (show w.heap.size ≤ B by omega) (ownsRow_setCell_below (a := ⟨w.heap.size + 1, 1, none⟩) (ownsRow_setCell_below (a := ⟨w.heap.size + 1, 0, none⟩) HM4.out.f (by simp only []; omega) (.slice pa pn pc)) (by simp only []; omega) (.slice fa fn fc))
        simpa using h)
      have hW5 := Lib.hid (show Below w.heap.size w ((w4.setCell ⟨w.heap.size + 1, 0, none⟩ (.slice pa pn pc)).setCell ⟨w.heap.size + 1, 1, none⟩ (.slice fa fn fc)) from (hW.setCell (by simp) _).setCell (by simp) _)
      go_wp2_with ((with_reducible show bodyPost _ _ _ _ _ _); refine bodyPost_ret (by simp [results, Tryd.results20, go_sem, d4, e1, e2, e3]; try rfl) rfl ?_; exact ⟨.slice pa pn pc, .slice fa fn fc, np0, nf4, rfl, hW5.out, hP4.out, hF4.out⟩)
end Go.Proofs.YtfmmnnodihpgmaaDoor
