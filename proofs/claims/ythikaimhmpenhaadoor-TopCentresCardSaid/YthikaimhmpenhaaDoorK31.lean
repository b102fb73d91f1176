/-
  What package hydro's corners returns between two waterlines.
  (Written by wip/pack.py out of XFHyJ.)
-/
import Derived.Test.YthikaimhmpenhaaDoorK29
import Derived.Test.YthikaimhmpenhaaDoorK30

namespace Go.Proofs.YthikaimhmpenhaaDoor
set_option linter.all false
open Go Go.RowKit Wd
set_option maxRecDepth 100000
theorem AtQ.call {bw bz bf bk bZ oZ m cz : Nat} {z z0 z1 : Int} {k : Nat} {a b : Int} {r : Fr} (h : AtQ z z0 z1 a b r) (hk : k + 1 < m) (hm : m ≤ 100) (ha : 0 ≤ a) (ha' : a ≤ 1000000) (hb : 0 ≤ b) (hb' : b ≤ 1000000) (h0 : 0 ≤ z0) (h1 : z0 ≤ z) (h2 : z ≤ z1) (h3 : z1 ≤ 1000000) : AtC bw bz bf bk bZ oZ m cz false z z0 z1 k a b r := by
  obtain ⟨o1, o2, o3, t, q1, q2, q3, q4, q5⟩ := h
  exact at_cut hk hm ha ha' hb hb' h0 h1 h2 h3 q1 q2 q3 q4 q5
set_option maxHeartbeats 8000000 in
theorem corners_cut (bX oX cX bZ oZ cZ bH oH cH : Nat) (A : Nat → Option Addr) (C : Nat → Nat) (X Z : List Int) (H : List (List Int)) (k : Nat) (z : Int) (gx gy : Nat → Fr)
    (hx1 : 1 ≤ X.length) (hx24 : X.length ≤ 24) (hk : k + 1 < Z.length) (hz16 : Z.length ≤ 16) (hlow : ∀ j, j ≤ k → ix Z j ≤ z) (hz : ix Z k < z) (hup : z < ix Z (k + 1)) (hl : H.length = X.length) (hr : ∀ i, i < H.length → (row H i).length = Z.length)
    (hz0 : 0 ≤ ix Z k) (hz1 : ix Z (k + 1) ≤ 1000000) (hX : ∀ i, i < X.length → 0 ≤ ix X i ∧ ix X i ≤ 1000000) (hHv : ∀ i, i < X.length → ∀ k, k < Z.length → 0 ≤ ix (row H i) k ∧ ix (row H i) k ≤ 1000000)
    (ox : ∀ i, i < X.length → OfC (ix X i) 1 (gx (2 * i))) (ay : ∀ i, i < X.length → AtQ z (ix Z k) (ix Z (k + 1)) (ix (row H i) k) (ix (row H i) (k + 1)) (gy (2 * i)))
    (ax : ∀ i, i + 1 < X.length → AtQ z (ix Z k) (ix Z (k + 1)) (ix X i) (ix X (i + 1)) (gx (2 * i + 1))) (ay1 : ∀ i, i + 1 < X.length → AtQ z (ix Z k) (ix Z (k + 1)) (ix (row H i) k) (ix (row H (i + 1)) (k + 1)) (gy (2 * i + 1))) (w : World) (hT : Tab64 w) (hXi : Ints w bX oX X) (hZ : Ints w bZ oZ Z) (hH : Rws w bH oH A C H) :
    Calls Tryd.prog 55 #[.agg #[.slice (some ⟨bX, oX, none⟩) X.length cX, .slice (some ⟨bZ, oZ, none⟩) Z.length cZ, .slice (some ⟨bH, oH, none⟩) H.length cH], .int .i64 z] w fun e w' =>
      ∃ b c b' c', e = .returned (.tuple #[.slice (some ⟨b, 0, none⟩) (2 * X.length - 1 : Nat) c, .slice (some ⟨b', 0, none⟩) (2 * X.length - 1 : Nat) c']) ∧ Below w.heap.size w w' ∧ Rf w' b (2 * X.length - 1) gx ∧ Rf w' b' (2 * X.length - 1) gy := by
  have HX := Lib.hid hXi
  have HZ := Lib.hid hZ
  have HH := Lib.hid hH
  have HT := Lib.hid hT
  have OX := Lib.hid ox
  have AY := Lib.hid (fun i hi bw bz bf bk => AtQ.call (bw := bw) (bz := bz) (bf := bf) (bk := bk) (bZ := bZ) (oZ := oZ) (m := Z.length) (cz := cZ) (k := k) (ay i hi) hk (by omega) (hHv i hi k (by omega)).1 (hHv i hi k (by omega)).2 (hHv i hi (k + 1) hk).1 (hHv i hi (k + 1) hk).2 hz0 (by omega) (by omega) hz1)
  have AX := Lib.hid (fun i hi bw bz bf bk => AtQ.call (bw := bw) (bz := bz) (bf := bf) (bk := bk) (bZ := bZ) (oZ := oZ) (m := Z.length) (cz := cZ) (k := k) (ax i hi) hk (by omega) (hX i (by omega)).1 (hX i (by omega)).2 (hX (i + 1) hi).1 (hX (i + 1) hi).2 hz0 (by omega) (by omega) hz1)
  have AZ := Lib.hid (fun i hi bw bz bf bk => AtQ.call (bw := bw) (bz := bz) (bf := bf) (bk := bk) (bZ := bZ) (oZ := oZ) (m := Z.length) (cz := cZ) (k := k) (ay1 i hi) hk (by omega) (hHv i (by omega) k (by omega)).1 (hHv i (by omega) k (by omega)).2 (hHv (i + 1) hi (k + 1) hk).1 (hHv (i + 1) hi (k + 1) hk).2 hz0 (by omega) (by omega) hz1)
  have HL := Lib.hid hlow
  have HUP := Lib.hid hup
  have HU := Lib.hid (fun _ : k + 1 < Z.length => hup)
  have HR := Lib.hid hr
  have HN := Lib.hid hl
  have HZZ := Lib.hid hz
  clear hup hz
  have HML := Lib.hid (show ∀ q : Nat, q ≤ 1000 → q + 1 ≤ maxLen from fun q hq => by unfold maxLen; omega)
  obtain ⟨i0, hinf, hi0, hi1, hi2⟩ := info_parts infoR
  have hkZ : (k : Int) < (Z.length : Int) := by omega
  have hz16' : (Z.length : Int) ≤ 16 := by omega
  clear hXi hZ hH hT ox ax ay ay1 hlow hr hl hX hHv hz0 hz1
  go_enter Tryd.func55, Tryd.ntmps55
  go_upto_region 2 with (fail)
  go_loopg [] (k + 1) (fun gg wr => ∃ j : Nat, j ≤ k ∧ k + 1 - j ≤ gg ∧ Hid (CrM w (.slice (some ⟨bX, oX, none⟩) X.length cX) (.slice (some ⟨bZ, oZ, none⟩) Z.length cZ) (.slice (some ⟨bH, oH, none⟩) H.length cH) z j wr))
  case atStart => exact ⟨0, by omega, by omega, Lib.hid ⟨fun o => by simp [go_sem], fun o => by simp [go_sem], fun o => by simp [go_sem], fun o => by simp [go_sem], fun o => by simp [go_sem], fun o => by simp [go_sem], by simp, by (repeat' first | (with_reducible first | exact Bq0 | assumption | refine Bq1 ?_ | refine Bq2 ?_ | refine Bq3 ?_ ?_ | refine Bq4 ?_ (by assumption)) | go_size)⟩⟩
  case round =>
    obtain ⟨j, hj, hgj, HI⟩ := hrel
    by_cases hlt : j < k
    · have hjk : (j : Int) + 1 < (Z.length : Int) := by omega
      have z1 := ((HZ.out.later HI.out.2.2.2.2.2.2.2).cell (j + 1) (by omega))
      have zb := HL.out (j + 1) (by omega)
      obtain ⟨c0, c1, c2, f0, f1, f2, q, b⟩ := HI.out
      generalize ix Z (j + 1) = zj at *
      go_upto_region 2 with (fail)
      go_quiet (fail)
      clear z1 zb
      go_wp2
      go_roundg (k + 1 - (j + 1))
      case measure => omega
      case rel =>
        exact ⟨j + 1, by omega, by omega, Lib.hid ⟨keep_cell_c (by simp only []; omega) (fun o => c0 o), keep_cell_c (by simp only []; omega) (fun o => c1 o), fun o => set_at (xs := #[.int .i64 (j : Int)]) (fun o => c2 o) o, keep_frozen_c (fun o => f0 o), keep_frozen_c (fun o => f1 o), keep_frozen_c (fun o => f2 o), by simpa using q, Below.setCell (below_drewN' b _) (by simp only []; omega) _⟩⟩
    · obtain rfl : j = k := by omega
      obtain ⟨c0, c1, c2, f0, f1, f2, q, b⟩ := HI.out
      go_upto_region 2 with (fail)
      go_cut [25] (fun v wx => v = .bool false ∧ Hid (CrM w (.slice (some ⟨bX, oX, none⟩) X.length cX) (.slice (some ⟨bZ, oZ, none⟩) Z.length cZ) (.slice (some ⟨bH, oH, none⟩) H.length cH) z j wx))
      case first =>
        by_cases hj1 : j + 1 < Z.length
        · have hjk : (j : Int) + 1 < (Z.length : Int) := by omega
          have z1 := ((HZ.out.later b).cell (j + 1) (by omega))
          have zb := HU.out hj1
          generalize ix Z (j + 1) = zj at *
          go_quiet (fail)
          go_wp2
          go_meet
          case rel => exact ⟨congrArg Value.bool (decide_eq_false (by omega)), Lib.hid (HI.out.drewN _)⟩
        · exact absurd hk hj1
      case rest =>
        obtain ⟨rfl, HJ⟩ := hcut
        clear c0 c1 c2 f0 f1 f2 q b HI
        obtain ⟨c0, c1, c2, f0, f1, f2, q, b⟩ := HJ.out
        have hjZ : (j : Int) < (Z.length : Int) := by omega
        have KA := fun (x : World) (hx : Below wc.heap.size wc x) => And.intro (HJ.out.later hx).1 (And.intro (HJ.out.later hx).2.1 (And.intro (HJ.out.later hx).2.2.1 (((HZ.out.later b).later hx).cell j (by omega))))
        have zne : ix Z j ≠ z := by have := HZZ.out; omega
        have zb0 : decide (ix Z j = z) = false := by simp [zne]
        obtain ⟨zj, hzj⟩ : ∃ zj, zj = ix Z j := ⟨_, rfl⟩
        rw [← hzj] at zne zb0
        have HZJ := Lib.hid hzj
        simp only [← hzj] at KA
        clear hzj
        go_upto_region 4 with (fail)
        refine wp_region_kn 8 [.val (.pointer (some ⟨w.heap.size, 1, none⟩)), .val (.slice (some ⟨bZ, oZ, none⟩) Z.length cZ), .val (.int .i64 (j : Int)), .val (.pointer (some ⟨bZ, oZ + j, none⟩)), .val (.int .i64 zj), .val (.int .i64 z), .val (.bool false), .new (wc.heap.size) (#[.bool false])] wc (by kernel_rfl) (by kernel_rfl) (by kernel_rfl) (by kernel_rfl) (by kernel_rfl) (by decide) (Below.refl _ _) ?_ ?_
        · refine steps_next (n := 0) ⟨_, by rfl, fun vals x hx hj => ?_⟩ ?_
          · have hk := KA x hx; clear hj; refine kn_val hx ?_; simp only [putF, dstO, Act.put]; go_simp
          refine steps_next (n := 1) ⟨_, by rfl, fun vals x hx hj => ?_⟩ ?_
          · have hk := KA x hx; have e0 : _ = _ := hj 0 (by decide +kernel); clear hj; refine kn_val hx ?_; simp only [putF, dstO, Act.put]; (try simp only [e0]); go_simp
          refine steps_next (n := 2) ⟨_, by rfl, fun vals x hx hj => ?_⟩ ?_
          · have hk := KA x hx; clear hj; refine kn_val hx ?_; simp only [putF, dstO, Act.put]; go_simp; (try first | with_reducible rfl | (intros; omega) | (simp only [IntKind.wrap_i64]; omega))
          refine steps_next (n := 3) ⟨_, by rfl, fun vals x hx hj => ?_⟩ ?_
          · have hk := KA x hx; have e1 : _ = _ := hj 1 (by decide +kernel); have e2 : _ = _ := hj 2 (by decide +kernel); clear hj; refine kn_val hx ?_; simp only [putF, dstO, Act.put]; (try simp only [e1, e2]); go_simp; (try first | with_reducible rfl | (intros; omega) | (simp only [IntKind.wrap_i64]; omega))
          refine steps_next (n := 4) ⟨_, by rfl, fun vals x hx hj => ?_⟩ ?_
          · have hk := KA x hx; have e3 : _ = _ := hj 3 (by decide +kernel); clear hj; refine kn_val hx ?_; simp only [putF, dstO, Act.put]; (try simp only [e3]); go_simp; (try first | with_reducible rfl | (intros; omega) | (simp only [IntKind.wrap_i64]; omega))
          refine steps_next (n := 5) ⟨_, by rfl, fun vals x hx hj => ?_⟩ ?_
          · have hk := KA x hx; clear hj; refine kn_val hx ?_; simp only [putF, dstO, Act.put]; go_simp; (try first | with_reducible rfl | (intros; omega) | (simp only [IntKind.wrap_i64]; omega))
          refine steps_next (n := 6) ⟨_, by rfl, fun vals x hx hj => ?_⟩ ?_
          · have hk := KA x hx; have e4 : _ = _ := hj 4 (by decide +kernel); have e5 : _ = _ := hj 5 (by decide +kernel); clear hj; refine kn_val hx ?_; simp only [putF, dstO, Act.put]; (try simp only [e4, e5]); go_simp
          refine steps_next (n := 7) ⟨_, by rfl, fun vals x hx hj => ?_⟩ ?_
          · have hk := KA x hx; clear hj; refine kn_new (T := 4) hx (hx.size) ?_; simp only [putF, dstO, Act.put]; go_simp
          exact steps_end
        intro vals wcx hwcx hv
        have hkwcx := KA wcx hwcx
        have e0 : _ = _ := hv 0 (by omega)
        have e1 : _ = _ := hv 1 (by omega)
        have e2 : _ = _ := hv 2 (by omega)
        have e3 : _ = _ := hv 3 (by omega)
        have e4 : _ = _ := hv 4 (by omega)
        have e5 : _ = _ := hv 5 (by omega)
        have e6 : _ = _ := hv 6 (by omega)
        obtain ⟨b7, e7, y7, z7, C7, F7⟩ := hv 7 (by omega)
        clear hv
        simp only [putF, dstO, Act.put]
        (try simp only [e0, e1, e2, e3, e4, e5, e6, e7])
        refine wpAny_ready (rs := [8]) (by decide +kernel) (by simp) (AllReady.cons rfl (fun KK hKK => ?_) AllReady.nil)
        go_simp
        (refine hKK _ _ ?_); clear hKK KK; (try simp only [Nq1, Nq2, Nq3, Act.put, Nq4, Nq5, Nq6])
        refine wpAny_done (by kernel_rfl) ?_ _
        have M := HJ.out.later hwcx
        clear c0 c1 c2 f0 f1 f2 b HJ KA hkwcx
        obtain ⟨c0, c1, c2, f0, f1, f2, qx, b⟩ := M
        have hws := hwcx.size
        clear hwcx
        go_upto_region 6 with (fail)
        refine wp_world (fun x => (∀ o, x.cell? ⟨w.heap.size, o, none⟩ = (#[.slice (some ⟨bX, oX, none⟩) X.length cX, .slice (some ⟨bZ, oZ, none⟩) Z.length cZ, .slice (some ⟨bH, oH, none⟩) H.length cH] : Array Value)[o]?) ∧ (∀ o, x.cell? ⟨w.heap.size + 1, o, none⟩ = (#[.int .i64 z] : Array Value)[o]?) ∧ (∀ o, x.cell? ⟨w.heap.size + 1 + 1, o, none⟩ = (#[.int .i64 (j : Int)] : Array Value)[o]?) ∧ (∀ o, x.cell? ⟨b7, o, none⟩ = (#[.bool false] : Array Value)[o]?) ∧ (∀ o, x.frozen? ⟨w.heap.size, o, none⟩ = false) ∧ (∀ o, x.frozen? ⟨w.heap.size + 1, o, none⟩ = false) ∧ (∀ o, x.frozen? ⟨w.heap.size + 1 + 1, o, none⟩ = false) ∧ (∀ o, x.frozen? ⟨b7, o, none⟩ = false) ∧ w.heap.size < x.heap.size ∧ w.heap.size + 1 < x.heap.size ∧ w.heap.size + 1 + 1 < x.heap.size ∧ b7 < x.heap.size ∧ Below w.heap.size w x) ⟨keep_cell_c (by simp only []; omega) c0, keep_cell_c (by simp only []; omega) c1, keep_cell_c (by simp only []; omega) c2, fun o => set_at (xs := #[.bool false]) C7 o, fun o => by simp [go_sem, f0, f1, f2, F7], fun o => by simp [go_sem, f0, f1, f2, F7], fun o => by simp [go_sem, f0, f1, f2, F7], fun o => by simp [go_sem, f0, f1, f2, F7], by (first | omega | (simp [go_sem, f0, f1, f2, F7]; done) | (simp [go_sem, f0, f1, f2, F7]; omega)), by (first | omega | (simp [go_sem, f0, f1, f2, F7]; done) | (simp [go_sem, f0, f1, f2, F7]; omega)), by (first | omega | (simp [go_sem, f0, f1, f2, F7]; done) | (simp [go_sem, f0, f1, f2, F7]; omega)), by (first | omega | (simp [go_sem, f0, f1, f2, F7]; done) | (simp [go_sem, f0, f1, f2, F7]; omega)), by (repeat' first | (with_reducible first | exact Bq0 | assumption | refine Bq1 ?_ | refine Bq2 ?_ | refine Bq3 ?_ ?_ | refine Bq4 ?_ (by assumption)) | go_size)⟩ ?_
        rintro G ⟨hGc0, hGc1, hGc2, hGc3, hGf0, hGf1, hGf2, hGf3, hGz0, hGz1, hGz2, hGz3, hGb⟩
        have lX := HX.out.lt
        have lH := HH.out.lt
        have hGs := hGb.size
        have HTG := Lib.hid (HT.out.later hGb)
        have HXG := Lib.hid (HX.out.later hGb)
        have HHG := Lib.hid (HH.out.later hGb)
        clear c0 c1 c2 C7 F7 f0 f1 f2 q qx b z7 y7 hws lX lH
        have HZG := Lib.hid (HZ.out.later hGb)
        have hFm := Lib.hid (show ∀ x : World, Below G.heap.size G x → (∀ o, x.cell? ⟨w.heap.size, o, none⟩ = (#[.slice (some ⟨bX, oX, none⟩) X.length cX, .slice (some ⟨bZ, oZ, none⟩) Z.length cZ, .slice (some ⟨bH, oH, none⟩) H.length cH] : Array Value)[o]?) ∧ (∀ o, x.cell? ⟨w.heap.size + 1 + 1, o, none⟩ = (#[.int .i64 (j : Int)] : Array Value)[o]?) ∧ (∀ o, x.cell? ⟨b7, o, none⟩ = (#[.bool false] : Array Value)[o]?) from fun x hb => ⟨keep_cell hb hGz0 hGc0, keep_cell hb hGz2 hGc2, keep_cell hb hGz3 hGc3⟩)
        have hCap := Lib.hid (show ∀ x : World, Below G.heap.size G x → Cap x b7 (w.heap.size + 1) w.heap.size (w.heap.size + 1 + 1) bZ oZ Z.length cZ false z (ix Z j) (ix Z (j + 1)) j from fun x hb =>
          ⟨keep_cell hb hGz3 hGc3 0, keep_cell hb hGz1 hGc1 0, keep_cell hb hGz0 hGc0 1, keep_cell hb hGz2 hGc2 0, (HZG.out.later hb).cell j (by omega), fun _ => (HZG.out.later hb).cell (j + 1) hk, keep_lt hb hGz3, keep_lt hb hGz1, keep_lt hb hGz0, keep_lt hb hGz2, (HZG.out.later hb).lt⟩)
        have D0 := Lib.hid (show Two G.heap.size G G (.slice none 0 0) (.slice none 0 0) 0 0 (rowC gx 0) (rowC gy 0) from ⟨by rw [rowC_zero]; exact World.ownsRow_nil _ _ _ _, by rw [rowC_zero]; exact World.ownsRow_nil _ _ _ _, by simp [Value.ownBlock], Below.refl _ _, Nat.le_refl _⟩)
        go_wp2
        go_loopg [4, 5, 39] X.length (fun gg xv yv v wr => ∃ i m : Nat, i ≤ X.length ∧ (i < X.length → m = 2 * i) ∧ (i = X.length → m = 2 * X.length - 1) ∧ X.length - i ≤ gg ∧ v = .int .i64 (i : Int) ∧ Hid (Two G.heap.size G wr xv yv m m (rowC gx m) (rowC gy m)))
        case atStart => exact ⟨0, 0, by omega, fun _ => rfl, fun e => by omega, by omega, rfl, D0⟩
        case round =>
          obtain ⟨i, m, hi, hm1, hm2, hgi, rfl, HT2⟩ := hrel
          clear hgj
          by_cases hlt : i < X.length
          · obtain rfl : m = 2 * i := hm1 hlt
            clear hm1 hm2
            have hiX : (i : Int) < (X.length : Int) := by omega
            have iH : i < H.length := by have := HN.out; omega
            have hiH : (i : Int) < (H.length : Int) := by omega
            have hjZ1 : (j : Int) + 1 < (Z.length : Int) := by omega
            have hbl := HT2.out.below
            have hbase := HT2.out.base
            have f0 := (hFm.out _ hbl).1
            have xc := (HXG.out.later hbl).cell i hlt
            have O1 := Lib.hid (fun w hT => OX.out i hlt w hT)
            obtain ⟨xi, hxi⟩ : ∃ xi, xi = ix X i := ⟨_, rfl⟩
            rw [← hxi] at xc
            simp only [← hxi] at O1
            have HXI := Lib.hid hxi
            clear hxi
            go_upto_region 9 with (fail)
            go_wp2_with (first | (go_at_call 37; (with_reducible refine (O1.out _ (HTG.out.later hbl)).mono ?_); rintro e o1 ⟨rfl, hbo1⟩; have HD1 := Lib.hid (HT2.out.later hbo1)) | (at_builtin; refine wpList_append_lies _ rfl _ _ 87 rfl G.heap.size 39 i0 (.agg #[.bool false, .int .u64 0, .int .u64 0, .int .u64 0, .int .u64 0, .bool false, .int .u64 0, .int .u64 0, .int .u64 0, .int .u64 0]) 10 80 Tryd.underlying87 hinf hi0 hi1 hi2 rfl (by decide) _ (2 * i) (rowC gx (2 * i)) rfl ((HD1.out.alloc _).x) ⟨o1.heap.size, 0, none⟩ 1 1 [.bool ((gx (2 * i)).s), .int .u64 ((((gx (2 * i)).a) : Nat) : Int), .int .u64 0, .int .u64 0, .int .u64 0, .bool false, .int .u64 ((((gx (2 * i)).d) : Nat) : Int), .int .u64 0, .int .u64 0, .int .u64 0] rfl rfl (World.news_of_block (cs := #[.bool ((gx (2 * i)).s), .int .u64 ((((gx (2 * i)).a) : Nat) : Int), .int .u64 0, .int .u64 0, .int .u64 0, .bool false, .int .u64 ((((gx (2 * i)).d) : Nat) : Int), .int .u64 0, .int .u64 0, .int .u64 0]) (t := 39) (fr := (0, 0)) (heap_alloc_new o1 _)) (by simp [Value.oneCell']) (by omega) (HML.out _ (by omega)) (by omega) (by have := HD1.out.base; simp; omega) _ rfl ?_))
            intro g capg v1 howng hgrowg hatg hltg
            have HD2 := Lib.hid ((HD1.out.alloc _).pushX howng hgrowg (by simpa using hatg))
            have hbl2 := HD2.out.below
            have f7 := (hFm.out _ hbl2).2.2
            go_upto_region 12 with (fail)
            clear f7
            obtain ⟨bR, oR, eA, hRow⟩ := HHG.out.row i iH (by rw [HR.out i iH]; omega)
            obtain ⟨h0, hh0⟩ : ∃ h0, h0 = ix (row H i) j := ⟨_, rfl⟩
            obtain ⟨h1, hh1⟩ : ∃ h1, h1 = ix (row H i) (j + 1) := ⟨_, rfl⟩
            have hHm := Lib.hid (show ∀ x : World, Below G.heap.size G x → x.cell? ⟨bH, oH + i, none⟩ = some (.slice (some ⟨bR, oR, none⟩) Z.length (C i)) ∧ x.cell? ⟨bR, oR + j, none⟩ = some (.int .i64 h0) ∧ x.cell? ⟨bR, oR + (j + 1), none⟩ = some (.int .i64 h1) from fun x hb => ⟨((HHG.out.later hb).cell i iH).trans (by rw [eA, HR.out i iH]), ((hRow.later hb).cell j (by rw [HR.out i iH]; omega)).trans (by rw [hh0]), ((hRow.later hb).cell (j + 1) (by rw [HR.out i iH]; omega)).trans (by rw [hh1])⟩)
            have AT := Lib.hid (AY.out i hlt b7 (w.heap.size + 1) w.heap.size (w.heap.size + 1 + 1))
            simp only [← hh0, ← hh1] at AT
            have HH0 := Lib.hid hh0
            clear hh0 hh1
            have KA := fun (x : World) (hx : Below v1.heap.size v1 x) => And.intro (hFm.out x (hbl2.trans (hx.mono hbl2.size))).1 (And.intro (hFm.out x (hbl2.trans (hx.mono hbl2.size))).2.1 (hHm.out x (hbl2.trans (hx.mono hbl2.size))))
            have TA := Lib.hid (HTG.out.later hbl2)
            have CA := Lib.hid (show ∀ x : World, Below v1.heap.size v1 x → Cap x b7 (w.heap.size + 1) w.heap.size (w.heap.size + 1 + 1) bZ oZ Z.length cZ false z (ix Z j) (ix Z (j + 1)) j from fun x hx => hCap.out x (hbl2.trans (hx.mono hbl2.size)))
            refine wp_region_kn 21 [.val (u5), .val (.func (.func 68) #[] #[.pointer (some ⟨b7, 0, none⟩), .pointer (some ⟨w.heap.size + 1, 0, none⟩), .pointer (some ⟨w.heap.size, 0, none⟩), .pointer (some ⟨w.heap.size + 1 + 1, 0, none⟩)]), .val (.pointer (some ⟨w.heap.size, 2, none⟩)), .val (.slice (some ⟨bH, oH, none⟩) H.length cH), .val (.int .i64 (i : Int)), .val (.pointer (some ⟨bH, oH + i, none⟩)), .val (.slice (some ⟨bR, oR, none⟩) Z.length (C i)), .val (.int .i64 (j : Int)), .val (.pointer (some ⟨bR, oR + j, none⟩)), .val (.int .i64 h0), .val (.pointer (some ⟨w.heap.size, 2, none⟩)), .val (.slice (some ⟨bH, oH, none⟩) H.length cH), .val (.int .i64 (i : Int)), .val (.pointer (some ⟨bH, oH + i, none⟩)), .val (.slice (some ⟨bR, oR, none⟩) Z.length (C i)), .val (.int .i64 (j : Int)), .val (.int .i64 ((j : Int) + 1)), .val (.pointer (some ⟨bR, oR + (j + 1), none⟩)), .val (.int .i64 h1), .val ((.agg #[.bool ((gy (2 * i)).s), .int .u64 ((((gy (2 * i)).a) : Nat) : Int), .int .u64 0, .int .u64 0, .int .u64 0, .bool false, .int .u64 ((((gy (2 * i)).d) : Nat) : Int), .int .u64 0, .int .u64 0, .int .u64 0])), .row (1) (pk1 (gy (2 * i)))] v1 (by kernel_rfl) (by kernel_rfl) (by kernel_rfl) (by kernel_rfl) (by kernel_rfl) (by decide) (Below.refl _ _) ?_ ?_
            · refine steps_next (n := 0) ⟨_, by rfl, fun vals x hx hj => ?_⟩ ?_
              · have hk := KA x hx; clear hj; refine kn_val hx ?_; simp only [putF, dstO, Act.put]; go_simp
              refine steps_next (n := 1) ⟨_, by rfl, fun vals x hx hj => ?_⟩ ?_
              · have hk := KA x hx; clear hj; refine kn_val hx ?_; simp only [putF, dstO, Act.put]; go_simp; (try first | with_reducible rfl | (intros; omega) | (simp only [IntKind.wrap_i64]; omega))
              refine steps_next (n := 2) ⟨_, by rfl, fun vals x hx hj => ?_⟩ ?_
              · have hk := KA x hx; clear hj; refine kn_val hx ?_; simp only [putF, dstO, Act.put]; go_simp
              refine steps_next (n := 3) ⟨_, by rfl, fun vals x hx hj => ?_⟩ ?_
              · have hk := KA x hx; have e2 : _ = _ := hj 2 (by decide +kernel); clear hj; refine kn_val hx ?_; simp only [putF, dstO, Act.put]; (try simp only [e2]); go_simp
              refine steps_next (n := 4) ⟨_, by rfl, fun vals x hx hj => ?_⟩ ?_
              · have hk := KA x hx; clear hj; refine kn_val hx ?_; simp only [putF, dstO, Act.put]; go_simp; (try first | with_reducible rfl | (intros; omega) | (simp only [IntKind.wrap_i64]; omega))
              refine steps_next (n := 5) ⟨_, by rfl, fun vals x hx hj => ?_⟩ ?_
              · have hk := KA x hx; have e3 : _ = _ := hj 3 (by decide +kernel); have e4 : _ = _ := hj 4 (by decide +kernel); clear hj; refine kn_val hx ?_; simp only [putF, dstO, Act.put]; (try simp only [e3, e4]); go_simp; (try first | with_reducible rfl | (intros; omega) | (simp only [IntKind.wrap_i64]; omega))
              refine steps_next (n := 6) ⟨_, by rfl, fun vals x hx hj => ?_⟩ ?_
              · have hk := KA x hx; have e5 : _ = _ := hj 5 (by decide +kernel); clear hj; refine kn_val hx ?_; simp only [putF, dstO, Act.put]; (try simp only [e5]); go_simp
              refine steps_next (n := 7) ⟨_, by rfl, fun vals x hx hj => ?_⟩ ?_
              · have hk := KA x hx; clear hj; refine kn_val hx ?_; simp only [putF, dstO, Act.put]; go_simp; (try first | with_reducible rfl | (intros; omega) | (simp only [IntKind.wrap_i64]; omega))
              refine steps_next (n := 8) ⟨_, by rfl, fun vals x hx hj => ?_⟩ ?_
              · have hk := KA x hx; have e6 : _ = _ := hj 6 (by decide +kernel); have e7 : _ = _ := hj 7 (by decide +kernel); clear hj; refine kn_val hx ?_; simp only [putF, dstO, Act.put]; (try simp only [e6, e7]); go_simp; (try first | with_reducible rfl | (intros; omega) | (simp only [IntKind.wrap_i64]; omega))
              refine steps_next (n := 9) ⟨_, by rfl, fun vals x hx hj => ?_⟩ ?_
              · have hk := KA x hx; have e8 : _ = _ := hj 8 (by decide +kernel); clear hj; refine kn_val hx ?_; simp only [putF, dstO, Act.put]; (try simp only [e8]); go_simp; (try first | with_reducible rfl | (intros; omega) | (simp only [IntKind.wrap_i64]; omega))
              refine steps_next (n := 10) ⟨_, by rfl, fun vals x hx hj => ?_⟩ ?_
              · have hk := KA x hx; clear hj; refine kn_val hx ?_; simp only [putF, dstO, Act.put]; go_simp
              refine steps_next (n := 11) ⟨_, by rfl, fun vals x hx hj => ?_⟩ ?_
              · have hk := KA x hx; have e10 : _ = _ := hj 10 (by decide +kernel); clear hj; refine kn_val hx ?_; simp only [putF, dstO, Act.put]; (try simp only [e10]); go_simp
              refine steps_next (n := 12) ⟨_, by rfl, fun vals x hx hj => ?_⟩ ?_
              · have hk := KA x hx; clear hj; refine kn_val hx ?_; simp only [putF, dstO, Act.put]; go_simp; (try first | with_reducible rfl | (intros; omega) | (simp only [IntKind.wrap_i64]; omega))
              refine steps_next (n := 13) ⟨_, by rfl, fun vals x hx hj => ?_⟩ ?_
              · have hk := KA x hx; have e11 : _ = _ := hj 11 (by decide +kernel); have e12 : _ = _ := hj 12 (by decide +kernel); clear hj; refine kn_val hx ?_; simp only [putF, dstO, Act.put]; (try simp only [e11, e12]); go_simp; (try first | with_reducible rfl | (intros; omega) | (simp only [IntKind.wrap_i64]; omega))
              refine steps_next (n := 14) ⟨_, by rfl, fun vals x hx hj => ?_⟩ ?_
              · have hk := KA x hx; have e13 : _ = _ := hj 13 (by decide +kernel); clear hj; refine kn_val hx ?_; simp only [putF, dstO, Act.put]; (try simp only [e13]); go_simp
              refine steps_next (n := 15) ⟨_, by rfl, fun vals x hx hj => ?_⟩ ?_
              · have hk := KA x hx; clear hj; refine kn_val hx ?_; simp only [putF, dstO, Act.put]; go_simp; (try first | with_reducible rfl | (intros; omega) | (simp only [IntKind.wrap_i64]; omega))
              refine steps_next (n := 16) ⟨_, by rfl, fun vals x hx hj => ?_⟩ ?_
              · have hk := KA x hx; have e15 : _ = _ := hj 15 (by decide +kernel); clear hj; refine kn_val hx ?_; simp only [putF, dstO, Act.put]; (try simp only [e15]); go_simp; (try first | with_reducible rfl | (intros; omega) | (simp only [IntKind.wrap_i64]; omega))
              refine steps_next (n := 17) ⟨_, by rfl, fun vals x hx hj => ?_⟩ ?_
              · have hk := KA x hx; have e14 : _ = _ := hj 14 (by decide +kernel); have e16 : _ = _ := hj 16 (by decide +kernel); clear hj; refine kn_val hx ?_; simp only [putF, dstO, Act.put]; (try simp only [e14, e16]); go_simp; (try first | with_reducible rfl | (intros; omega) | (simp only [IntKind.wrap_i64]; omega))
              refine steps_next (n := 18) ⟨_, by rfl, fun vals x hx hj => ?_⟩ ?_
              · have hk := KA x hx; have e17 : _ = _ := hj 17 (by decide +kernel); clear hj; refine kn_val hx ?_; simp only [putF, dstO, Act.put]; (try simp only [e17]); go_simp; (try first | with_reducible rfl | (intros; omega) | (simp only [IntKind.wrap_i64]; omega))
              refine steps_next (n := 19) ⟨_, by rfl, fun vals x hx hj => ?_⟩ ?_
              · have hk := KA x hx; have e1 : _ = _ := hj 1 (by decide +kernel); have e9 : _ = _ := hj 9 (by decide +kernel); have e18 : _ = _ := hj 18 (by decide +kernel); clear hj; refine kn_call hx (AT.out x (TA.out.later hx) (CA.out x hx)) ?_; simp only [putF, dstO, Act.put]; (try simp only [e1, e9, e18]); go_simp
              refine steps_next (n := 20) ⟨_, by rfl, fun vals x hx hj => ?_⟩ ?_
              · have hk := KA x hx; have e19 : _ = _ := hj 19 (by decide +kernel); clear hj; refine kn_row (c := 1) hx (rf1_new x 39 (gy (2 * i))) ?_; simp only [putF, dstO, Act.put]; (try simp only [e19]); go_simp
              exact steps_end
            intro vals v1x hv1x hv
            have hkv1x := KA v1x hv1x
            have e0 : _ = _ := hv 0 (by omega)
            have e1 : _ = _ := hv 1 (by omega)
            have e2 : _ = _ := hv 2 (by omega)
            have e3 : _ = _ := hv 3 (by omega)
            have e4 : _ = _ := hv 4 (by omega)
            have e5 : _ = _ := hv 5 (by omega)
            have e6 : _ = _ := hv 6 (by omega)
            have e7 : _ = _ := hv 7 (by omega)
            have e8 : _ = _ := hv 8 (by omega)
            have e9 : _ = _ := hv 9 (by omega)
            have e10 : _ = _ := hv 10 (by omega)
            have e11 : _ = _ := hv 11 (by omega)
            have e12 : _ = _ := hv 12 (by omega)
            have e13 : _ = _ := hv 13 (by omega)
            have e14 : _ = _ := hv 14 (by omega)
            have e15 : _ = _ := hv 15 (by omega)
            have e16 : _ = _ := hv 16 (by omega)
            have e17 : _ = _ := hv 17 (by omega)
            have e18 : _ = _ := hv 18 (by omega)
            have e19 : _ = _ := hv 19 (by omega)
            obtain ⟨b20, c20, e20, R20⟩ := hv 20 (by omega)
            clear hv
            simp only [putF, dstO, Act.put, List.getElem?_toArray, List.getElem?_cons_zero, List.getElem?_cons_succ, Option.bind_some, Option.bind_none, List.setIfInBounds_toArray, List.set_cons_zero, List.set_cons_succ]
            (try simp only [e0, e1, e2, e3, e4, e5, e6, e7, e8, e9, e10, e11, e12, e13, e14, e15, e16, e17, e18, e19, e20])
            have hx1 := hv1x
            clear KA TA CA AT hkv1x
            have HD2' := Lib.hid (HD2.out.later hx1)
            refine wpAny_ready (rs := [21]) (by decide +kernel) (by simp) (AllReady.cons rfl (fun KK hKK => ?_) AllReady.nil)
            refine step_append_lies _ (by rfl) _ _ 87 (by rfl) G.heap.size 39 i0 (.agg #[.bool false, .int .u64 0, .int .u64 0, .int .u64 0, .int .u64 0, .bool false, .int .u64 0, .int .u64 0, .int .u64 0, .int .u64 0]) 10 80 Tryd.underlying87 hinf hi0 hi1 hi2 rfl (by decide) u5 (2 * i) (rowC gy (2 * i)) (by rfl) HD2'.out.y ⟨b20, 0, none⟩ 1 c20 [.bool ((gy (2 * i)).s), .int .u64 ((((gy (2 * i)).a) : Nat) : Int), .int .u64 0, .int .u64 0, .int .u64 0, .bool false, .int .u64 ((((gy (2 * i)).d) : Nat) : Int), .int .u64 0, .int .u64 0, .int .u64 0] (by rfl) rfl (rf1_news R20) (by simp [Value.oneCell']) (by omega) (HML.out _ (by omega)) (by omega) HD2'.out.base _ rfl ?_
            intro g2 capg2 v2 howng2 hgrowg2 hatg2 hltg2
            have HD4 := Lib.hid (HD2'.out.pushY howng2 hgrowg2 hatg2)
            (refine hKK _ _ ?_); clear hKK KK; (try simp only [Nq1, Nq2, Nq3, Act.put, Nq4, Nq5, Nq6])
            refine wpAny_ready (rs := [22]) (by decide +kernel) (by simp) (AllReady.cons rfl (fun KK hKK => ?_) AllReady.nil)
            go_simp
            (refine hKK _ _ ?_); clear hKK KK; (try simp only [Nq1, Nq2, Nq3, Act.put, Nq4, Nq5, Nq6])
            refine wpAny_done (by kernel_rfl) ?_ _
            have hbl4 := HD4.out.below
            have f4 := (hFm.out _ hbl4).1
            by_cases hlt1 : i + 1 < X.length
            · have hiX1 : (i : Int) + 1 < (X.length : Int) := by omega
              have iH1 : i + 1 < H.length := by have := HN.out; omega
              have hiH1 : (i : Int) + 1 < (H.length : Int) := by omega
              go_upto_region 14 with (fail)
              clear f4
              obtain ⟨x1, hx1e⟩ : ∃ x1, x1 = ix X (i + 1) := ⟨_, rfl⟩
              have AT := Lib.hid (AX.out i hlt1 b7 (w.heap.size + 1) w.heap.size (w.heap.size + 1 + 1))
              simp only [← HXI.out, ← hx1e] at AT
              have KA := fun (x : World) (hx : Below v2.heap.size v2 x) => And.intro (hFm.out x (hbl4.trans (hx.mono hbl4.size))).1 (And.intro (((HXG.out.later (hbl4.trans (hx.mono hbl4.size))).cell i hlt).trans (congrArg (fun u => some (Value.int .i64 u)) HXI.out.symm)) (((HXG.out.later (hbl4.trans (hx.mono hbl4.size))).cell (i + 1) hlt1).trans (congrArg (fun u => some (Value.int .i64 u)) hx1e.symm)))
              clear hx1e
              have TA := Lib.hid (HTG.out.later hbl4)
              have CA := Lib.hid (show ∀ x : World, Below v2.heap.size v2 x → Cap x b7 (w.heap.size + 1) w.heap.size (w.heap.size + 1 + 1) bZ oZ Z.length cZ false z (ix Z j) (ix Z (j + 1)) j from fun x hx => hCap.out x (hbl4.trans (hx.mono hbl4.size)))
              refine wp_region_kn 15 [.val (.slice (some ⟨g, 0, none⟩) (2 * i + 1 : Nat) capg), .val (.func (.func 68) #[] #[.pointer (some ⟨b7, 0, none⟩), .pointer (some ⟨w.heap.size + 1, 0, none⟩), .pointer (some ⟨w.heap.size, 0, none⟩), .pointer (some ⟨w.heap.size + 1 + 1, 0, none⟩)]), .val (.pointer (some ⟨w.heap.size, 0, none⟩)), .val (.slice (some ⟨bX, oX, none⟩) X.length cX), .val (.int .i64 (i : Int)), .val (.pointer (some ⟨bX, oX + i, none⟩)), .val (.int .i64 xi), .val (.pointer (some ⟨w.heap.size, 0, none⟩)), .val (.slice (some ⟨bX, oX, none⟩) X.length cX), .val (.int .i64 (i : Int)), .val (.int .i64 ((i : Int) + 1)), .val (.pointer (some ⟨bX, oX + (i + 1), none⟩)), .val (.int .i64 x1), .val ((.agg #[.bool ((gx (2 * i + 1)).s), .int .u64 ((((gx (2 * i + 1)).a) : Nat) : Int), .int .u64 0, .int .u64 0, .int .u64 0, .bool false, .int .u64 ((((gx (2 * i + 1)).d) : Nat) : Int), .int .u64 0, .int .u64 0, .int .u64 0])), .row (1) (pk1 (gx (2 * i + 1)))] v2 (by kernel_rfl) (by kernel_rfl) (by kernel_rfl) (by kernel_rfl) (by kernel_rfl) (by decide) (Below.refl _ _) ?_ ?_
              · refine steps_next (n := 0) ⟨_, by rfl, fun vals x hx hj => ?_⟩ ?_
                · have hk := KA x hx; clear hj; refine kn_val hx ?_; simp only [putF, dstO, Act.put]; go_simp; (try first | with_reducible rfl | (intros; omega) | (simp only [IntKind.wrap_i64]; omega))
                refine steps_next (n := 1) ⟨_, by rfl, fun vals x hx hj => ?_⟩ ?_
                · have hk := KA x hx; clear hj; refine kn_val hx ?_; simp only [putF, dstO, Act.put]; go_simp; (try first | with_reducible rfl | (intros; omega) | (simp only [IntKind.wrap_i64]; omega))
                refine steps_next (n := 2) ⟨_, by rfl, fun vals x hx hj => ?_⟩ ?_
                · have hk := KA x hx; clear hj; refine kn_val hx ?_; simp only [putF, dstO, Act.put]; go_simp
                refine steps_next (n := 3) ⟨_, by rfl, fun vals x hx hj => ?_⟩ ?_
                · have hk := KA x hx; have e2 : _ = _ := hj 2 (by decide +kernel); clear hj; refine kn_val hx ?_; simp only [putF, dstO, Act.put]; (try simp only [e2]); go_simp
                refine steps_next (n := 4) ⟨_, by rfl, fun vals x hx hj => ?_⟩ ?_
                · have hk := KA x hx; clear hj; refine kn_val hx ?_; simp only [putF, dstO, Act.put]; go_simp; (try first | with_reducible rfl | (intros; omega) | (simp only [IntKind.wrap_i64]; omega))
                refine steps_next (n := 5) ⟨_, by rfl, fun vals x hx hj => ?_⟩ ?_
                · have hk := KA x hx; have e3 : _ = _ := hj 3 (by decide +kernel); have e4 : _ = _ := hj 4 (by decide +kernel); clear hj; refine kn_val hx ?_; simp only [putF, dstO, Act.put]; (try simp only [e3, e4]); go_simp; (try first | with_reducible rfl | (intros; omega) | (simp only [IntKind.wrap_i64]; omega))
                refine steps_next (n := 6) ⟨_, by rfl, fun vals x hx hj => ?_⟩ ?_
                · have hk := KA x hx; have e5 : _ = _ := hj 5 (by decide +kernel); clear hj; refine kn_val hx ?_; simp only [putF, dstO, Act.put]; (try simp only [e5]); go_simp; (try first | with_reducible rfl | (intros; omega) | (simp only [IntKind.wrap_i64]; omega))
                refine steps_next (n := 7) ⟨_, by rfl, fun vals x hx hj => ?_⟩ ?_
                · have hk := KA x hx; clear hj; refine kn_val hx ?_; simp only [putF, dstO, Act.put]; go_simp
                refine steps_next (n := 8) ⟨_, by rfl, fun vals x hx hj => ?_⟩ ?_
                · have hk := KA x hx; have e7 : _ = _ := hj 7 (by decide +kernel); clear hj; refine kn_val hx ?_; simp only [putF, dstO, Act.put]; (try simp only [e7]); go_simp
                refine steps_next (n := 9) ⟨_, by rfl, fun vals x hx hj => ?_⟩ ?_
                · have hk := KA x hx; clear hj; refine kn_val hx ?_; simp only [putF, dstO, Act.put]; go_simp; (try first | with_reducible rfl | (intros; omega) | (simp only [IntKind.wrap_i64]; omega))
                refine steps_next (n := 10) ⟨_, by rfl, fun vals x hx hj => ?_⟩ ?_
                · have hk := KA x hx; have e9 : _ = _ := hj 9 (by decide +kernel); clear hj; refine kn_val hx ?_; simp only [putF, dstO, Act.put]; (try simp only [e9]); go_simp; (try first | with_reducible rfl | (intros; omega) | (simp only [IntKind.wrap_i64]; omega))
                refine steps_next (n := 11) ⟨_, by rfl, fun vals x hx hj => ?_⟩ ?_
                · have hk := KA x hx; have e8 : _ = _ := hj 8 (by decide +kernel); have e10 : _ = _ := hj 10 (by decide +kernel); clear hj; refine kn_val hx ?_; simp only [putF, dstO, Act.put]; (try simp only [e8, e10]); go_simp; (try first | with_reducible rfl | (intros; omega) | (simp only [IntKind.wrap_i64]; omega))
                refine steps_next (n := 12) ⟨_, by rfl, fun vals x hx hj => ?_⟩ ?_
                · have hk := KA x hx; have e11 : _ = _ := hj 11 (by decide +kernel); clear hj; refine kn_val hx ?_; simp only [putF, dstO, Act.put]; (try simp only [e11]); go_simp; (try first | with_reducible rfl | (intros; omega) | (simp only [IntKind.wrap_i64]; omega))
                refine steps_next (n := 13) ⟨_, by rfl, fun vals x hx hj => ?_⟩ ?_
                · have hk := KA x hx; have e1 : _ = _ := hj 1 (by decide +kernel); have e6 : _ = _ := hj 6 (by decide +kernel); have e12 : _ = _ := hj 12 (by decide +kernel); clear hj; refine kn_call hx (AT.out x (TA.out.later hx) (CA.out x hx)) ?_; simp only [putF, dstO, Act.put]; (try simp only [e1, e6, e12]); go_simp
                refine steps_next (n := 14) ⟨_, by rfl, fun vals x hx hj => ?_⟩ ?_
                · have hk := KA x hx; have e13 : _ = _ := hj 13 (by decide +kernel); clear hj; refine kn_row (c := 1) hx (rf1_new x 39 (gx (2 * i + 1))) ?_; simp only [putF, dstO, Act.put]; (try simp only [e13]); go_simp
                exact steps_end
              intro vals v2x hv2x hv
              have hkv2x := KA v2x hv2x
              have e0 : _ = _ := hv 0 (by omega)
              have e1 : _ = _ := hv 1 (by omega)
              have e2 : _ = _ := hv 2 (by omega)
              have e3 : _ = _ := hv 3 (by omega)
              have e4 : _ = _ := hv 4 (by omega)
              have e5 : _ = _ := hv 5 (by omega)
              have e6 : _ = _ := hv 6 (by omega)
              have e7 : _ = _ := hv 7 (by omega)
              have e8 : _ = _ := hv 8 (by omega)
              have e9 : _ = _ := hv 9 (by omega)
              have e10 : _ = _ := hv 10 (by omega)
              have e11 : _ = _ := hv 11 (by omega)
              have e12 : _ = _ := hv 12 (by omega)
              have e13 : _ = _ := hv 13 (by omega)
              obtain ⟨b14, c14, e14, R14⟩ := hv 14 (by omega)
              clear hv
              simp only [putF, dstO, Act.put, List.getElem?_toArray, List.getElem?_cons_zero, List.getElem?_cons_succ, Option.bind_some, Option.bind_none, List.setIfInBounds_toArray, List.set_cons_zero, List.set_cons_succ]
              (try simp only [e0, e1, e2, e3, e4, e5, e6, e7, e8, e9, e10, e11, e12, e13, e14])
              have hx2 := hv2x
              clear KA TA CA AT hkv2x
              have HD4' := Lib.hid (HD4.out.later hx2)
              refine wpAny_ready (rs := [15]) (by decide +kernel) (by simp) (AllReady.cons rfl (fun KK hKK => ?_) AllReady.nil)
              refine step_append_lies _ (by rfl) _ _ 87 (by rfl) G.heap.size 39 i0 (.agg #[.bool false, .int .u64 0, .int .u64 0, .int .u64 0, .int .u64 0, .bool false, .int .u64 0, .int .u64 0, .int .u64 0, .int .u64 0]) 10 80 Tryd.underlying87 hinf hi0 hi1 hi2 rfl (by decide) (.slice (some ⟨g, 0, none⟩) (2 * i + 1 : Nat) capg) (2 * i + 1) (rowC gx (2 * i) ++ [.bool ((gx (2 * i)).s), .int .u64 ((((gx (2 * i)).a) : Nat) : Int), .int .u64 0, .int .u64 0, .int .u64 0, .bool false, .int .u64 ((((gx (2 * i)).d) : Nat) : Int), .int .u64 0, .int .u64 0, .int .u64 0]) (by rfl) HD4'.out.x ⟨b14, 0, none⟩ 1 c14 [.bool ((gx (2 * i + 1)).s), .int .u64 ((((gx (2 * i + 1)).a) : Nat) : Int), .int .u64 0, .int .u64 0, .int .u64 0, .bool false, .int .u64 ((((gx (2 * i + 1)).d) : Nat) : Int), .int .u64 0, .int .u64 0, .int .u64 0] (by rfl) rfl (rf1_news R14) (by simp [Value.oneCell']) (by omega) (HML.out _ (by omega)) (by omega) HD4'.out.base _ rfl ?_
              intro g3 capg3 v3 howng3 hgrowg3 hatg3 hltg3
              have HD6 := Lib.hid (HD4'.out.pushX howng3 hgrowg3 hatg3)
              (refine hKK _ _ ?_); clear hKK KK; (try simp only [Nq1, Nq2, Nq3, Act.put, Nq4, Nq5, Nq6])
              refine wpAny_ready (rs := [16]) (by decide +kernel) (by simp) (AllReady.cons rfl (fun KK hKK => ?_) AllReady.nil)
              go_simp
              (refine hKK _ _ ?_); clear hKK KK; (try simp only [Nq1, Nq2, Nq3, Act.put, Nq4, Nq5, Nq6])
              refine wpAny_done (by kernel_rfl) ?_ _
              have hbl6 := HD6.out.below
              go_upto_region 15 with (fail)
              obtain ⟨bS, oS, eB, hRow1⟩ := HHG.out.row (i + 1) iH1 (by rw [HR.out (i + 1) iH1]; omega)
              obtain ⟨h2, hh2⟩ : ∃ h2, h2 = ix (row H (i + 1)) (j + 1) := ⟨_, rfl⟩
              have hHn := Lib.hid (show ∀ x : World, Below G.heap.size G x → x.cell? ⟨bH, oH + (i + 1), none⟩ = some (.slice (some ⟨bS, oS, none⟩) Z.length (C (i + 1))) ∧ x.cell? ⟨bS, oS + (j + 1), none⟩ = some (.int .i64 h2) from fun x hb => ⟨((HHG.out.later hb).cell (i + 1) iH1).trans (by rw [eB, HR.out (i + 1) iH1]), ((hRow1.later hb).cell (j + 1) (by rw [HR.out (i + 1) iH1]; omega)).trans (by rw [hh2])⟩)
              have AT := Lib.hid (AZ.out i hlt1 b7 (w.heap.size + 1) w.heap.size (w.heap.size + 1 + 1))
              simp only [← HH0.out, ← hh2] at AT
              clear hh2
              have KA := fun (x : World) (hx : Below v3.heap.size v3 x) => And.intro (hFm.out x (hbl6.trans (hx.mono hbl6.size))).1 (And.intro (hFm.out x (hbl6.trans (hx.mono hbl6.size))).2.1 (And.intro (hHm.out x (hbl6.trans (hx.mono hbl6.size))) (hHn.out x (hbl6.trans (hx.mono hbl6.size)))))
              have TA := Lib.hid (HTG.out.later hbl6)
              have CA := Lib.hid (show ∀ x : World, Below v3.heap.size v3 x → Cap x b7 (w.heap.size + 1) w.heap.size (w.heap.size + 1 + 1) bZ oZ Z.length cZ false z (ix Z j) (ix Z (j + 1)) j from fun x hx => hCap.out x (hbl6.trans (hx.mono hbl6.size)))
              refine wp_region_kn 22 [.val (.slice (some ⟨g2, 0, none⟩) (2 * i + 1 : Nat) capg2), .val (.func (.func 68) #[] #[.pointer (some ⟨b7, 0, none⟩), .pointer (some ⟨w.heap.size + 1, 0, none⟩), .pointer (some ⟨w.heap.size, 0, none⟩), .pointer (some ⟨w.heap.size + 1 + 1, 0, none⟩)]), .val (.pointer (some ⟨w.heap.size, 2, none⟩)), .val (.slice (some ⟨bH, oH, none⟩) H.length cH), .val (.int .i64 (i : Int)), .val (.pointer (some ⟨bH, oH + i, none⟩)), .val (.slice (some ⟨bR, oR, none⟩) Z.length (C i)), .val (.int .i64 (j : Int)), .val (.pointer (some ⟨bR, oR + j, none⟩)), .val (.int .i64 h0), .val (.pointer (some ⟨w.heap.size, 2, none⟩)), .val (.slice (some ⟨bH, oH, none⟩) H.length cH), .val (.int .i64 (i : Int)), .val (.int .i64 ((i : Int) + 1)), .val (.pointer (some ⟨bH, oH + (i + 1), none⟩)), .val (.slice (some ⟨bS, oS, none⟩) Z.length (C (i + 1))), .val (.int .i64 (j : Int)), .val (.int .i64 ((j : Int) + 1)), .val (.pointer (some ⟨bS, oS + (j + 1), none⟩)), .val (.int .i64 h2), .val ((.agg #[.bool ((gy (2 * i + 1)).s), .int .u64 ((((gy (2 * i + 1)).a) : Nat) : Int), .int .u64 0, .int .u64 0, .int .u64 0, .bool false, .int .u64 ((((gy (2 * i + 1)).d) : Nat) : Int), .int .u64 0, .int .u64 0, .int .u64 0])), .row (1) (pk1 (gy (2 * i + 1)))] v3 (by kernel_rfl) (by kernel_rfl) (by kernel_rfl) (by kernel_rfl) (by kernel_rfl) (by decide) (Below.refl _ _) ?_ ?_
              · refine steps_next (n := 0) ⟨_, by rfl, fun vals x hx hj => ?_⟩ ?_
                · have hk := KA x hx; clear hj; refine kn_val hx ?_; simp only [putF, dstO, Act.put]; go_simp; (try first | with_reducible rfl | (intros; omega) | (simp only [IntKind.wrap_i64]; omega))
                refine steps_next (n := 1) ⟨_, by rfl, fun vals x hx hj => ?_⟩ ?_
                · have hk := KA x hx; clear hj; refine kn_val hx ?_; simp only [putF, dstO, Act.put]; go_simp; (try first | with_reducible rfl | (intros; omega) | (simp only [IntKind.wrap_i64]; omega))
                refine steps_next (n := 2) ⟨_, by rfl, fun vals x hx hj => ?_⟩ ?_
                · have hk := KA x hx; clear hj; refine kn_val hx ?_; simp only [putF, dstO, Act.put]; go_simp
                refine steps_next (n := 3) ⟨_, by rfl, fun vals x hx hj => ?_⟩ ?_
                · have hk := KA x hx; have e2 : _ = _ := hj 2 (by decide +kernel); clear hj; refine kn_val hx ?_; simp only [putF, dstO, Act.put]; (try simp only [e2]); go_simp
                refine steps_next (n := 4) ⟨_, by rfl, fun vals x hx hj => ?_⟩ ?_
                · have hk := KA x hx; clear hj; refine kn_val hx ?_; simp only [putF, dstO, Act.put]; go_simp; (try first | with_reducible rfl | (intros; omega) | (simp only [IntKind.wrap_i64]; omega))
                refine steps_next (n := 5) ⟨_, by rfl, fun vals x hx hj => ?_⟩ ?_
                · have hk := KA x hx; have e3 : _ = _ := hj 3 (by decide +kernel); have e4 : _ = _ := hj 4 (by decide +kernel); clear hj; refine kn_val hx ?_; simp only [putF, dstO, Act.put]; (try simp only [e3, e4]); go_simp; (try first | with_reducible rfl | (intros; omega) | (simp only [IntKind.wrap_i64]; omega))
                refine steps_next (n := 6) ⟨_, by rfl, fun vals x hx hj => ?_⟩ ?_
                · have hk := KA x hx; have e5 : _ = _ := hj 5 (by decide +kernel); clear hj; refine kn_val hx ?_; simp only [putF, dstO, Act.put]; (try simp only [e5]); go_simp
                refine steps_next (n := 7) ⟨_, by rfl, fun vals x hx hj => ?_⟩ ?_
                · have hk := KA x hx; clear hj; refine kn_val hx ?_; simp only [putF, dstO, Act.put]; go_simp; (try first | with_reducible rfl | (intros; omega) | (simp only [IntKind.wrap_i64]; omega))
                refine steps_next (n := 8) ⟨_, by rfl, fun vals x hx hj => ?_⟩ ?_
                · have hk := KA x hx; have e6 : _ = _ := hj 6 (by decide +kernel); have e7 : _ = _ := hj 7 (by decide +kernel); clear hj; refine kn_val hx ?_; simp only [putF, dstO, Act.put]; (try simp only [e6, e7]); go_simp; (try first | with_reducible rfl | (intros; omega) | (simp only [IntKind.wrap_i64]; omega))
                refine steps_next (n := 9) ⟨_, by rfl, fun vals x hx hj => ?_⟩ ?_
                · have hk := KA x hx; have e8 : _ = _ := hj 8 (by decide +kernel); clear hj; refine kn_val hx ?_; simp only [putF, dstO, Act.put]; (try simp only [e8]); go_simp; (try first | with_reducible rfl | (intros; omega) | (simp only [IntKind.wrap_i64]; omega))
                refine steps_next (n := 10) ⟨_, by rfl, fun vals x hx hj => ?_⟩ ?_
                · have hk := KA x hx; clear hj; refine kn_val hx ?_; simp only [putF, dstO, Act.put]; go_simp
                refine steps_next (n := 11) ⟨_, by rfl, fun vals x hx hj => ?_⟩ ?_
                · have hk := KA x hx; have e10 : _ = _ := hj 10 (by decide +kernel); clear hj; refine kn_val hx ?_; simp only [putF, dstO, Act.put]; (try simp only [e10]); go_simp
                refine steps_next (n := 12) ⟨_, by rfl, fun vals x hx hj => ?_⟩ ?_
                · have hk := KA x hx; clear hj; refine kn_val hx ?_; simp only [putF, dstO, Act.put]; go_simp; (try first | with_reducible rfl | (intros; omega) | (simp only [IntKind.wrap_i64]; omega))
                refine steps_next (n := 13) ⟨_, by rfl, fun vals x hx hj => ?_⟩ ?_
                · have hk := KA x hx; have e12 : _ = _ := hj 12 (by decide +kernel); clear hj; refine kn_val hx ?_; simp only [putF, dstO, Act.put]; (try simp only [e12]); go_simp; (try first | with_reducible rfl | (intros; omega) | (simp only [IntKind.wrap_i64]; omega))
                refine steps_next (n := 14) ⟨_, by rfl, fun vals x hx hj => ?_⟩ ?_
                · have hk := KA x hx; have e11 : _ = _ := hj 11 (by decide +kernel); have e13 : _ = _ := hj 13 (by decide +kernel); clear hj; refine kn_val hx ?_; simp only [putF, dstO, Act.put]; (try simp only [e11, e13]); go_simp; (try first | with_reducible rfl | (intros; omega) | (simp only [IntKind.wrap_i64]; omega))
                refine steps_next (n := 15) ⟨_, by rfl, fun vals x hx hj => ?_⟩ ?_
                · have hk := KA x hx; have e14 : _ = _ := hj 14 (by decide +kernel); clear hj; refine kn_val hx ?_; simp only [putF, dstO, Act.put]; (try simp only [e14]); go_simp; (try first | with_reducible rfl | (intros; omega) | (simp only [IntKind.wrap_i64]; omega))
                refine steps_next (n := 16) ⟨_, by rfl, fun vals x hx hj => ?_⟩ ?_
                · have hk := KA x hx; clear hj; refine kn_val hx ?_; simp only [putF, dstO, Act.put]; go_simp; (try first | with_reducible rfl | (intros; omega) | (simp only [IntKind.wrap_i64]; omega))
                refine steps_next (n := 17) ⟨_, by rfl, fun vals x hx hj => ?_⟩ ?_
                · have hk := KA x hx; have e16 : _ = _ := hj 16 (by decide +kernel); clear hj; refine kn_val hx ?_; simp only [putF, dstO, Act.put]; (try simp only [e16]); go_simp; (try first | with_reducible rfl | (intros; omega) | (simp only [IntKind.wrap_i64]; omega))
                refine steps_next (n := 18) ⟨_, by rfl, fun vals x hx hj => ?_⟩ ?_
                · have hk := KA x hx; have e15 : _ = _ := hj 15 (by decide +kernel); have e17 : _ = _ := hj 17 (by decide +kernel); clear hj; refine kn_val hx ?_; simp only [putF, dstO, Act.put]; (try simp only [e15, e17]); go_simp; (try first | with_reducible rfl | (intros; omega) | (simp only [IntKind.wrap_i64]; omega))
                refine steps_next (n := 19) ⟨_, by rfl, fun vals x hx hj => ?_⟩ ?_
                · have hk := KA x hx; have e18 : _ = _ := hj 18 (by decide +kernel); clear hj; refine kn_val hx ?_; simp only [putF, dstO, Act.put]; (try simp only [e18]); go_simp; (try first | with_reducible rfl | (intros; omega) | (simp only [IntKind.wrap_i64]; omega))
                refine steps_next (n := 20) ⟨_, by rfl, fun vals x hx hj => ?_⟩ ?_
                · have hk := KA x hx; have e1 : _ = _ := hj 1 (by decide +kernel); have e9 : _ = _ := hj 9 (by decide +kernel); have e19 : _ = _ := hj 19 (by decide +kernel); clear hj; refine kn_call hx (AT.out x (TA.out.later hx) (CA.out x hx)) ?_; simp only [putF, dstO, Act.put]; (try simp only [e1, e9, e19]); go_simp
                refine steps_next (n := 21) ⟨_, by rfl, fun vals x hx hj => ?_⟩ ?_
                · have hk := KA x hx; have e20 : _ = _ := hj 20 (by decide +kernel); clear hj; refine kn_row (c := 1) hx (rf1_new x 39 (gy (2 * i + 1))) ?_; simp only [putF, dstO, Act.put]; (try simp only [e20]); go_simp
                exact steps_end
              intro vals v3x hv3x hv
              have hkv3x := KA v3x hv3x
              have e0 : _ = _ := hv 0 (by omega)
              have e1 : _ = _ := hv 1 (by omega)
              have e2 : _ = _ := hv 2 (by omega)
              have e3 : _ = _ := hv 3 (by omega)
              have e4 : _ = _ := hv 4 (by omega)
              have e5 : _ = _ := hv 5 (by omega)
              have e6 : _ = _ := hv 6 (by omega)
              have e7 : _ = _ := hv 7 (by omega)
              have e8 : _ = _ := hv 8 (by omega)
              have e9 : _ = _ := hv 9 (by omega)
              have e10 : _ = _ := hv 10 (by omega)
              have e11 : _ = _ := hv 11 (by omega)
              have e12 : _ = _ := hv 12 (by omega)
              have e13 : _ = _ := hv 13 (by omega)
              have e14 : _ = _ := hv 14 (by omega)
              have e15 : _ = _ := hv 15 (by omega)
              have e16 : _ = _ := hv 16 (by omega)
              have e17 : _ = _ := hv 17 (by omega)
              have e18 : _ = _ := hv 18 (by omega)
              have e19 : _ = _ := hv 19 (by omega)
              have e20 : _ = _ := hv 20 (by omega)
              obtain ⟨b21, c21, e21, R21⟩ := hv 21 (by omega)
              clear hv
              simp only [putF, dstO, Act.put, List.getElem?_toArray, List.getElem?_cons_zero, List.getElem?_cons_succ, Option.bind_some, Option.bind_none, List.setIfInBounds_toArray, List.set_cons_zero, List.set_cons_succ]
              (try simp only [e0, e1, e2, e3, e4, e5, e6, e7, e8, e9, e10, e11, e12, e13, e14, e15, e16, e17, e18, e19, e20, e21])
              have hx3 := hv3x
              clear KA TA CA AT hkv3x
              have HD6' := Lib.hid (HD6.out.later hx3)
              refine wpAny_ready (rs := [22]) (by decide +kernel) (by simp) (AllReady.cons rfl (fun KK hKK => ?_) AllReady.nil)
              refine step_append_lies _ (by rfl) _ _ 87 (by rfl) G.heap.size 39 i0 (.agg #[.bool false, .int .u64 0, .int .u64 0, .int .u64 0, .int .u64 0, .bool false, .int .u64 0, .int .u64 0, .int .u64 0, .int .u64 0]) 10 80 Tryd.underlying87 hinf hi0 hi1 hi2 rfl (by decide) (.slice (some ⟨g2, 0, none⟩) (2 * i + 1 : Nat) capg2) (2 * i + 1) (rowC gy (2 * i) ++ [.bool ((gy (2 * i)).s), .int .u64 ((((gy (2 * i)).a) : Nat) : Int), .int .u64 0, .int .u64 0, .int .u64 0, .bool false, .int .u64 ((((gy (2 * i)).d) : Nat) : Int), .int .u64 0, .int .u64 0, .int .u64 0]) (by rfl) HD6'.out.y ⟨b21, 0, none⟩ 1 c21 [.bool ((gy (2 * i + 1)).s), .int .u64 ((((gy (2 * i + 1)).a) : Nat) : Int), .int .u64 0, .int .u64 0, .int .u64 0, .bool false, .int .u64 ((((gy (2 * i + 1)).d) : Nat) : Int), .int .u64 0, .int .u64 0, .int .u64 0] (by rfl) rfl (rf1_news R21) (by simp [Value.oneCell']) (by omega) (HML.out _ (by omega)) (by omega) HD6'.out.base _ rfl ?_
              intro g4 capg4 v4 howng4 hgrowg4 hatg4 hltg4
              have HD8 := Lib.hid (HD6'.out.pushY howng4 hgrowg4 hatg4)
              (refine hKK _ _ ?_); clear hKK KK; (try simp only [Nq1, Nq2, Nq3, Act.put, Nq4, Nq5, Nq6])
              refine wpAny_ready (rs := [23]) (by decide +kernel) (by simp) (AllReady.cons rfl (fun KK hKK => ?_) AllReady.nil)
              go_simp
              (refine hKK _ _ ?_); clear hKK KK; (try simp only [Nq1, Nq2, Nq3, Act.put, Nq4, Nq5, Nq6])
              refine wpAny_done (by kernel_rfl) ?_ _
              go_wp2
              go_roundg (X.length - (i + 1))
              case measure => omega
              case rel => exact ⟨i + 1, 2 * i + 1 + 1, by omega, fun _ => by omega, fun e => by omega, by omega, by go_num, by rw [rowC_succ, rowC_succ, rowC_succ, rowC_succ]; exact HD8⟩
            · have hiX1 : ¬ (i : Int) + 1 < (X.length : Int) := by omega
              go_wp2
              go_roundg (X.length - (i + 1))
              case measure => omega
              case rel => exact ⟨i + 1, 2 * i + 1, by omega, fun _ => by omega, fun _ => by omega, by omega, by go_num, by rw [rowC_succ, rowC_succ]; exact HD4⟩
          · obtain rfl : i = X.length := by omega
            obtain rfl : m = 2 * X.length - 1 := hm2 rfl
            obtain ⟨gb, gc, ex, hg1, hg2⟩ := own_rf HT2.out.x (by omega)
            obtain ⟨hb', hc', ey, hh1, hh2⟩ := own_rf HT2.out.y (by omega)
            subst ex ey
            have hbl := HT2.out.below
            go_wp2
            go_returns
            first | refine ⟨gb, gc, hb', ⟨hc', ?_⟩, ?_, ?_, ?_⟩ | refine ⟨gb, gc, hb', hc', ?_, ?_, ?_, ?_⟩
            · first | rfl | simp [go_sem]
            · exact below_after hGb hbl
            · exact hg2
            · exact hh2
end Go.Proofs.YthikaimhmpenhaaDoor
