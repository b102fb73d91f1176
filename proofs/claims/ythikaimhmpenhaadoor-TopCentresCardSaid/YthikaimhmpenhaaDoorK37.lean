/-
  The law's functions height and little.
  That the lists of hull.Mesh hold numbers, and are not empty.
  Maps whose keys are pairs of numbers and whose elements are bools, filled with 'true': a set of pairs.
  mesh.closed: a surface each of whose directed edges occurs once, and the opposite one too, is closed.
  The surface that hull.Mesh makes, as the plain law (SurfM) has it: its faces' indices and its points' coordinates, where they lie.
  What mesh.beyond, the library's search through a surface's points, and mesh.determinant return.
  mesh.sum: the sum, over all faces, of the products of a function's two numbers.
  mesh.volume: the sum of a surface's determinants.
  mesh.Volume6 and mesh.Moment24 of a closed surface that encloses something.
  The surface of a form that passes, as numbers in memory: closed, with a volume; its moment about the middle is 0; a box's volume.
  What hull.Mesh leaves in memory, as numbers: a closed surface.
  (Written by wip/pack.py out of XFTopD, XFMeshL, XFMapA, XFMeshK, XFSurfK, XFMeshE, XFMeshV, XFMeshW, XFMeshY, XFSurfH, XFMeshN.)
-/
import Derived.Test.YthikaimhmpenhaaDoorK34
import Derived.Test.YthikaimhmpenhaaDoorK35
import Derived.Test.YthikaimhmpenhaaDoorK36
import Derived.Deep.QuietTactic
import Derived.BigQuiet
import Derived.Test.YthikaimhmpenhaaDoorK29
import Derived.Test.YthikaimhmpenhaaDoorK01
import Derived.Maps.OwnSet
import Derived.Maps.RangeWalk
import Derived.Maps.OwnOps
import Derived.DeepKeys4
import Derived.Test.YthikaimhmpenhaaDoorK28
import Derived.BigRegion
import Derived.Test.YthikaimhmpenhaaDoorK11
namespace Go.Proofs.YthikaimhmpenhaaDoor
set_option linter.all false
open Go Go.RowKit Wd
set_option maxRecDepth 100000
structure FoM (w : World) (fx fz fh : Value) (wr : World) : Prop where
  c : ∀ o, wr.cell? ⟨w.heap.size, o, none⟩ = (#[fx, fz, fh] : Array Value)[o]?
  l : w.heap.size < wr.heap.size
  b : Below w.heap.size w wr
theorem FoM.later {w wr x : World} {fx fz fh : Value} (h : FoM w fx fz fh wr) (hb : Below wr.heap.size wr x) : FoM w fx fz fh x := ⟨keep_cell hb h.l h.c, keep_lt hb h.l, below_after h.b hb⟩
theorem FoM.drewN {w wr : World} {fx fz fh : Value} (h : FoM w fx fz fh wr) (n : Nat) : FoM w fx fz fh (wr.drewN n) := h.later (below_drewN' (Below.refl _ _) n)
set_option maxHeartbeats 8000000 in
theorem heightH {X Z : List Int} {H : List (List Int)} {z : Int} {K d : Nat} (hA : At Z z K d) (hup : ∀ k, k + 1 < Z.length → ix Z k < ix Z (k + 1)) (hzb : ∀ k, k < Z.length → 0 ≤ ix Z k ∧ ix Z k ≤ 1000000) (hl' : Z.length ≤ 16) (bX oX cX bZ oZ cZ bH oH cH : Nat) (A : Nat → Option Addr) (C : Nat → Nat) (w : World) (hF : Fm w bX oX bZ oZ bH oH A C X Z H) :
    Calls Tryd.prog 8 #[.agg #[.slice (some ⟨bX, oX, none⟩) X.length cX, .slice (some ⟨bZ, oZ, none⟩) Z.length cZ, .slice (some ⟨bH, oH, none⟩) H.length cH], .int .i64 z] w fun e w' => e = .returned (.int .i64 (d : Int)) ∧ Below w.heap.size w w' := by
  have mono : ∀ k, k < Z.length → ∀ j, j ≤ k → ix Z j ≤ ix Z k := by
    intro k
    induction k with
    | zero => intro _ j hj; obtain rfl : j = 0 := by omega
              exact Int.le_refl _
    | succ k ih =>
      intro h j hj
      by_cases e : j = k + 1
      · subst e; exact Int.le_refl _
      · have h1 := ih (by omega) j (by omega)
        have h2 := hup k h
        omega
  have HZ := Lib.hid (fun x (hb : Below w.heap.size w x) k (hk : k < Z.length) => (hF.later hb).z.cell k hk)
  have HM := Lib.hid mono
  have HA := Lib.hid hA
  have HB := Lib.hid hzb
  have HU := Lib.hid hup
  have hlI' : (Z.length : Int) ≤ 16 := by omega
  clear mono hA hzb hup hF
  go_enter Tryd.func8, Tryd.ntmps8
  go_wp2
  go_loopg [5] Z.length (fun gg v wr => ∃ j : Nat, j ≤ Z.length ∧ Z.length - j ≤ gg ∧ (ix Z K < z → j ≤ K) ∧ v = .int .i64 (j : Int) ∧ Hid (FoM w (.slice (some ⟨bX, oX, none⟩) X.length cX) (.slice (some ⟨bZ, oZ, none⟩) Z.length cZ) (.slice (some ⟨bH, oH, none⟩) H.length cH) wr))
  case atStart => exact ⟨0, by omega, by omega, fun _ => by omega, rfl, Lib.hid ⟨fun o => by simp [go_sem], by simp, by (repeat' first | (with_reducible first | exact Bq0 | assumption | refine Bq1 ?_ | refine Bq2 ?_ | refine Bq3 ?_ ?_ | refine Bq4 ?_ (by assumption)) | go_size)⟩⟩
  case round =>
    obtain ⟨j, hj, hgj, hjK, rfl, HI⟩ := hrel
    have cM := HI.out.c
    have lM := HI.out.l
    have bM := HI.out.b
    by_cases hlt : j + 1 < Z.length
    · have hjl : (j : Int) + 1 < (Z.length : Int) := by omega
      have z0 := HZ.out wr bM j (by omega)
      have z1 := HZ.out wr bM (j + 1) hlt
      have zb0 := HB.out j (by omega)
      have zb1 := HB.out (j + 1) hlt
      have hA := HA.out
      have hKk := hA.k
      by_cases hin : ix Z j < z ∧ z < ix Z (j + 1)
      · have hjK2 : j = K := by
          rcases Nat.lt_trichotomy j K with h | h | h
          · have := HM.out K hKk (j + 1) (by omega)
            have := hA.le
            omega
          · exact h
          · have := HM.out j (by omega) (K + 1) (by omega)
            by_cases e : ix Z K < z
            · have := hjK e; omega
            · have := hA.le
              have h3 := HM.out j (by omega) (K + 1) (by omega)
              have h4 := HU.out K (by omega)
              omega
        subst hjK2
        obtain ⟨h1, h2⟩ := hin
        have hd := (hA.lt h1).2.2
        obtain ⟨zj, hzj⟩ : ∃ u, u = ix Z j := ⟨_, rfl⟩
        obtain ⟨zk, hzk⟩ : ∃ u, u = ix Z (j + 1) := ⟨_, rfl⟩
        rw [← hzj] at z0 zb0 h1 hd
        rw [← hzk] at z1 zb1 h2 hd
        have hw : IntKind.i64.wrap (zk - zj) = zk - zj := by rw [IntKind.wrap_i64]; omega
        have HD := Lib.hid hd
        clear hzj hzk hd hA HA HB HU HM HZ hjK HI
        go_upto_region 5 with (fail)
        go_quiet (fail)
        go_wp2_with ((with_reducible show bodyPost _ _ _ _ _ _); refine bodyPost_ret (by simp [results, Tryd.results8, go_sem]; try rfl) rfl ?_; exact ⟨by rw [HD.out], below_drewN' bM _⟩)
      · have hjK2 : ix Z K < z → j + 1 ≤ K := fun e => by
          have h1 := hjK e
          by_cases e2 : j = K
          · subst e2
            exact absurd ⟨e, (hA.lt e).2.1⟩ hin
          · omega
        obtain ⟨zj, hzj⟩ : ∃ u, u = ix Z j := ⟨_, rfl⟩
        obtain ⟨zk, hzk⟩ : ∃ u, u = ix Z (j + 1) := ⟨_, rfl⟩
        rw [← hzj] at z0 zb0 hin
        rw [← hzk] at z1 zb1 hin
        clear hzj hzk hA HA HB HU HM HZ hjK
        by_cases h1 : zj < z
        · have h2 : ¬ z < zk := fun h => hin ⟨h1, h⟩
          go_wp2
          go_roundg (Z.length - (j + 1))
          case measure => omega
          case rel => exact ⟨j + 1, by omega, by omega, hjK2, by go_num, HI⟩
        · go_wp2
          go_roundg (Z.length - (j + 1))
          case measure => omega
          case rel => exact ⟨j + 1, by omega, by omega, hjK2, by go_num, HI⟩
    · have hjl : ¬ (j : Int) + 1 < (Z.length : Int) := by omega
      have hd : d = 1 := by
        have hA := HA.out
        by_cases e : ix Z K < z
        · have h1 := hjK e
          have h2 := (hA.lt e).1
          omega
        · exact hA.one (by have := hA.le; omega)
      subst hd
      clear HA HB HU HM HZ hjK
      go_wp2_with ((with_reducible show bodyPost _ _ _ _ _ _); refine bodyPost_ret (by simp [results, Tryd.results8, go_sem, cM]; try rfl) rfl ?_; exact ⟨rfl, by (repeat' first | (with_reducible first | exact Bq0 | assumption | refine Bq1 ?_ | refine Bq2 ?_ | refine Bq3 ?_ ?_ | refine Bq4 ?_ (by assumption)) | go_size)⟩)
structure Lt (X Z : List Int) (H : List (List Int)) (most band : Int) : Prop where
  c : chk X Z H = 0
  x8 : X.length ≤ 8
  z8 : Z.length ≤ 8
  xm : ix X (X.length - 1) ≤ most
  zm : ix Z (Z.length - 1) ≤ most
  hm : ∀ i, i < X.length → ∀ k, k < Z.length → ix (row H i) k ≤ most
  zb : ∀ k, k + 1 < Z.length → ix Z (k + 1) - ix Z k ≤ band
set_option maxHeartbeats 8000000 in
theorem littleH (X Z : List Int) (H : List (List Int)) (most band : Int) (ax az ah : Option Addr) (cX cZ cH : Nat) (A : Nat → Option Addr) (C : Nat → Nat) (w : World) (hF : Frm w ax az ah A C X Z H) :
    Calls Tryd.prog 5 #[.agg #[.slice ax X.length cX, .slice az Z.length cZ, .slice ah H.length cH], .int .i64 most, .int .i64 band] w fun e w' => ∃ L : Bool, e = .returned (.bool L) ∧ (L = true → Lt X Z H most band) ∧ Below w.heap.size w w' := by
  have HK := Lib.hid (fun x (hb : Below w.heap.size w x) => rcheck_any ax az ah cX cZ cH A C X Z H x (hF.later hb))
  by_cases hc : chk X Z H = 0
  · have hv := chk_fine hc
    have x2 := hv.x2
    have z2 := hv.z2
    have x24 := hv.x24
    have z16 := hv.z16
    have hxl : (X.length : Int) ≤ 24 := by omega
    have hzl : (Z.length : Int) ≤ 16 := by omega
    have e1 : ((X.length : Int) - 1).toNat = X.length - 1 := by omega
    have e2 : (0 : Int) ≤ (X.length : Int) - 1 := by omega
    have e3 : ((X.length : Int) - 1) < (X.length : Int) := by omega
    have i1 : ((Z.length : Int) - 1).toNat = Z.length - 1 := by omega
    have i2 : (0 : Int) ≤ (Z.length : Int) - 1 := by omega
    have i3 : ((Z.length : Int) - 1) < (Z.length : Int) := by omega
    obtain ⟨bX, oX, rfl, hX⟩ := hF.x (by omega)
    obtain ⟨bZ, oZ, rfl, hZ⟩ := hF.z (by omega)
    obtain ⟨bH, oH, rfl, hH⟩ := hF.h (by rw [hv.hl]; omega)
    have HX := Lib.hid (fun x (hb : Below w.heap.size w x) k (hk : k < X.length) => (hX.later hb).cell k hk)
    have HZ := Lib.hid (fun x (hb : Below w.heap.size w x) k (hk : k < Z.length) => (hZ.later hb).cell k hk)
    have HH := Lib.hid (fun x (hb : Below w.heap.size w x) => hH.later hb)
    have HV := Lib.hid hv
    rw [hc] at HK
    have HC := Lib.hid hc
    clear hF hX hZ hH hv hc
    go_enter Tryd.func5, Tryd.ntmps5
    go_wp2_with fail
    ((with_reducible refine (HK.out _ (by (repeat' first | (with_reducible first | exact Bq0 | assumption | refine Bq1 ?_ | refine Bq2 ?_ | refine Bq3 ?_ ?_ | refine Bq4 ?_ (by assumption)) | go_size))).mono ?_); rintro e w0 ⟨rfl, hb0⟩)
    obtain ⟨hc0, hf0⟩ := bcell hb0
    have hz0_w_0 : w.heap.size < w0.heap.size := by have h := hb0.size; (try simp at h); omega
    have M0 : FoM w (.slice (some ⟨bX, oX, none⟩) X.length cX) (.slice (some ⟨bZ, oZ, none⟩) Z.length cZ) (.slice (some ⟨bH, oH, none⟩) H.length cH) w0 := ⟨fun o => by rw [hc0 _ _ (by first | (simp; done) | (simp; omega))]; simp [go_sem], by have := hb0.size; simp at this; omega, by (repeat' first | (with_reducible first | exact Bq0 | assumption | refine Bq1 ?_ | refine Bq2 ?_ | refine Bq3 ?_ ?_ | refine Bq4 ?_ (by assumption)) | go_size)⟩
    have HM0 := Lib.hid M0
    obtain ⟨cM, lM, bM⟩ := M0
    clear hb0 hc0 hf0 HK
    have x1 := HX.out w0 bM (X.length - 1) (by omega)
    have z1 := HZ.out w0 bM (Z.length - 1) (by omega)
    obtain ⟨xl, hxl'⟩ : ∃ u, u = ix X (X.length - 1) := ⟨_, rfl⟩
    obtain ⟨zl, hzl'⟩ : ∃ u, u = ix Z (Z.length - 1) := ⟨_, rfl⟩
    rw [← hxl'] at x1
    rw [← hzl'] at z1
    have HXL := Lib.hid hxl'
    have HZL := Lib.hid hzl'
    clear hxl' hzl'
    by_cases g1 : (8 : Int) < (X.length : Int)
    · go_wp2
      go_returns
      exact ⟨false, rfl, by simp, by (repeat' first | (with_reducible first | exact Bq0 | assumption | refine Bq1 ?_ | refine Bq2 ?_ | refine Bq3 ?_ ?_ | refine Bq4 ?_ (by assumption)) | go_size)⟩
    by_cases g2 : (8 : Int) < (Z.length : Int)
    · go_wp2
      go_returns
      exact ⟨false, rfl, by simp, by (repeat' first | (with_reducible first | exact Bq0 | assumption | refine Bq1 ?_ | refine Bq2 ?_ | refine Bq3 ?_ ?_ | refine Bq4 ?_ (by assumption)) | go_size)⟩
    by_cases g3 : most < xl
    · go_wp2
      go_returns
      exact ⟨false, rfl, by simp, by (repeat' first | (with_reducible first | exact Bq0 | assumption | refine Bq1 ?_ | refine Bq2 ?_ | refine Bq3 ?_ ?_ | refine Bq4 ?_ (by assumption)) | go_size)⟩
    by_cases g4 : most < zl
    · go_wp2
      go_returns
      exact ⟨false, rfl, by simp, by (repeat' first | (with_reducible first | exact Bq0 | assumption | refine Bq1 ?_ | refine Bq2 ?_ | refine Bq3 ?_ ?_ | refine Bq4 ?_ (by assumption)) | go_size)⟩
    have G3 := Lib.hid g3
    have G4 := Lib.hid g4
    go_wp2
    clear x1 z1 cM lM bM
    go_loopg [7] X.length (fun gg v wr => ∃ i : Nat, i ≤ X.length ∧ X.length - i ≤ gg ∧ v = .int .i64 (i : Int) ∧ Hid (∀ r, r < i → ∀ k, k < Z.length → ix (row H r) k ≤ most ∧ (0 < k → ix Z k - ix Z (k - 1) ≤ band)) ∧ Hid (FoM w (.slice (some ⟨bX, oX, none⟩) X.length cX) (.slice (some ⟨bZ, oZ, none⟩) Z.length cZ) (.slice (some ⟨bH, oH, none⟩) H.length cH) wr))
    case atStart => exact ⟨0, by omega, by omega, rfl, Lib.hid (fun r hr => by omega), HM0⟩
    case round =>
      obtain ⟨i, hi, hgi, rfl, HG, HI⟩ := hrel
      by_cases hlt : i < X.length
      · have hiX : (i : Int) < (X.length : Int) := by omega
        have cM := HI.out.c
        have lM := HI.out.l
        have iH : i < H.length := by rw [HV.out.hl]; exact hlt
        have hiH : (i : Int) < (H.length : Int) := by omega
        obtain ⟨wo, rfl⟩ : ∃ x, x = wr := ⟨_, rfl⟩
        go_wp2
        go_loopg [8] Z.length (fun gg v wr => ∃ k : Nat, k ≤ Z.length ∧ Z.length - k ≤ gg ∧ v = .int .i64 (k : Int) ∧ Hid (∀ q, q < k → ix (row H i) q ≤ most ∧ (0 < q → ix Z q - ix Z (q - 1) ≤ band)) ∧ Hid (FoM w (.slice (some ⟨bX, oX, none⟩) X.length cX) (.slice (some ⟨bZ, oZ, none⟩) Z.length cZ) (.slice (some ⟨bH, oH, none⟩) H.length cH) wr))
        case atStart => exact ⟨0, by omega, by omega, rfl, Lib.hid (fun r hr => by omega), HI⟩
        case round =>
          obtain ⟨k, hk, hgk, rfl, HQ, HJ⟩ := hrel
          have cM := HJ.out.c
          have lM := HJ.out.l
          have bM := HJ.out.b
          by_cases hkl : k < Z.length
          · have hkZ : (k : Int) < (Z.length : Int) := by omega
            have hRw := HH.out wr bM
            have rc := hRw.cell i iH
            obtain ⟨bR, oR, eA, hRow⟩ := hRw.row i iH (by rw [HV.out.hr i iH]; omega)
            have hc := hRow.cell k (by rw [HV.out.hr i iH]; exact hkl)
            rw [eA, HV.out.hr i iH] at rc
            have zc := HZ.out wr bM k hkl
            have zc1 := HZ.out wr bM (k - 1) (by omega)
            have zb := HV.out.zr k hkl
            have zb1 := HV.out.zr (k - 1) (by omega)
            have HQn : ∀ u v y : Int, u = ix (row H i) k → v = ix Z k → y = ix Z (k - 1) → u ≤ most → (0 < k → v - y ≤ band) → ∀ q, q < k + 1 → ix (row H i) q ≤ most ∧ (0 < q → ix Z q - ix Z (q - 1) ≤ band) := fun u v y hu hv' hy h1 h2 q hq => by
              subst hu hv' hy
              by_cases e : q = k
              · subst e; exact ⟨h1, h2⟩
              · exact HQ.out q (by omega)
            obtain ⟨h, hh⟩ : ∃ u, u = ix (row H i) k := ⟨_, rfl⟩
            obtain ⟨zk, hzk⟩ : ∃ u, u = ix Z k := ⟨_, rfl⟩
            obtain ⟨zy, hzy⟩ : ∃ u, u = ix Z (k - 1) := ⟨_, rfl⟩
            have HQN := Lib.hid (HQn h zk zy hh hzk hzy)
            rw [← hh] at hc
            rw [← hzk] at zc zb
            rw [← hzy] at zc1 zb1
            clear hh hzk hzy HQn eA HQ HG HX HZ HH HV HC HXL HZL G3 G4 hRw hRow
            have hw : IntKind.i64.wrap (zk - zy) = zk - zy := by rw [IntKind.wrap_i64]; omega
            go_upto_region 9 with (fail)
            by_cases h1 : most < h
            · go_quiet (fail)
              go_wp2
              go_returns
              exact ⟨false, rfl, by simp, below_drewN' bM _⟩
            · by_cases k0 : k = 0
              · have d1 : decide (0 < (k : Int)) = false := by simp [k0]
                have d2 : decide (0 < k) = false := by simp [k0]
                have d3 : ¬ (0 : Int) < (k : Int) := by omega
                have d4 : ¬ 0 < k := by omega
                have K0 := Lib.hid k0
                clear k0
                go_quiet (fail)
                go_wp2
                go_roundg (Z.length - (k + 1))
                case measure => omega
                case rel => exact ⟨k + 1, by omega, by omega, by go_num, Lib.hid (HQN.out (by omega) (fun h => by omega)), Lib.hid (HJ.out.drewN _)⟩
              · have k1 : (0 : Int) < (k : Int) := by omega
                have d2 : 0 < k := by omega
                have d1 : decide (0 < (k : Int)) = true := by simp [d2]
                have d3 : decide (0 < k) = true := by simp [d2]
                clear k0
                have j1 : ((k : Int) - 1).toNat = k - 1 := by omega
                have j2 : (0 : Int) ≤ (k : Int) - 1 := by omega
                have j3 : ((k : Int) - 1) < (Z.length : Int) := by omega
                by_cases h2 : band < zk - zy
                · go_quiet (fail)
                  go_wp2
                  go_returns
                  first | exact Or.inl ⟨rfl, below_drewN' bM _⟩ | exact ⟨false, rfl, by simp, below_drewN' bM _⟩
                · go_quiet (fail)
                  go_wp2
                  go_roundg (Z.length - (k + 1))
                  case measure => omega
                  case rel => exact ⟨k + 1, by omega, by omega, by go_num, Lib.hid (HQN.out (by omega) (fun _ => by omega)), Lib.hid (HJ.out.drewN _)⟩
          · obtain rfl : k = Z.length := by omega
            go_wp2
            go_roundg (X.length - (i + 1))
            case measure => omega
            case rel => exact ⟨i + 1, by omega, by omega, by go_num, Lib.hid (fun r hr q hq => by
              by_cases e : r = i
              · subst e; exact HQ.out q hq
              · exact HG.out r (by omega) q hq), HJ⟩
      · obtain rfl : i = X.length := by omega
        have cM := HI.out.c
        have bM := HI.out.b
        go_wp2
        go_returns
        exact ⟨true, rfl, fun _ => ⟨HC.out, by omega, by omega, by have := G3.out; have := HXL.out; omega, by have := G4.out; have := HZL.out; omega, fun i hi k hk => (HG.out i hi k hk).1, fun k hk => (HG.out 0 (by omega) (k + 1) hk).2 (by omega)⟩, bM⟩
  · go_enter Tryd.func5, Tryd.ntmps5
    go_wp2_with fail
    ((with_reducible refine (HK.out _ (by (repeat' first | (with_reducible first | exact Bq0 | assumption | refine Bq1 ?_ | refine Bq2 ?_ | refine Bq3 ?_ ?_ | refine Bq4 ?_ (by assumption)) | go_size))).mono ?_); rintro e w0 ⟨rfl, hb0⟩)
    obtain ⟨hc0, hf0⟩ := bcell hb0
    have hz0_w_0 : w.heap.size < w0.heap.size := by have h := hb0.size; (try simp at h); omega
    go_wp2
    go_returns
    exact ⟨false, rfl, by simp, by (repeat' first | (with_reducible first | exact Bq0 | assumption | refine Bq1 ?_ | refine Bq2 ?_ | refine Bq3 ?_ ?_ | refine Bq4 ?_ (by assumption)) | go_size)⟩
end Go.Proofs.YthikaimhmpenhaaDoor

namespace Go.Proofs.YthikaimhmpenhaaDoor
set_option linter.all false
open Go Go.RowKit Wd
set_option maxRecDepth 100000
theorem ptsP_pos (X Z : List Int) (H : List (List Int)) (hx : 0 < X.length) (hz : 0 < Z.length) : 0 < (ptsP X Z H 2).length := by
  rw [show (2 : Nat) = 1 + 1 from rfl, ptsP_succ, List.length_append]
  have := sideP_pos X Z H (sg 1) hx hz
  omega
theorem ptsP_int (X Z : List Int) (H : List (List Int)) : ∀ t, ∀ u ∈ ptsP X Z H t, ∃ z, u = .int .i64 z
  | 0 => by rw [ptsP_zero]; simp
  | t + 1 => by
    rw [ptsP_succ]
    intro u hu
    rcases List.mem_append.1 hu with h | h
    · exact ptsP_int X Z H t u h
    · exact sideP_int X Z H _ _ u h
theorem face4_int (n m : Nat) (i k : Int) : ∀ u ∈ face4 n m i k, ∃ z, u = .int .i64 z := by
  unfold face4 iv
  intro u hu
  rw [← List.map_append] at hu
  obtain ⟨z, -, rfl⟩ := List.mem_map.1 hu
  exact ⟨z, rfl⟩
theorem faces_int (n m a b c : Nat) : ∀ u ∈ sidesF n m a ++ flatsF n m b ++ endsF n m c, ∃ z, u = .int .i64 z := by
  intro u hu
  rcases List.mem_append.1 hu with h | h
  · rcases List.mem_append.1 h with h | h
    · unfold sidesF at h
      obtain ⟨i, -, h⟩ := List.mem_flatMap.1 h
      unfold innerF at h
      obtain ⟨k, -, h⟩ := List.mem_flatMap.1 h
      exact face4_int _ _ _ _ u h
    · unfold flatsF at h
      obtain ⟨i, -, h⟩ := List.mem_flatMap.1 h
      unfold flatsF1 at h
      simp at h
      rcases h with h | h | h | h | h | h | h | h | h | h | h | h <;> exact ⟨_, h⟩
  · unfold endsF at h
    obtain ⟨i, -, h⟩ := List.mem_flatMap.1 h
    unfold endsF1 at h
    simp at h
    rcases h with h | h | h | h | h | h | h | h | h | h | h | h <;> exact ⟨_, h⟩
theorem flats_pos (n m : Nat) (hn : 2 ≤ n) : 0 < (flatsF n m (n - 1)).length := by
  obtain ⟨k, hk⟩ : ∃ k, n - 1 = k + 1 := ⟨n - 2, by omega⟩
  rw [hk, flatsF_succ, List.length_append]
  unfold flatsF1
  simp
end Go.Proofs.YthikaimhmpenhaaDoor

namespace Go.Proofs.YthikaimhmpenhaaDoor
set_option linter.all false
open Go Go.RowKit Wd
set_option maxRecDepth 100000
def I64 (a : Int) : Prop := -9223372036854775808 ≤ a ∧ a ≤ 9223372036854775807
end Go.Proofs.YthikaimhmpenhaaDoor

namespace Go.Proofs.YthikaimhmpenhaaDoor
set_option linter.all false
open Go Go.RowKit Wd
set_option maxRecDepth 100000
@[irreducible] def eg (F : Nat → Int) (t : Nat) : Int × Int := (F t, F (3 * (t / 3) + (t % 3 + 1) % 3))
structure Shutd (F : Nat → Int) (n : Nat) : Prop where
  i64 : ∀ t, t < 3 * n → I64 (F t)
  ne : ∀ t, t < 3 * n → (eg F t).1 ≠ (eg F t).2
  once : ∀ s t, s < t → t < 3 * n → eg F s ≠ eg F t
  back : ∀ t, t < 3 * n → ∃ s, s < 3 * n ∧ eg F s = ((eg F t).2, (eg F t).1)
end Go.Proofs.YthikaimhmpenhaaDoor

namespace Go.Proofs.YthikaimhmpenhaaDoor
set_option linter.all false
open Go Go.RowKit Wd
set_option maxRecDepth 100000
theorem eg_at (N M t : Nat) (h : t < 3 * (Sf.faces N M).length) : ∃ x, (Sf.edges N M)[t]? = some x ∧ eg (Sf.cF N M) t = ((Sf.idx N M x.1 : Int), (Sf.idx N M x.2 : Int)) := by
  obtain ⟨x, h1, h2, h3⟩ := Sf.eg_edge N M t h
  refine ⟨x, h1, ?_⟩
  unfold eg
  rw [h2, h3]
theorem edge_mem {N M t : Nat} {x : Sf.Pt × Sf.Pt} (h : (Sf.edges N M)[t]? = some x) : x ∈ Sf.edges N M := List.mem_of_getElem? h
theorem shut_hull (N M : Nat) (hN : 0 < N) (hM : 0 < M) (hN' : N ≤ 23) (hM' : M ≤ 15) : Shutd (Sf.cF N M) (Sf.faces N M).length := by
  have hNM : 2 * ((N + 1) * (M + 1)) ≤ 2 * (24 * 16) := Nat.mul_le_mul_left 2 (Nat.mul_le_mul (by omega) (by omega))
  refine ⟨fun t ht => ?_, fun t ht => ?_, fun s t hst ht => ?_, fun t ht => ?_⟩
  · obtain ⟨x, h1, h2, -⟩ := Sf.eg_edge N M t ht
    have := Sf.idx_lt (Sf.edge_ok N M x (edge_mem h1)).1
    rw [h2]
    unfold I64
    omega
  · obtain ⟨x, h1, h2⟩ := eg_at N M t ht
    rw [h2]
    intro e
    have ok := Sf.edge_ok N M x (edge_mem h1)
    exact Sf.ne_edge N M x (edge_mem h1) (Sf.idx_inj ok.1 ok.2 (by simp only [] at e; omega))
  · obtain ⟨x, h1, h2⟩ := eg_at N M s (by omega)
    obtain ⟨y, h3, h4⟩ := eg_at N M t ht
    rw [h2, h4]
    intro e
    have okx := Sf.edge_ok N M x (edge_mem h1)
    have oky := Sf.edge_ok N M y (edge_mem h3)
    simp only [Prod.mk.injEq] at e
    have e1 := Sf.idx_inj okx.1 oky.1 (by omega)
    have e2 := Sf.idx_inj okx.2 oky.2 (by omega)
    have exy : x = y := Prod.ext e1 e2
    have hl : s < (Sf.edges N M).length := by rw [Sf.edges_len]; omega
    have := (List.getElem?_inj hl (Sf.nodup N M hN hM)).1 (h1.trans (by rw [h3, exy]))
    omega
  · obtain ⟨x, h1, h2⟩ := eg_at N M t ht
    have hb := Sf.back N M hN hM x (edge_mem h1)
    obtain ⟨s, hs⟩ := List.getElem?_of_mem hb
    have hl : s < 3 * (Sf.faces N M).length := by
      rw [← Sf.edges_len]
      exact (List.getElem?_eq_some_iff.1 hs).1
    obtain ⟨y, h3, h4⟩ := eg_at N M s hl
    rw [hs] at h3
    cases h3
    exact ⟨s, hl, by rw [h4, h2]⟩
def vI (N M : Nat) (p : Sf.Pt) : Value := .int .i64 (Sf.idx N M p : Int)
theorem pI_idx (N M i k : Nat) (a b : Int) (ha : a = i) (hb : b = k) : Value.int .i64 (pI (M + 1) a b) = vI N M (0, i, k) := by
  subst ha hb
  unfold pI vI Sf.idx
  simp
theorem sI_idx (N M i k : Nat) (a b : Int) (ha : a = i) (hb : b = k) : Value.int .i64 (sI (N + 1) (M + 1) a b) = vI N M (1, i, k) := by
  subst ha hb
  unfold sI vI Sf.idx
  simp
theorem face4_vals (N M i k : Nat) : face4 (N + 1) (M + 1) (i : Int) (k : Int) = ((Sf.cellS i k).flatMap Sf.cor).map (vI N M) := by
  unfold face4 iv
  simp only [List.map_cons, List.map_nil, List.cons_append, List.nil_append, Sf.cellS, Sf.cor, List.flatMap_cons, List.flatMap_nil, List.append_nil]
  rw [pI_idx N M i k (i : Int) (k : Int) rfl rfl, pI_idx N M (i + 1) (k + 1) ((i : Int) + 1) ((k : Int) + 1) (by simp) (by simp), pI_idx N M (i + 1) k ((i : Int) + 1) (k : Int) (by simp) rfl, pI_idx N M i (k + 1) (i : Int) ((k : Int) + 1) rfl (by simp),
    sI_idx N M i k (i : Int) (k : Int) rfl rfl, sI_idx N M (i + 1) (k + 1) ((i : Int) + 1) ((k : Int) + 1) (by simp) (by simp), sI_idx N M (i + 1) k ((i : Int) + 1) (k : Int) (by simp) rfl, sI_idx N M i (k + 1) (i : Int) ((k : Int) + 1) rfl (by simp)]
theorem flats_vals (N M i : Nat) : flatsF1 (N + 1) (M + 1) i = ((Sf.flatS M i).flatMap Sf.cor).map (vI N M) := by
  unfold flatsF1
  simp only [List.map_cons, List.map_nil, List.cons_append, List.nil_append, Sf.flatS, Sf.cor, List.flatMap_cons, List.flatMap_nil, List.append_nil]
  rw [pI_idx N M i 0 (i : Int) (0 : Int) rfl rfl, pI_idx N M (i + 1) 0 ((i : Int) + 1) (0 : Int) (by simp) rfl, sI_idx N M i 0 (i : Int) (0 : Int) rfl rfl, sI_idx N M (i + 1) 0 ((i : Int) + 1) (0 : Int) (by simp) rfl,
    pI_idx N M i M (i : Int) (((M + 1 : Nat) : Int) - 1) rfl (by simp), pI_idx N M (i + 1) M ((i : Int) + 1) (((M + 1 : Nat) : Int) - 1) (by simp) (by simp), sI_idx N M i M (i : Int) (((M + 1 : Nat) : Int) - 1) rfl (by simp), sI_idx N M (i + 1) M ((i : Int) + 1) (((M + 1 : Nat) : Int) - 1) (by simp) (by simp)]
theorem ends_vals (N M k : Nat) : endsF1 (N + 1) (M + 1) k = ((Sf.endS N k).flatMap Sf.cor).map (vI N M) := by
  unfold endsF1
  simp only [List.map_cons, List.map_nil, List.cons_append, List.nil_append, Sf.endS, Sf.cor, List.flatMap_cons, List.flatMap_nil, List.append_nil]
  rw [pI_idx N M 0 k (0 : Int) (k : Int) rfl rfl, pI_idx N M 0 (k + 1) (0 : Int) ((k : Int) + 1) rfl (by simp), sI_idx N M 0 k (0 : Int) (k : Int) rfl rfl, sI_idx N M 0 (k + 1) (0 : Int) ((k : Int) + 1) rfl (by simp),
    pI_idx N M N k (((N + 1 : Nat) : Int) - 1) (k : Int) (by simp) rfl, pI_idx N M N (k + 1) (((N + 1 : Nat) : Int) - 1) ((k : Int) + 1) (by simp) (by simp), sI_idx N M N k (((N + 1 : Nat) : Int) - 1) (k : Int) (by simp) rfl, sI_idx N M N (k + 1) (((N + 1 : Nat) : Int) - 1) ((k : Int) + 1) (by simp) (by simp)]
theorem faces_vals (N M : Nat) : sidesF (N + 1) (M + 1) N ++ flatsF (N + 1) (M + 1) N ++ endsF (N + 1) (M + 1) M = (Sf.corners N M).map (vI N M) := by
  unfold Sf.corners Sf.faces
  simp only [List.flatMap_append, List.map_append, List.flatMap_assoc, List.map_flatMap]
  have e1 : ∀ i k, (Sf.cellS i k).flatMap (fun b => (Sf.cor b).map (vI N M)) = face4 (N + 1) (M + 1) (i : Int) (k : Int) := fun i k => by rw [face4_vals, List.map_flatMap]
  have e2 : ∀ i, (Sf.flatS M i).flatMap (fun b => (Sf.cor b).map (vI N M)) = flatsF1 (N + 1) (M + 1) i := fun i => by rw [flats_vals, List.map_flatMap]
  have e3 : ∀ k, (Sf.endS N k).flatMap (fun b => (Sf.cor b).map (vI N M)) = endsF1 (N + 1) (M + 1) k := fun k => by rw [ends_vals, List.map_flatMap]
  simp only [e1, e2, e3]
  unfold sidesF innerF flatsF endsF
  rfl
theorem faces_get (N M j : Nat) (h : j < 3 * (Sf.faces N M).length) : intOf (((Sf.corners N M).map (vI N M)).getD j (.int .i64 0)) = Sf.cF N M j := by
  have hl : j < (Sf.corners N M).length := by rw [Sf.corners_len]; exact h
  unfold Sf.cF
  rw [List.getD_eq_getElem?_getD, List.getElem?_map, List.getElem?_eq_getElem hl]
  simp [vI, intOf]
theorem get_range {α : Type} (u : Nat → List α) (c : Nat) (hu : ∀ i, (u i).length = c) : ∀ (n i r : Nat) (_ : i < n) (_ : r < c), ((List.range n).flatMap u)[i * c + r]? = (u i)[r]?
  | 0, i, r, hi, hr => absurd hi (by omega)
  | n + 1, i, r, hi, hr => by
    rw [List.range_succ, List.flatMap_append]
    have hl := Sf.len_flat u c hu n
    by_cases h : i < n
    · have h1 := Nat.mul_le_mul_right c (by omega : i + 1 ≤ n)
      rw [Nat.add_mul] at h1
      have h2 := Nat.mul_comm n c
      rw [List.getElem?_append_left (by rw [hl]; omega)]
      exact get_range u c hu n i r h hr
    · obtain rfl : i = n := by omega
      have h2 := Nat.mul_comm i c
      rw [List.getElem?_append_right (by rw [hl]; omega), hl, h2, Nat.add_sub_cancel_left]
      simp
theorem rowP_len' (X Z : List Int) (H : List (List Int)) (s : Int) (i k : Nat) : (rowP X Z H s i k).length = k * 3 := by
  unfold rowP
  rw [Sf.len_flat _ 3 (fun j => rfl), Nat.mul_comm]
theorem sideP_len' (X Z : List Int) (H : List (List Int)) (s : Int) (i : Nat) : (sideP X Z H s i).length = Z.length * 3 * i := by
  unfold sideP
  rw [Sf.len_flat _ (Z.length * 3) (fun j => rowP_len' X Z H s j _)]
theorem pts_get (X Z : List Int) (H : List (List Int)) (N M : Nat) (hX : X.length = N + 1) (hZ : Z.length = M + 1) (s i k c : Nat) (hs : s < 2) (hi : i ≤ N) (hk : k ≤ M) (hc : c < 3) :
    (ptsP X Z H 2)[Sf.idx N M (s, i, k) * 3 + c]? = (vec3 (ix X i) (sg s * ix (row H i) k) (ix Z k))[c]? := by
  have e : Sf.idx N M (s, i, k) * 3 + c = s * (Z.length * 3 * X.length) + (i * (Z.length * 3) + (k * 3 + c)) := by
    unfold Sf.idx
    simp only []
    rw [hX, hZ, Nat.add_mul, Nat.add_mul, Nat.mul_assoc i, show s * ((N + 1) * (M + 1)) * 3 = s * ((M + 1) * 3 * (N + 1)) by rw [Nat.mul_assoc, Nat.mul_comm (N + 1) (M + 1), Nat.mul_assoc, Nat.mul_comm (N + 1) 3, Nat.mul_assoc]]
    omega
  have h1 : k * 3 + c < Z.length * 3 := by omega
  have h2 : i * (Z.length * 3) + (k * 3 + c) < Z.length * 3 * X.length := by
    have := Nat.mul_le_mul_right (Z.length * 3) (by omega : i + 1 ≤ X.length)
    rw [Nat.add_mul, Nat.one_mul] at this
    rw [Nat.mul_comm (Z.length * 3) X.length]
    omega
  rw [e]
  unfold ptsP
  rw [get_range _ (Z.length * 3 * X.length) (fun j => sideP_len' X Z H (sg j) X.length) 2 s _ hs h2]
  unfold sideP
  rw [get_range _ (Z.length * 3) (fun j => rowP_len' X Z H (sg s) j _) X.length i _ (by omega) h1]
  unfold rowP
  rw [get_range _ 3 (fun j => rfl) Z.length k c (by omega) hc]
end Go.Proofs.YthikaimhmpenhaaDoor

namespace Go.Proofs.YthikaimhmpenhaaDoor
set_option linter.all false
open Go Go.RowKit Wd
set_option maxRecDepth 100000
@[irreducible] def det3 (a b c p q r x y z : Int) : Int := a * (q * z - r * y) + b * (r * x - p * z) + c * (p * y - q * x)
end Go.Proofs.YthikaimhmpenhaaDoor

namespace Go.Proofs.YthikaimhmpenhaaDoor
set_option linter.all false
open Go Go.RowKit Wd
set_option maxRecDepth 100000
@[irreducible] def ps (A B : Nat → Int) (n : Nat) : Int := Sf.sr (fun j => A j * B j) n
theorem ps_zero (A B : Nat → Int) : ps A B 0 = 0 := by unfold ps; rfl
theorem ps_succ (A B : Nat → Int) (n : Nat) : ps A B (n + 1) = ps A B n + A n * B n := by unfold ps; rfl
theorem abs_mul_le {a b m k : Int} (ha : -m ≤ a ∧ a ≤ m) (hb : -k ≤ b ∧ b ≤ k) (_hm : 0 ≤ m) (_hk : 0 ≤ k) : -(m * k) ≤ a * b ∧ a * b ≤ m * k := by
  have h : (a * b).natAbs ≤ m.natAbs * k.natAbs := by
    rw [Int.natAbs_mul]
    exact Nat.mul_le_mul (by omega) (by omega)
  have h2 : ((m * k).natAbs : Int) = m * k := Int.natAbs_of_nonneg (Int.mul_nonneg _hm _hk)
  rw [Int.natAbs_mul] at h2
  omega
end Go.Proofs.YthikaimhmpenhaaDoor

namespace Go.Proofs.YthikaimhmpenhaaDoor
set_option linter.all false
open Go Go.RowKit Wd
set_option maxRecDepth 100000
@[irreducible] def detF (P F : Nat → Int) (j : Nat) : Int := det3 (P ((F (j * 3)).toNat * 3)) (P ((F (j * 3)).toNat * 3 + 1)) (P ((F (j * 3)).toNat * 3 + 2)) (P ((F (j * 3 + 1)).toNat * 3)) (P ((F (j * 3 + 1)).toNat * 3 + 1)) (P ((F (j * 3 + 1)).toNat * 3 + 2)) (P ((F (j * 3 + 2)).toNat * 3)) (P ((F (j * 3 + 2)).toNat * 3 + 1)) (P ((F (j * 3 + 2)).toNat * 3 + 2))
end Go.Proofs.YthikaimhmpenhaaDoor

namespace Go.Proofs.YthikaimhmpenhaaDoor
set_option linter.all false
open Go Go.RowKit Wd
set_option maxRecDepth 100000
@[irreducible] def sumF (P F : Nat → Int) (q j : Nat) : Int := P ((F (j * 3)).toNat * 3 + q) + P ((F (j * 3 + 1)).toNat * 3 + q) + P ((F (j * 3 + 2)).toNat * 3 + q)
theorem sumF_eq (P F : Nat → Int) (q j : Nat) : sumF P F q j = P ((F (j * 3)).toNat * 3 + q) + P ((F (j * 3 + 1)).toNat * 3 + q) + P ((F (j * 3 + 2)).toNat * 3 + q) := by unfold sumF; rfl
end Go.Proofs.YthikaimhmpenhaaDoor

namespace Go.Proofs.YthikaimhmpenhaaDoor
set_option linter.all false
open Go Go.RowKit Wd
set_option maxRecDepth 100000
theorem chk_some {X Z : List Int} {H : List (List Int)} (h : chk X Z H = 0) : ∃ i k, i < X.length ∧ k < Z.length ∧ 0 < ix (row H i) k := by
  have hv := chk_fine h
  have hn : rowsNil H H.length ≠ true := by
    intro hn
    unfold chk at h
    split at h
    · omega
    split at h
    · omega
    split at h
    · omega
    split at h
    · omega
    split at h
    · omega
    split at h
    · omega
    omega
  have hn2 : rowsNil H H.length = false := by simpa using hn
  unfold rowsNil at hn2
  rw [List.take_length, List.all_eq_false] at hn2
  obtain ⟨l, hl, h0⟩ := hn2
  unfold nil0 at h0
  have h1 : l.all (fun x => decide (x = 0)) = false := by simpa using h0
  rw [List.all_eq_false] at h1
  obtain ⟨x, hx, hx0⟩ := h1
  obtain ⟨i, hi, rfl⟩ := List.mem_iff_getElem.1 hl
  obtain ⟨k, hk, rfl⟩ := List.mem_iff_getElem.1 hx
  have hk2 : k < Z.length := by rw [← hv.hr i hi, row_get hi]; exact hk
  refine ⟨i, k, by rw [← hv.hl]; exact hi, hk2, ?_⟩
  have hb := hv.hv i hi k hk2
  have e : ix (row H i) k = H[i][k] := by rw [row_get hi, ix_get hk]
  rw [e] at hb ⊢
  have : H[i][k] ≠ 0 := by simpa using hx0
  omega
@[irreducible] def pP (X Z : List Int) (H : List (List Int)) (j : Nat) : Int := intOf ((ptsP X Z H 2).getD j (.int .i64 0))
theorem pP_0 (X Z : List Int) (H : List (List Int)) (N M : Nat) (hX : X.length = N + 1) (hZ : Z.length = M + 1) (p : Sf.Pt) (hp : Sf.Okp N M p) : pP X Z H (Sf.idx N M p * 3) = ix X p.2.1 := by
  have := pts_get X Z H N M hX hZ p.1 p.2.1 p.2.2 0 hp.1 hp.2.1 hp.2.2 (by omega)
  unfold pP
  rw [List.getD_eq_getElem?_getD, show Sf.idx N M p * 3 = Sf.idx N M (p.1, p.2.1, p.2.2) * 3 + 0 from rfl, this]
  simp [vec3, intOf]
theorem pP_1 (X Z : List Int) (H : List (List Int)) (N M : Nat) (hX : X.length = N + 1) (hZ : Z.length = M + 1) (p : Sf.Pt) (hp : Sf.Okp N M p) : pP X Z H (Sf.idx N M p * 3 + 1) = Sf.py (fun i k => ix (row H i) k) p := by
  have := pts_get X Z H N M hX hZ p.1 p.2.1 p.2.2 1 hp.1 hp.2.1 hp.2.2 (by omega)
  unfold pP Sf.py
  rw [List.getD_eq_getElem?_getD, show Sf.idx N M p * 3 + 1 = Sf.idx N M (p.1, p.2.1, p.2.2) * 3 + 1 from rfl, this]
  unfold sg
  split <;> simp [vec3, intOf]
theorem pP_2 (X Z : List Int) (H : List (List Int)) (N M : Nat) (hX : X.length = N + 1) (hZ : Z.length = M + 1) (p : Sf.Pt) (hp : Sf.Okp N M p) : pP X Z H (Sf.idx N M p * 3 + 2) = ix Z p.2.2 := by
  have := pts_get X Z H N M hX hZ p.1 p.2.1 p.2.2 2 hp.1 hp.2.1 hp.2.2 (by omega)
  unfold pP
  rw [List.getD_eq_getElem?_getD, show Sf.idx N M p * 3 + 2 = Sf.idx N M (p.1, p.2.1, p.2.2) * 3 + 2 from rfl, this]
  simp [vec3, intOf]
theorem ptsP_len (X Z : List Int) (H : List (List Int)) : (ptsP X Z H 2).length = 2 * (X.length * Z.length) * 3 := by
  unfold ptsP
  rw [Sf.len_flat _ (Z.length * 3 * X.length) (fun j => sideP_len' X Z H (sg j) X.length), Nat.mul_comm Z.length 3, Nat.mul_assoc 3, Nat.mul_comm Z.length X.length]
  omega
theorem pP_abs {X Z : List Int} {H : List (List Int)} (hv : Fine X Z H) (j : Nat) (_hj : j < 2 * (X.length * Z.length) * 3) : -32768 ≤ pP X Z H j ∧ pP X Z H j ≤ 32768 := by
  have key : ∀ u ∈ ptsP X Z H 2, -32768 ≤ intOf u ∧ intOf u ≤ 32768 := by
    intro u hu
    unfold ptsP at hu
    obtain ⟨s, -, hu⟩ := List.mem_flatMap.1 hu
    unfold sideP at hu
    obtain ⟨i, hi, hu⟩ := List.mem_flatMap.1 hu
    unfold rowP at hu
    obtain ⟨k, hk, hu⟩ := List.mem_flatMap.1 hu
    rw [List.mem_range] at hi hk
    have h1 := hv.xr i hi
    have h2 := hv.zr k hk
    have h3 := hv.hv i (by rw [hv.hl]; exact hi) k hk
    have h4 := sg_bounds s
    unfold vec3 at hu
    simp only [List.mem_cons, List.not_mem_nil, or_false] at hu
    rcases hu with rfl | rfl | rfl <;> simp only [intOf]
    · omega
    · have := abs_mul_le (a := sg s) (b := ix (row H i) k) (m := 1) (k := 4096) (by omega) (by omega) (by omega) (by omega)
      omega
    · omega
  unfold pP
  rw [List.getD_eq_getElem?_getD]
  by_cases h : j < (ptsP X Z H 2).length
  · rw [List.getElem?_eq_getElem h]
    exact key _ (List.getElem_mem h)
  · rw [List.getElem?_eq_none (by omega)]
    simp [intOf]
theorem ps_su (A B : Nat → Int) (g : Sf.Fc → Int) (l : List Sf.Fc) (h : ∀ j (hj : j < l.length), A j * B j = g l[j]) : ps A B l.length = Sf.su g l := by
  have key : ∀ k, k ≤ l.length → ps A B k = Sf.su g (l.take k) := by
    intro k
    induction k with
    | zero => intro _; rw [ps_zero]; rfl
    | succ k ih =>
      intro hk
      rw [ps_succ, Sf.su_take g l k (by omega), ih (by omega), h k (by omega)]
  rw [key _ (Nat.le_refl _), List.take_length]
structure Surf (X Z : List Int) (H : List (List Int)) (np nf : Nat) (P F : Nat → Int) : Prop where
  hp : np ≤ 1024
  hf : nf ≤ 2048
  inn : ∀ j, j < nf * 3 → 0 ≤ F j ∧ F j < np
  abs : ∀ j, j < np * 3 → -32768 ≤ P j ∧ P j ≤ 32768
  shut : Shutd F nf
  vol : 0 < ps (detF P F) (fun _ => 1) nf
  mid : ps (detF P F) (sumF P F 1) nf = 0
  box : ∀ b, (∀ i k, i < X.length → k < Z.length → ix (row H i) k = b) → ps (detF P F) (fun _ => 1) nf = 12 * b * ((ix X (X.length - 1) - ix X 0) * ix Z (Z.length - 1))
theorem surf_of {X Z : List Int} {H : List (List Int)} (h : chk X Z H = 0) : Surf X Z H (2 * (X.length * Z.length)) (4 * (Z.length - 1) * (X.length - 1) + 4 * (X.length - 1) + 4 * (Z.length - 1)) (pP X Z H) (Sf.cF (X.length - 1) (Z.length - 1)) := by
  have hv := chk_fine h
  obtain ⟨N, hN⟩ : ∃ N, X.length = N + 1 := ⟨X.length - 1, by have := hv.x2; omega⟩
  obtain ⟨M, hM⟩ : ∃ M, Z.length = M + 1 := ⟨Z.length - 1, by have := hv.z2; omega⟩
  have hN1 : 0 < N := by have := hv.x2; omega
  have hM1 : 0 < M := by have := hv.z2; omega
  have hN2 : N ≤ 23 := by have := hv.x24; omega
  have hM2 : M ≤ 15 := by have := hv.z16; omega
  have habs := fun j hj => pP_abs hv j hj
  have eX : X.length - 1 = N := by omega
  have eZ : Z.length - 1 = M := by omega
  rw [eX, eZ, ← Sf.faces_len N M]
  rw [hN, hM] at habs
  have hmul : (N + 1) * (M + 1) ≤ 24 * 16 := Nat.mul_le_mul (by omega) (by omega)
  have hmul2 : M * N ≤ 15 * 23 := Nat.mul_le_mul (by omega) (by omega)
  have hinn : ∀ j, j < (Sf.faces N M).length * 3 → 0 ≤ Sf.cF N M j ∧ Sf.cF N M j < ((2 * ((N + 1) * (M + 1)) : Nat) : Int) := by
    intro j hj
    obtain ⟨x, h1, h2, -⟩ := Sf.eg_edge N M j (by omega)
    have := Sf.idx_lt (Sf.edge_ok N M x (edge_mem h1)).1
    rw [h2]
    omega
  have hdet : ∀ j (hj : j < (Sf.faces N M).length), detF (pP X Z H) (Sf.cF N M) j = Sf.fdet (ix X) (ix Z) (fun i k => ix (row H i) k) (Sf.faces N M)[j] := by
    intro j hj
    have ok := Sf.face_ok (List.getElem_mem hj)
    unfold detF
    rw [Nat.mul_comm j 3, Sf.cF_0 N M j hj, Sf.cF_1 N M j hj, Sf.cF_2 N M j hj]
    simp only [Int.toNat_natCast]
    rw [pP_0 X Z H N M hN hM _ ok.1, pP_1 X Z H N M hN hM _ ok.1, pP_2 X Z H N M hN hM _ ok.1, pP_0 X Z H N M hN hM _ ok.2.1, pP_1 X Z H N M hN hM _ ok.2.1, pP_2 X Z H N M hN hM _ ok.2.1, pP_0 X Z H N M hN hM _ ok.2.2, pP_1 X Z H N M hN hM _ ok.2.2, pP_2 X Z H N M hN hM _ ok.2.2]
    unfold Sf.fdet det3 Sf.det3
    rfl
  have hsum : ∀ j (hj : j < (Sf.faces N M).length), sumF (pP X Z H) (Sf.cF N M) 1 j = Sf.fy (fun i k => ix (row H i) k) (Sf.faces N M)[j] := by
    intro j hj
    have ok := Sf.face_ok (List.getElem_mem hj)
    rw [sumF_eq, Nat.mul_comm j 3, Sf.cF_0 N M j hj, Sf.cF_1 N M j hj, Sf.cF_2 N M j hj]
    simp only [Int.toNat_natCast]
    rw [pP_1 X Z H N M hN hM _ ok.1, pP_1 X Z H N M hN hM _ ok.2.1, pP_1 X Z H N M hN hM _ ok.2.2]
    rfl
  have hvol := ps_su (detF (pP X Z H) (Sf.cF N M)) (fun _ => 1) (Sf.fdet (ix X) (ix Z) (fun i k => ix (row H i) k)) (Sf.faces N M) (fun j hj => by rw [hdet j hj]; omega)
  refine ⟨by rw [hN, hM]; omega, by rw [Sf.faces_len, Nat.mul_assoc]; omega, by rw [hN, hM]; exact hinn, by rw [hN, hM]; exact habs, shut_hull N M hN1 hM1 hN2 hM2, ?_, ?_, ?_⟩
  · rw [hvol]
    obtain ⟨i, k, hi, hk, hp⟩ := chk_some h
    exact Sf.vol_pos _ _ _ N M (fun i hi => hv.xa i (by omega)) (fun k hk => hv.za k (by omega)) (fun i k hi hk => (hv.hv i (by rw [hv.hl]; omega) k (by omega)).1) hN1 hM1 i k (by omega) (by omega) hp
  · rw [ps_su _ _ (fun f => Sf.fdet (ix X) (ix Z) (fun i k => ix (row H i) k) f * Sf.fy (fun i k => ix (row H i) k) f) (Sf.faces N M) (fun j hj => by rw [hdet j hj, hsum j hj])]
    exact Sf.mid _ _ _ N M
  · intro b hb
    rw [hvol, Sf.vol_box _ _ b N M _ (fun i k hi hk => hb i k (by omega) (by omega)), hv.z0, Int.sub_zero, eX, eZ]
end Go.Proofs.YthikaimhmpenhaaDoor

namespace Go.Proofs.YthikaimhmpenhaaDoor
set_option linter.all false
open Go Go.RowKit Wd
set_option maxRecDepth 100000
end Go.Proofs.YthikaimhmpenhaaDoor
