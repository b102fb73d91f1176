/-
  What package hull's Outline returns, for all forms. (Written by wip/gen_out.py.)
-/
import Derived.Test.YtfmmnnodihpgmaaDoorOutA
namespace Go.Proofs.YtfmmnnodihpgmaaDoor
set_option linter.all false
open Go Go.RowKit Wd
set_option maxRecDepth 100000
theorem rc_cells (n d : Int) : rc n d = [.bool (zs (rn n d)), .int .u64 (wd (Int.natAbs (rn n d)) 0), .int .u64 (wd (Int.natAbs (rn n d)) 1), .int .u64 (wd (Int.natAbs (rn n d)) 2), .int .u64 (wd (Int.natAbs (rn n d)) 3), .bool (zs (rd n d)), .int .u64 (wd (Int.natAbs (rd n d)) 0), .int .u64 (wd (Int.natAbs (rd n d)) 1), .int .u64 (wd (Int.natAbs (rd n d)) 2), .int .u64 (wd (Int.natAbs (rd n d)) 3)] := by unfold rc; rfl
set_option maxHeartbeats 8000000 in
/-- Outline: the corners. -/
theorem Outline_ok (ax az ah : Option Addr) (cx cz ch : Nat) (A : Nat → Option Addr) (C : Nat → Nat) (X Z : List Int) (H : List (List Int)) (z : Int) (hs : rgt X Z H z = 0) (w : World) (hf : Frm w ax az ah A C X Z H) (hT : Tab64 w) :
    Calls Tryd.prog 17 #[.agg #[.slice ax X.length cx, .slice az Z.length cz, .slice ah H.length ch], .int .i64 z] w fun e w' => ∃ xv yv nx ny, e = .returned (.tuple #[xv, yv, .int .i64 0]) ∧ Below w.heap.size w w' ∧ w'.ownsRow w.heap.size 35 10 xv nx (olX X Z z (bandN Z z (Z.length - 1)) X.length) ∧ w'.ownsRow w.heap.size 35 10 yv ny (olY X Z H z (bandN Z z (Z.length - 1)) X.length) := by
  have K1 := fun W hF => right_any ax az ah cx cz ch A C X Z H z W hF
  rw [hs] at K1
  have K := Lib.hid K1
  obtain ⟨h3, h4, h5⟩ := rgt_fine hs
  have hv := chk_fine h3
  have B := Lib.hid (fun W hF => band_any ax az ah cx cz ch A C X Z H z hv h4 W hF)
  have HA0 := Lib.hid (fun (i : Nat) (hi : i < X.length) W hF hT => half_any ax az ah cx cz ch A C X Z H i z hv hi h4 h5 W hF hT)
  have x2 := hv.x2
  have z2 := hv.z2
  have x24 := hv.x24
  have z16 := hv.z16
  have hl := hv.hl
  have k1 := bandN_le Z z (Z.length - 1)
  have k2 := bandN_low Z z (by rw [hv.z0]; exact h4) (Z.length - 1)
  have k3 := bandN_high Z z (Z.length - 1)
  generalize bandN Z z (Z.length - 1) = k at *
  have hkz : k < Z.length := by omega
  have k4 := Lib.hid (show ix Z k ≠ z → k + 1 < Z.length ∧ z < ix Z (k + 1) from fun he => by
    have hk1 : k + 1 < Z.length := by
      rcases Nat.lt_or_ge (k + 1) Z.length with h | h
      · exact h
      · have : k = Z.length - 1 := by omega
        subst this; omega
    exact ⟨hk1, k3 (k + 1) (by omega) (by omega)⟩)
  obtain ⟨bx, ox, rfl, hxi⟩ := hf.x (by omega)
  obtain ⟨bz, oz, rfl, hzi⟩ := hf.z (by omega)
  obtain ⟨bh, oh, rfl, hri⟩ := hf.h (by omega)
  have lx := hxi.lt
  have lz := hzi.lt
  have lh := hri.lt
  have HF := Lib.hid hf
  have HT := Lib.hid hT
  have HV := Lib.hid hv
  have HX := Lib.hid hxi
  have HZ := Lib.hid hzi
  have HR := Lib.hid hri
  have HL := Lib.hid hl
  have K2 := Lib.hid k2
  have HML := Lib.hid (show ∀ q : Nat, q ≤ 1000 → q + 1 ≤ maxLen from fun q hq => by unfold maxLen; omega)
  obtain ⟨i0, hinf, hz0, hz1, hz2⟩ := info_parts infoR
  clear K1 hs h3 h5 hv hf hT hxi hzi hri hl k1 k2 k3
  go_enter Tryd.func17, Tryd.ntmps17
  go_wp2_with fail
  ((with_reducible refine (K.out _ (HF.out.later (by (repeat' (first | (with_reducible exact Below.refl _ _) | (with_reducible assumption) | (with_reducible refine below_alloc ?_ _) | (with_reducible refine Below.drew ?_) | (with_reducible refine Below.setCell ?_ ?_ _) | (with_reducible refine below_after ?_ (by assumption)) | go_size))))).mono ?_); rintro e w1 ⟨rfl, hb1⟩)
  obtain ⟨hc1, hf1⟩ := bcell hb1
  have hz1_w_0 : w.heap.size < w1.heap.size := by have h := hb1.size; (try simp at h); omega
  go_wp2_with fail
  ((with_reducible refine (B.out _ (HF.out.later (by (repeat' (first | (with_reducible exact Below.refl _ _) | (with_reducible assumption) | (with_reducible refine below_alloc ?_ _) | (with_reducible refine Below.drew ?_) | (with_reducible refine Below.setCell ?_ ?_ _) | (with_reducible refine below_after ?_ (by assumption)) | go_size))))).mono ?_); rintro e w2 ⟨rfl, hb2⟩)
  obtain ⟨hc2, hf2⟩ := bcell hb2
  have hz2_w_0 : w.heap.size < w2.heap.size := by have h := hb2.size; (try simp at h); omega
  go_upto_region 5 with (fail)
  refine wp_world (fun x => (∀ o, x.cell? ⟨w.heap.size, o, none⟩ = (#[.slice (some ⟨bx, ox, none⟩) X.length cx, .slice (some ⟨bz, oz, none⟩) Z.length cz, .slice (some ⟨bh, oh, none⟩) H.length ch] : Array Value)[o]?) ∧ (∀ o, x.frozen? ⟨w.heap.size, o, none⟩ = false) ∧ w.heap.size < x.heap.size ∧ Below w.heap.size w x) ⟨fun o => by simp [go_sem, hc1, hf1, hz1_w_0, hc2, hf2, hz2_w_0], fun o => by simp [go_sem, hc1, hf1, hz1_w_0, hc2, hf2, hz2_w_0], by (first | omega | (simp [go_sem, hc1, hf1, hz1_w_0, hc2, hf2, hz2_w_0]; done) | (simp [go_sem, hc1, hf1, hz1_w_0, hc2, hf2, hz2_w_0]; omega)), by (repeat' (first | (with_reducible exact Below.refl _ _) | (with_reducible assumption) | (with_reducible refine below_alloc ?_ _) | (with_reducible refine Below.drew ?_) | (with_reducible refine Below.setCell ?_ ?_ _) | (with_reducible refine below_after ?_ (by assumption)) | go_size))⟩ ?_
  rintro G ⟨hGc0, hGf0, hGz0, hGb⟩
  clear hb1 hc1 hf1 hb2 hc2 hf2
  have HFG := Lib.hid (HF.out.later hGb)
  have HTG := Lib.hid (HT.out.later hGb)
  have gx := keep_lt hGb lx
  have gz := keep_lt hGb lz
  have gh := keep_lt hGb lh
  have hGw := hGb.size
  have hFm := Lib.hid (show ∀ x : World, Below G.heap.size G x → (∀ o, x.cell? ⟨w.heap.size, o, none⟩ = (#[.slice (some ⟨bx, ox, none⟩) X.length cx, .slice (some ⟨bz, oz, none⟩) Z.length cz, .slice (some ⟨bh, oh, none⟩) H.length ch] : Array Value)[o]?) ∧ w.heap.size < x.heap.size from fun x hb => ⟨fun o => (hb.cell (p := ⟨w.heap.size, o, none⟩) hGz0).trans (hGc0 o), Nat.lt_of_lt_of_le hGz0 hb.size⟩)
  have D0 := Lib.hid (show Two G.heap.size G G (.slice none 0 0) (.slice none 0 0) 0 0 [] [] from ⟨World.ownsRow_nil _ _ _ _, World.ownsRow_nil _ _ _ _, by simp [Value.ownBlock], Below.refl _ _, Nat.le_refl _⟩)
  go_wp2
  go_loopg [4, 5, 22] X.length (fun gg xv yv v wr => ∃ i : Nat, i ≤ X.length ∧ X.length - i ≤ gg ∧ v = .int .i64 (i : Int) ∧ ∃ nx ny, nx ≤ 2 * i ∧ ny ≤ 2 * i ∧ Hid (Two G.heap.size G wr xv yv nx ny (olX X Z z k i) (olY X Z H z k i)))
  case atStart => exact ⟨0, by omega, by omega, rfl, 0, 0, by omega, by omega, Lib.hid (by rw [olX_zero, olY_zero]; exact D0.out)⟩
  case round =>
    obtain ⟨i, hi, hgi, rfl, nx, ny, hnx, hny, HT2⟩ := hrel
    by_cases hlt : i < X.length
    · have f1 := (hFm.out wr HT2.out.below).1
      have f1z := (hFm.out wr HT2.out.below).2
      have hbase := HT2.out.base
      have hbl := HT2.out.below
      have xb := HV.out.xr i hlt
      have HA := Lib.hid (HA0.out i hlt)
      have xc := HX.out.cell i hlt
      have hiX : (i : Int) < (X.length : Int) := by omega
      obtain ⟨xi, hxi⟩ : ∃ xi, xi = ix X i := ⟨_, rfl⟩
      rw [← hxi] at xb xc
      have HXI := Lib.hid hxi
      clear hxi
      have O1 := Lib.hid (fun w hT => hof_any xi 1 (by omega) (by omega) (by omega) (by omega) w hT)
      have hS1 := Lib.hid (show ∀ x : World, Below G.heap.size G x → (∀ o, x.cell? ⟨w.heap.size, o, none⟩ = (#[.slice (some ⟨bx, ox, none⟩) X.length cx, .slice (some ⟨bz, oz, none⟩) Z.length cz, .slice (some ⟨bh, oh, none⟩) H.length ch] : Array Value)[o]?) ∧ x.cell? ⟨bx, ox + i, none⟩ = some (.int .i64 xi) ∧ w.heap.size < x.heap.size ∧ bx < x.heap.size from
        fun x hb => ⟨(hFm.out x hb).1, (hb.cell (p := ⟨bx, ox + i, none⟩) gx).trans ((hGb.cell (p := ⟨bx, ox + i, none⟩) lx).trans xc), (hFm.out x hb).2, Nat.lt_of_lt_of_le gx hb.size⟩)
      obtain ⟨x1, hx1⟩ : ∃ x1, x1 = rn xi 1 := ⟨_, rfl⟩
      obtain ⟨y1, hy1⟩ : ∃ y1, y1 = rd xi 1 := ⟨_, rfl⟩
      obtain ⟨x2', hx2⟩ : ∃ x2', x2' = rn (hfN Z (row H i) z k) (hfD Z z k) := ⟨_, rfl⟩
      obtain ⟨y2, hy2⟩ : ∃ y2, y2 = rd (hfN Z (row H i) z k) (hfD Z z k) := ⟨_, rfl⟩
      rw [← hx1, ← hy1] at O1
      rw [← hx2, ← hy2] at HA
      have E1 := Lib.hid (And.intro hx1 hy1)
      have E2 := Lib.hid (And.intro hx2 hy2)
      clear hx1 hy1 hx2 hy2
      go_upto_region 8 with (fail)
      (go_region_held3 (fun x => (∀ o, x.cell? ⟨w.heap.size, o, none⟩ = (#[.slice (some ⟨bx, ox, none⟩) X.length cx, .slice (some ⟨bz, oz, none⟩) Z.length cz, .slice (some ⟨bh, oh, none⟩) H.length ch] : Array Value)[o]?) ∧ x.cell? ⟨bx, ox + i, none⟩ = some (.int .i64 xi) ∧ w.heap.size < x.heap.size ∧ bx < x.heap.size) ((refine hS1.out _ ?_; (repeat (first | (with_reducible assumption) | (with_reducible exact Below.refl _ _) | (with_reducible refine Below.drew ?_) | ((with_reducible refine below_alloc' ?_ ?_ _); (focus (first | omega | (simp; omega)))))))) ((first | (go_at_call 45; (with_reducible refine (O1.out _ (HTG.out.later (by (repeat (first | (with_reducible assumption) | (with_reducible exact Below.refl _ _) | (with_reducible refine Below.drew ?_) | ((with_reducible refine below_alloc' ?_ ?_ _); (focus (first | omega | (simp; omega))))))))).mono ?_); rintro e o1 ⟨rfl, hbo1⟩; have HD1 := Lib.hid ((HT2.out.drew).later hbo1); have hT1 : Below G.heap.size G o1 := HD1.out.below; have hT1b := HD1.out.base) | ((refine step_append_lies _ (by rfl) _ _ _ (by rfl) G.heap.size 35 i0 _ 10 80 Tryd.underlying39 hinf hz0 hz1 hz2 rfl (by decide) (u4) (nx) (olX X Z z k i) (by rfl) ((HD1.out.alloc _).x) ⟨o1.heap.size, 0, none⟩ 1 1 [.bool (zs (x1)), .int .u64 (wd (Int.natAbs (x1)) 0), .int .u64 (wd (Int.natAbs (x1)) 1), .int .u64 (wd (Int.natAbs (x1)) 2), .int .u64 (wd (Int.natAbs (x1)) 3), .bool (zs (y1)), .int .u64 (wd (Int.natAbs (y1)) 0), .int .u64 (wd (Int.natAbs (y1)) 1), .int .u64 (wd (Int.natAbs (y1)) 2), .int .u64 (wd (Int.natAbs (y1)) 3)] (by rfl) (by rfl) (World.news_of_block (cs := #[.bool (zs (x1)), .int .u64 (wd (Int.natAbs (x1)) 0), .int .u64 (wd (Int.natAbs (x1)) 1), .int .u64 (wd (Int.natAbs (x1)) 2), .int .u64 (wd (Int.natAbs (x1)) 3), .bool (zs (y1)), .int .u64 (wd (Int.natAbs (y1)) 0), .int .u64 (wd (Int.natAbs (y1)) 1), .int .u64 (wd (Int.natAbs (y1)) 2), .int .u64 (wd (Int.natAbs (y1)) 3)]) (t := 35) (fr := (0, 0)) (heap_alloc_new o1 _)) (by simp [Value.oneCell']) (by omega) (HML.out _ (by omega)) (by omega) (by simp; omega) (o1.heap.size + 1) (by simp) ?_; intro g capg v1 howng hgrowg hatg hltg; have HD2 := Lib.hid ((HD1.out.alloc _).pushX howng hgrowg (by simpa using hatg)); have hT2 : Below G.heap.size G v1 := HD2.out.below; have hT2b := HD2.out.base)) | (go_at_call 39; (with_reducible refine (HA.out _ (HFG.out.later (by (repeat (first | (with_reducible assumption) | (with_reducible exact Below.refl _ _) | (with_reducible refine Below.drew ?_) | ((with_reducible refine below_alloc' ?_ ?_ _); (focus (first | omega | (simp; omega)))))))) (HTG.out.later (by (repeat (first | (with_reducible assumption) | (with_reducible exact Below.refl _ _) | (with_reducible refine Below.drew ?_) | ((with_reducible refine below_alloc' ?_ ?_ _); (focus (first | omega | (simp; omega))))))))).mono ?_); rintro e o2 ⟨rfl, hbo2⟩; have HD3 := Lib.hid (HD2.out.later hbo2); have hT3 : Below G.heap.size G o2 := HD3.out.below; have hT3b := HD3.out.base) | ((refine step_append_lies _ (by rfl) _ _ _ (by rfl) G.heap.size 35 i0 _ 10 80 Tryd.underlying39 hinf hz0 hz1 hz2 rfl (by decide) (u5) (ny) (olY X Z H z k i) (by rfl) ((HD3.out.alloc _).y) ⟨o2.heap.size, 0, none⟩ 1 1 [.bool (zs (x2')), .int .u64 (wd (Int.natAbs (x2')) 0), .int .u64 (wd (Int.natAbs (x2')) 1), .int .u64 (wd (Int.natAbs (x2')) 2), .int .u64 (wd (Int.natAbs (x2')) 3), .bool (zs (y2)), .int .u64 (wd (Int.natAbs (y2)) 0), .int .u64 (wd (Int.natAbs (y2)) 1), .int .u64 (wd (Int.natAbs (y2)) 2), .int .u64 (wd (Int.natAbs (y2)) 3)] (by rfl) (by rfl) (World.news_of_block (cs := #[.bool (zs (x2')), .int .u64 (wd (Int.natAbs (x2')) 0), .int .u64 (wd (Int.natAbs (x2')) 1), .int .u64 (wd (Int.natAbs (x2')) 2), .int .u64 (wd (Int.natAbs (x2')) 3), .bool (zs (y2)), .int .u64 (wd (Int.natAbs (y2)) 0), .int .u64 (wd (Int.natAbs (y2)) 1), .int .u64 (wd (Int.natAbs (y2)) 2), .int .u64 (wd (Int.natAbs (y2)) 3)]) (t := 35) (fr := (0, 0)) (heap_alloc_new o2 _)) (by simp [Value.oneCell']) (by omega) (HML.out _ (by omega)) (by omega) (by simp; omega) (o2.heap.size + 1) (by simp) ?_; intro h caph v2 hownh hgrowh hath hlth; have HD4 := Lib.hid ((HD3.out.alloc _).pushY hownh hgrowh (by simpa using hath)); have hT4 : Below G.heap.size G v2 := HD4.out.below; have hT4b := HD4.out.base)))))
      have c9 := (hFm.out v2 hT4).1
      have c9z := (hFm.out v2 hT4).2
      have zc := HZ.out.cell k hkz
      have zc9 := (hT4.cell (p := ⟨bz, oz + k, none⟩) gz).trans ((hGb.cell (p := ⟨bz, oz + k, none⟩) lz).trans zc)
      have z9 : bz < v2.heap.size := Nat.lt_of_lt_of_le gz hT4.size
      have hkZ : (k : Int) < (Z.length : Int) := by omega
      have HD5 := Lib.hid (show Two G.heap.size G v2 (.slice (some ⟨g, 0, none⟩) (nx + 1) capg) (.slice (some ⟨h, 0, none⟩) (ny + 1) caph) (nx + 1) (ny + 1) (olX X Z z k i ++ rc xi 1) (olY X Z H z k i ++ rc (hfN Z (row H i) z k) (hfD Z z k)) from by
        have hh := HD4.out
        unfold rc
        rw [← E1.out.1, ← E1.out.2, ← E2.out.1, ← E2.out.2]
        exact hh)
      have zb0 := HV.out.zr k hkz
      have zb1 := K2.out
      have K4 := k4.out
      clear HD1 HD2 HD3 HD4 hT1 hT1b hT2 hT2b hT3 hT3b hT4b f1 f1z xc O1 HA hS1 howng hgrowg hatg hltg hownh hgrowh hath hlth hbl hbase
      by_cases he : ix Z k = z
      · have hlast : last X Z z k i = true := by unfold last; simp [he]
        rw [he] at zc9
        clear K4 zc zb0 zb1
        go_wp2
        go_roundg (X.length - (i + 1))
        case rel =>
          refine ⟨i + 1, by omega, by omega, by go_num, nx + 1, ny + 1, by omega, by omega, Lib.hid ?_⟩
          rw [olX_succ, olY_succ, hlast, if_pos rfl, if_pos rfl, List.append_nil, List.append_nil, ← HXI.out]
          exact HD5.out
        case measure => omega
      · obtain ⟨hk1, hzk1⟩ := K4 he
        clear K4
        obtain ⟨u0, hu0⟩ : ∃ u0, u0 = ix Z k := ⟨_, rfl⟩
        have HU0 := Lib.hid hu0
        rw [← hu0] at zc9 zb0 zb1 zc
        have hne : ¬ u0 = z := by rw [hu0]; exact he
        by_cases hil : i + 1 = X.length
        · have hlast : last X Z z k i = true := by unfold last; simp [hil]
          have hil' : (i : Int) + 1 = (X.length : Int) := by omega
          clear hu0 he
          go_wp2
          go_roundg (X.length - (i + 1))
          case rel =>
            refine ⟨i + 1, by omega, by omega, by go_num, nx + 1, ny + 1, by omega, by omega, Lib.hid ?_⟩
            rw [olX_succ, olY_succ, hlast, if_pos rfl, if_pos rfl, List.append_nil, List.append_nil, ← HXI.out]
            exact HD5.out
          case measure => omega
        · have hlast : last X Z z k i = false := by unfold last; simp [he, hil]
          have hi1 : i + 1 < X.length := by omega
          have hil' : ¬ ((i : Int) + 1 = (X.length : Int)) := by omega
          clear hu0 he
          go_upto_region 10 with (fail)
          · rename_i hh
            exfalso
            rcases hh with hh | hh
            · exact hne (by simpa using hh)
            · exact hil' (by simpa using hh)
          have zc1 := HZ.out.cell (k + 1) hk1
          have zb2 := HV.out.zr (k + 1) hk1
          have zb3 := HV.out.za k hk1
          have xb1 := HV.out.xr (i + 1) hi1
          have xc1 := HX.out.cell (i + 1) hi1
          have xc0 := HX.out.cell i hlt
          obtain ⟨xj, hxj⟩ : ∃ xj, xj = ix X (i + 1) := ⟨_, rfl⟩
          have HXJ := Lib.hid hxj
          rw [← hxj] at xb1 xc1
          rw [← HXI.out] at xc0
          have hlX := HL.out
          have rl0 := HV.out.hr i (by omega)
          have rl1 := HV.out.hr (i + 1) (by omega)
          have rh0 := HR.out.cell i (by omega)
          have rh1 := HR.out.cell (i + 1) (by omega)
          obtain ⟨ra, rao, ea, hra⟩ := HR.out.row i (by omega) (by omega)
          obtain ⟨rb, rbo, eb, hrb⟩ := HR.out.row (i + 1) (by omega) (by omega)
          rw [ea, rl0] at rh0
          rw [eb, rl1] at rh1
          have ca := hra.cell k (by omega)
          have cb := hrb.cell (k + 1) (by omega)
          have la := hra.lt
          have lb := hrb.lt
          have va0 := HV.out.hv i (by omega) k hkz
          have vb0 := HV.out.hv (i + 1) (by omega) (k + 1) hk1
          obtain ⟨va, hva⟩ : ∃ va, va = ix (row H i) k := ⟨_, rfl⟩
          obtain ⟨vb, hvb⟩ : ∃ vb, vb = ix (row H (i + 1)) (k + 1) := ⟨_, rfl⟩
          have HVA := Lib.hid (And.intro hva hvb)
          rw [← hva] at ca va0
          rw [← hvb] at cb vb0
          obtain ⟨u1, hu1⟩ : ∃ u1, u1 = ix Z (k + 1) := ⟨_, rfl⟩
          have HU1 := Lib.hid hu1
          rw [← hu1] at zc1 zb2 zb3 hzk1
          rw [← HU0.out] at zb3
          have ga := keep_lt hGb la
          have gb := keep_lt hGb lb
          have atG := Lib.hid (show ∀ (b o : Nat) (u : Value), b < w.heap.size → w.cell? ⟨b, o, none⟩ = some u → ∀ x, Below G.heap.size G x → x.cell? ⟨b, o, none⟩ = some u ∧ b < x.heap.size from
            fun b o u hb hc x hx => ⟨(hx.cell (p := ⟨b, o, none⟩) (keep_lt hGb hb)).trans ((hGb.cell (p := ⟨b, o, none⟩) hb).trans hc), Nat.lt_of_lt_of_le (keep_lt hGb hb) hx.size⟩)
          have LV := Lib.hid (fun (a b : Int) h1 h2 h3 h4' (x : World) (hx : Below G.heap.size G x) => level_any (some ⟨bx, ox, none⟩) (some ⟨bh, oh, none⟩) bz oz cx cz ch X.length Z.length H.length k z a b u0 u1 zb0.1 zb3 zb2.2 zb1 (by omega) h1 h2 h3 h4' hk1 z16 x (atG.out _ _ _ lz zc x hx).2 (atG.out _ _ _ lz zc x hx).1 (atG.out _ _ _ lz zc1 x hx).1 (HTG.out.later hx))
          have L1 := LV.out xi xj xb.1 (by omega) xb1.1 (by omega)
          have L2 := LV.out va vb va0.1 (by omega) vb0.1 (by omega)
          obtain ⟨p1, hp1⟩ : ∃ p, p = rn (xi * (u1 - u0) + (xj - xi) * (z - u0)) (u1 - u0) := ⟨_, rfl⟩
          obtain ⟨q1, hq1⟩ : ∃ q, q = rd (xi * (u1 - u0) + (xj - xi) * (z - u0)) (u1 - u0) := ⟨_, rfl⟩
          obtain ⟨p2, hp2⟩ : ∃ p, p = rn (va * (u1 - u0) + (vb - va) * (z - u0)) (u1 - u0) := ⟨_, rfl⟩
          obtain ⟨q2, hq2⟩ : ∃ q, q = rd (va * (u1 - u0) + (vb - va) * (z - u0)) (u1 - u0) := ⟨_, rfl⟩
          rw [← hp1, ← hq1] at L1
          rw [← hp2, ← hq2] at L2
          have E3 := Lib.hid (And.intro hp1 hq1)
          have E4 := Lib.hid (And.intro hp2 hq2)
          have L1' := Lib.hid L1
          have L2' := Lib.hid L2
          have r6 : IntKind.i64.wrap ((i : Int) + 1) = ((i + 1 : Nat) : Int) := by rw [IntKind.wrap_i64]; omega
          have r7 : IntKind.i64.wrap ((k : Int) + 1) = ((k + 1 : Nat) : Int) := by rw [IntKind.wrap_i64]; omega
          have n1 : (0 : Int) ≤ (i : Int) + 1 := by omega
          have n2 : (i : Int) + 1 < (X.length : Int) := by omega
          have n3 : ((i : Int) + 1).toNat = i + 1 := by omega
          have n4 : (0 : Int) ≤ (k : Int) + 1 := by omega
          have n5 : (k : Int) + 1 < (Z.length : Int) := by omega
          have n6 : ((k : Int) + 1).toNat = k + 1 := by omega
          have n7 : (i : Int) < (H.length : Int) := by omega
          have n8 : (i : Int) + 1 < (H.length : Int) := by omega
          have hb5 := HD5.out.below
          have hs5 := HD5.out.base
          have hSx := Lib.hid (show ∀ x : World, Below G.heap.size G x → (∀ o, x.cell? ⟨w.heap.size, o, none⟩ = (#[.slice (some ⟨bx, ox, none⟩) X.length cx, .slice (some ⟨bz, oz, none⟩) Z.length cz, .slice (some ⟨bh, oh, none⟩) H.length ch] : Array Value)[o]?) ∧ x.cell? ⟨bx, ox + i, none⟩ = some (.int .i64 xi) ∧ x.cell? ⟨bx, ox + (i + 1), none⟩ = some (.int .i64 xj) ∧ w.heap.size < x.heap.size ∧ bx < x.heap.size from
            fun x hb => ⟨(hFm.out x hb).1, (atG.out _ _ _ lx xc0 x hb).1, (atG.out _ _ _ lx xc1 x hb).1, (hFm.out x hb).2, (atG.out _ _ _ lx xc1 x hb).2⟩)
          have hSy := Lib.hid (show ∀ x : World, Below G.heap.size G x → (∀ o, x.cell? ⟨w.heap.size, o, none⟩ = (#[.slice (some ⟨bx, ox, none⟩) X.length cx, .slice (some ⟨bz, oz, none⟩) Z.length cz, .slice (some ⟨bh, oh, none⟩) H.length ch] : Array Value)[o]?) ∧ x.cell? ⟨bh, oh + i, none⟩ = some (.slice (some ⟨ra, rao, none⟩) Z.length (C i)) ∧ x.cell? ⟨bh, oh + (i + 1), none⟩ = some (.slice (some ⟨rb, rbo, none⟩) Z.length (C (i + 1))) ∧ x.cell? ⟨ra, rao + k, none⟩ = some (.int .i64 va) ∧ x.cell? ⟨rb, rbo + (k + 1), none⟩ = some (.int .i64 vb) ∧ w.heap.size < x.heap.size ∧ bh < x.heap.size ∧ ra < x.heap.size ∧ rb < x.heap.size from
            fun x hb => ⟨(hFm.out x hb).1, (atG.out _ _ _ lh rh0 x hb).1, (atG.out _ _ _ lh rh1 x hb).1, (atG.out _ _ _ la ca x hb).1, (atG.out _ _ _ lb cb x hb).1, (hFm.out x hb).2, (atG.out _ _ _ lh rh0 x hb).2, (atG.out _ _ _ la ca x hb).2, (atG.out _ _ _ lb cb x hb).2⟩)
          clear hlX hxj rl0 rl1 rh0 rh1 ea eb hra hrb ca cb va0 vb0 hva hvb hu1 ga gb hp1 hq1 hp2 hq2 L1 L2 LV xc0 xc1 zc zc1 zb0 zb1 zb2 zb3 hzk1 xb1
          (go_region_held3 (fun x => (∀ o, x.cell? ⟨w.heap.size, o, none⟩ = (#[.slice (some ⟨bx, ox, none⟩) X.length cx, .slice (some ⟨bz, oz, none⟩) Z.length cz, .slice (some ⟨bh, oh, none⟩) H.length ch] : Array Value)[o]?) ∧ x.cell? ⟨bx, ox + i, none⟩ = some (.int .i64 xi) ∧ x.cell? ⟨bx, ox + (i + 1), none⟩ = some (.int .i64 xj) ∧ w.heap.size < x.heap.size ∧ bx < x.heap.size) ((refine hSx.out _ ?_; (repeat (first | (with_reducible assumption) | (with_reducible exact Below.refl _ _) | (with_reducible refine Below.drew ?_) | ((with_reducible refine below_alloc' ?_ ?_ _); (focus (first | omega | (simp; omega)))))))) ((first | (go_at_call 49; (with_reducible refine (L1'.out _ (by (repeat (first | (with_reducible assumption) | (with_reducible exact Below.refl _ _) | (with_reducible refine Below.drew ?_) | ((with_reducible refine below_alloc' ?_ ?_ _); (focus (first | omega | (simp; omega)))))))).mono ?_); rintro e o3 ⟨rfl, hbo3⟩; have HD6 := Lib.hid ((HD5.out.drew).later hbo3); have hT6 : Below G.heap.size G o3 := HD6.out.below; have hT6b := HD6.out.base) | ((refine step_append_lies _ (by rfl) _ _ _ (by rfl) G.heap.size 35 i0 _ 10 80 Tryd.underlying39 hinf hz0 hz1 hz2 rfl (by decide) (.slice (some ⟨g, 0, none⟩) (nx + 1) capg) (nx + 1) (olX X Z z k i ++ rc xi 1) (by rfl) ((HD6.out.alloc _).x) ⟨o3.heap.size, 0, none⟩ 1 1 [.bool (zs (p1)), .int .u64 (wd (Int.natAbs (p1)) 0), .int .u64 (wd (Int.natAbs (p1)) 1), .int .u64 (wd (Int.natAbs (p1)) 2), .int .u64 (wd (Int.natAbs (p1)) 3), .bool (zs (q1)), .int .u64 (wd (Int.natAbs (q1)) 0), .int .u64 (wd (Int.natAbs (q1)) 1), .int .u64 (wd (Int.natAbs (q1)) 2), .int .u64 (wd (Int.natAbs (q1)) 3)] (by rfl) (by rfl) (World.news_of_block (cs := #[.bool (zs (p1)), .int .u64 (wd (Int.natAbs (p1)) 0), .int .u64 (wd (Int.natAbs (p1)) 1), .int .u64 (wd (Int.natAbs (p1)) 2), .int .u64 (wd (Int.natAbs (p1)) 3), .bool (zs (q1)), .int .u64 (wd (Int.natAbs (q1)) 0), .int .u64 (wd (Int.natAbs (q1)) 1), .int .u64 (wd (Int.natAbs (q1)) 2), .int .u64 (wd (Int.natAbs (q1)) 3)]) (t := 35) (fr := (0, 0)) (heap_alloc_new o3 _)) (by simp [Value.oneCell']) (by omega) (HML.out _ (by omega)) (by omega) (by simp; omega) (o3.heap.size + 1) (by simp) ?_; intro g3 capg3 v3 howng3 hgrowg3 hatg3 hltg3; have HD7 := Lib.hid ((HD6.out.alloc _).pushX howng3 hgrowg3 (by simpa using hatg3)); have hT7 : Below G.heap.size G v3 := HD7.out.below; have hT7b := HD7.out.base)))))
          go_upto_region 11 with (fail)
          (go_region_held3 (fun x => (∀ o, x.cell? ⟨w.heap.size, o, none⟩ = (#[.slice (some ⟨bx, ox, none⟩) X.length cx, .slice (some ⟨bz, oz, none⟩) Z.length cz, .slice (some ⟨bh, oh, none⟩) H.length ch] : Array Value)[o]?) ∧ x.cell? ⟨bh, oh + i, none⟩ = some (.slice (some ⟨ra, rao, none⟩) Z.length (C i)) ∧ x.cell? ⟨bh, oh + (i + 1), none⟩ = some (.slice (some ⟨rb, rbo, none⟩) Z.length (C (i + 1))) ∧ x.cell? ⟨ra, rao + k, none⟩ = some (.int .i64 va) ∧ x.cell? ⟨rb, rbo + (k + 1), none⟩ = some (.int .i64 vb) ∧ w.heap.size < x.heap.size ∧ bh < x.heap.size ∧ ra < x.heap.size ∧ rb < x.heap.size) ((refine hSy.out _ ?_; (repeat (first | (with_reducible assumption) | (with_reducible exact Below.refl _ _) | (with_reducible refine Below.drew ?_) | ((with_reducible refine below_alloc' ?_ ?_ _); (focus (first | omega | (simp; omega)))))))) ((first | (go_at_call 49; (with_reducible refine (L2'.out _ (by (repeat (first | (with_reducible assumption) | (with_reducible exact Below.refl _ _) | (with_reducible refine Below.drew ?_) | ((with_reducible refine below_alloc' ?_ ?_ _); (focus (first | omega | (simp; omega)))))))).mono ?_); rintro e o4 ⟨rfl, hbo4⟩; have HD8 := Lib.hid ((HD7.out.drew).later hbo4); have hT8 : Below G.heap.size G o4 := HD8.out.below; have hT8b := HD8.out.base) | ((refine step_append_lies _ (by rfl) _ _ _ (by rfl) G.heap.size 35 i0 _ 10 80 Tryd.underlying39 hinf hz0 hz1 hz2 rfl (by decide) (.slice (some ⟨h, 0, none⟩) (ny + 1) caph) (ny + 1) (olY X Z H z k i ++ rc (hfN Z (row H i) z k) (hfD Z z k)) (by rfl) ((HD8.out.alloc _).y) ⟨o4.heap.size, 0, none⟩ 1 1 [.bool (zs (p2)), .int .u64 (wd (Int.natAbs (p2)) 0), .int .u64 (wd (Int.natAbs (p2)) 1), .int .u64 (wd (Int.natAbs (p2)) 2), .int .u64 (wd (Int.natAbs (p2)) 3), .bool (zs (q2)), .int .u64 (wd (Int.natAbs (q2)) 0), .int .u64 (wd (Int.natAbs (q2)) 1), .int .u64 (wd (Int.natAbs (q2)) 2), .int .u64 (wd (Int.natAbs (q2)) 3)] (by rfl) (by rfl) (World.news_of_block (cs := #[.bool (zs (p2)), .int .u64 (wd (Int.natAbs (p2)) 0), .int .u64 (wd (Int.natAbs (p2)) 1), .int .u64 (wd (Int.natAbs (p2)) 2), .int .u64 (wd (Int.natAbs (p2)) 3), .bool (zs (q2)), .int .u64 (wd (Int.natAbs (q2)) 0), .int .u64 (wd (Int.natAbs (q2)) 1), .int .u64 (wd (Int.natAbs (q2)) 2), .int .u64 (wd (Int.natAbs (q2)) 3)]) (t := 35) (fr := (0, 0)) (heap_alloc_new o4 _)) (by simp [Value.oneCell']) (by omega) (HML.out _ (by omega)) (by omega) (by simp; omega) (o4.heap.size + 1) (by simp) ?_; intro h3 caph3 v4 hownh3 hgrowh3 hath3 hlth3; have HD9 := Lib.hid ((HD8.out.alloc _).pushY hownh3 hgrowh3 (by simpa using hath3)); have hT9 : Below G.heap.size G v4 := HD9.out.below; have hT9b := HD9.out.base)))))
          have eX : olX X Z z k i ++ (rc (ix X i) 1 ++ rc (lvN Z z k (ix X i) (ix X (i + 1))) (lvD Z k)) = (olX X Z z k i ++ rc xi 1) ++ [.bool (zs (p1)), .int .u64 (wd (Int.natAbs (p1)) 0), .int .u64 (wd (Int.natAbs (p1)) 1), .int .u64 (wd (Int.natAbs (p1)) 2), .int .u64 (wd (Int.natAbs (p1)) 3), .bool (zs (q1)), .int .u64 (wd (Int.natAbs (q1)) 0), .int .u64 (wd (Int.natAbs (q1)) 1), .int .u64 (wd (Int.natAbs (q1)) 2), .int .u64 (wd (Int.natAbs (q1)) 3)] := by
            rw [E3.out.1, E3.out.2, HXJ.out, HXI.out, HU0.out, HU1.out, List.append_assoc, rc_cells (lvN Z z k (ix X i) (ix X (i + 1))) (lvD Z k)]
            unfold lvN lvD
            rfl
          have eY : olY X Z H z k i ++ (rc (hfN Z (row H i) z k) (hfD Z z k) ++ rc (lvN Z z k (ix (row H i) k) (ix (row H (i + 1)) (k + 1))) (lvD Z k)) = (olY X Z H z k i ++ rc (hfN Z (row H i) z k) (hfD Z z k)) ++ [.bool (zs (p2)), .int .u64 (wd (Int.natAbs (p2)) 0), .int .u64 (wd (Int.natAbs (p2)) 1), .int .u64 (wd (Int.natAbs (p2)) 2), .int .u64 (wd (Int.natAbs (p2)) 3), .bool (zs (q2)), .int .u64 (wd (Int.natAbs (q2)) 0), .int .u64 (wd (Int.natAbs (q2)) 1), .int .u64 (wd (Int.natAbs (q2)) 2), .int .u64 (wd (Int.natAbs (q2)) 3)] := by
            rw [E4.out.1, E4.out.2, HVA.out.1, HVA.out.2, HU0.out, HU1.out, List.append_assoc, rc_cells (lvN Z z k (ix (row H i) k) (ix (row H (i + 1)) (k + 1))) (lvD Z k)]
            unfold lvN lvD
            rfl
          have EX := Lib.hid eX
          have EY := Lib.hid eY
          clear eX eY
          go_wp2
          go_roundg (X.length - (i + 1))
          case rel =>
            refine ⟨i + 1, by omega, by omega, by go_num, nx + 1 + 1, ny + 1 + 1, by omega, by omega, Lib.hid ?_⟩
            rw [olX_succ, olY_succ, hlast, if_neg (by simp), if_neg (by simp), EX.out, EY.out]
            exact HD9.out
          case measure => omega
    · obtain rfl : i = X.length := by omega
      have hW := Lib.hid (hGb.trans (HT2.out.below.mono hGw))
      have hX4 := Lib.hid (own_mono hGw HT2.out.x)
      have hY4 := Lib.hid (own_mono hGw HT2.out.y)
      go_wp2_with ((with_reducible show bodyPost _ _ _ _ _ _); refine bodyPost_ret (by simp [results, Tryd.results17, go_sem]; try rfl) rfl ?_; exact ⟨u4, u5, nx, ny, rfl, hW.out, hX4.out, hY4.out⟩)
end Go.Proofs.YtfmmnnodihpgmaaDoor
