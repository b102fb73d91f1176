/-
  HullBoxes: the walk of the law: for any lists and any number it returns true.
-/
import Derived.Test.YtfmmnnodihpgmaaDoorHAwD
import Derived.Test.YtfmmnnodihpgmaaDoorHRefB
import Derived.Test.YtfmmnnodihpgmaaDoorBoxA
import Derived.Test.YtfmmnnodihpgmaaDoorPackB
namespace Go.Proofs.YtfmmnnodihpgmaaDoor
set_option linter.all false
open Go Go.RowKit Wd
set_option maxRecDepth 100000
theorem infoI : (Tryd.prog.info? 3).map (fun i => (i.zero, i.size, i.bytes)) = some (some (.int .i64 0), 1, 8) := by kernel_rfl
theorem infoL : (Tryd.prog.info? 22).map (fun i => (i.zero, i.size, i.bytes)) = some (some (.slice none 0 0), 1, 24) := by kernel_rfl
theorem own_sl {w : World} {base : Nat} {e : TypeId} {size : Nat} {v : Value} {n : Nat} {xs : List Value} (h : w.ownsRow base e size v n xs) : ∃ a c, v = .slice a n c := by
  rcases h.2 with ⟨h2, h3⟩ | ⟨g, cap, cur, hv, _⟩
  · exact ⟨none, 0, by rw [h2, h3]⟩
  · exact ⟨_, _, hv⟩
set_option maxHeartbeats 4000000 in
theorem boxes_any (ax az : Option Addr) (cx cz : Nat) (X Z : List Int) (u : Int) (hx : X.length ≤ 9223372036854775807) (hz : Z.length ≤ 9223372036854775807) (hu : 0 ≤ u) (hu' : u ≤ 65535) (w : World) (hX : Has w ax X) (hZ : Has w az Z) (hT : Tab64 w) :
    Calls Tryd.prog 7 #[.slice ax X.length cx, .slice az Z.length cz, .int .u16 u] w fun e w' => e = .returned (.bool true) ∧ Below w.heap.size w w' := by
  have HT := Lib.hid hT
  have HX := Lib.hid hX
  have HZ := Lib.hid hZ
  by_cases hx24 : X.length ≤ 24
  · by_cases hz16 : Z.length ≤ 16
    · have hx24' : ¬ 24 < (X.length : Int) := by omega
      have hz16' : ¬ 16 < (Z.length : Int) := by omega
      obtain ⟨b, hb⟩ : ∃ b, b = 1 + u % 4096 := ⟨_, rfl⟩
      have hb1 : 1 ≤ b := by omega
      have hb2 : b ≤ 4096 := by omega
      clear hT hX hZ
      go_enter Tryd.func7, Tryd.ntmps7
      go_upto_region 5 with (fail)
      rw [← hb]
      clear hb hu hu'
      refine wp_world (fun x => Hid (Bx w.heap.size w x w.heap.size (.slice ax X.length cx) (.slice az Z.length cz) (.slice none 0 0) 0 Z.length (fun _ => none) (fun _ => 0) b))
        (Lib.hid ⟨fun o => by simp [go_sem], fun o => by simp [go_sem], Nat.le_refl _, by simp, World.ownsRow_nil _ _ _ _, by simp [Value.ownBlock], fun j hj => by omega, by (repeat' (first | (with_reducible exact Below.refl _ _) | (with_reducible assumption) | (with_reducible refine below_alloc ?_ _) | (with_reducible refine Below.drew ?_) | (with_reducible refine Below.setCell ?_ ?_ _) | (with_reducible refine below_after ?_ (by assumption)) | go_size))⟩) ?_
      intro G HG
      have hGs := HG.out.below.size
      obtain ⟨i0, hinf0, hz00, hz01, hz02⟩ := info_parts infoI
      obtain ⟨i1, hinf1, hz10, hz11, hz12⟩ := info_parts infoL
      go_wp2
      go_loopg [9] X.length (fun gg v wr => ∃ i : Nat, i ≤ X.length ∧ X.length - i ≤ gg ∧ v = .int .i64 (i : Int) ∧ ∃ hv A C, Hid (Bx w.heap.size w wr w.heap.size (.slice ax X.length cx) (.slice az Z.length cz) hv i Z.length A C b))
      case atStart => exact ⟨0, by omega, by omega, rfl, _, _, _, HG⟩
      case round =>
        obtain ⟨i, hi, hgi, rfl, hv, A, C, HB⟩ := hrel
        obtain ⟨W1, rfl⟩ : ∃ x, x = wr := ⟨_, rfl⟩
        clear HG hGs
        by_cases hlt : i < X.length
        · have hlt' : (i : Int) < (X.length : Int) := by omega
          go_wp2
          go_loopg [10, 11] Z.length (fun gg rv v wr => ∃ k : Nat, k ≤ Z.length ∧ Z.length - k ≤ gg ∧ v = .int .i64 (k : Int) ∧ Hid (wr.ownsRow W1.heap.size 3 1 rv k (List.replicate k (.int .i64 b)) ∧ Below W1.heap.size W1 wr))
          case atStart => exact ⟨0, by omega, by omega, rfl, Lib.hid ⟨World.ownsRow_nil _ _ _ _, Below.refl _ _⟩⟩
          case round =>
            obtain ⟨k, hk, hgk, rfl, HQ⟩ := hrel
            by_cases hltk : k < Z.length
            · have hltk' : (k : Int) < (Z.length : Int) := by omega
              go_wp2_with (first
                | (at_builtin; refine wpList_append_lies _ rfl _ _ 22 rfl W1.heap.size 3 i0 (.int .i64 0) 1 8 Tryd.underlying22 hinf0 hz00 hz01 hz02 rfl (by decide) _ k (List.replicate k (.int .i64 b)) rfl (HQ.out.1.alloc _) ⟨wr.heap.size, 0, none⟩ 1 1 [.int .i64 b] rfl rfl (fun j u hu => ?_) (by simp [Value.oneCell']) (by omega) (by unfold maxLen; omega) (by omega) (by have := HQ.out.2.size; simp; omega) (wr.heap.size + 1) (by simp) ?_)
                | go_in)
              · have hadd : (⟨wr.heap.size, 0, none⟩ : Addr).add j = ⟨wr.heap.size, j, none⟩ := by unfold Addr.add; split <;> simp_all
                rw [hadd, World.cell?_alloc_new]
                simpa using hu
              · intro g cap w1 hown hgrow hat hl
                have hb1 : Below W1.heap.size W1 w1 := (below_alloc HQ.out.2 _).grown hgrow (by have := HQ.out.2.size; simp; omega) (fun q hq => (HQ.out.1.lt q hq).1)
                have hOW := Lib.hid hown
                have hBW := Lib.hid hb1
                clear hown hb1 hgrow hat hl HQ
                go_wp2
                go_roundg (Z.length - (k + 1))
                case rel => exact ⟨k + 1, by omega, by omega, by go_num, Lib.hid ⟨by rw [List.replicate_succ']; exact hOW.out, hBW.out⟩⟩
                case measure => omega
            · obtain rfl : k = Z.length := by omega
              have hltk' : ¬ (Z.length : Int) < (Z.length : Int) := by omega
              have HL := Lib.hid (HB.out.later HQ.out.2)
              have bc := HL.out.cell
              have bf := HL.out.froz
              have bz := HL.out.hi
              obtain ⟨ra, rc, hrv⟩ := own_sl HQ.out.1
              have hrow : 0 < Z.length → ∃ q, ra = some ⟨q, 0, none⟩ ∧ q < wr.heap.size ∧ hv.ownBlock ≠ some q ∧ q ≠ w.heap.size ∧ w.heap.size ≤ q ∧ ∀ k, k < Z.length → wr.cell? ⟨q, k, none⟩ = some (.int .i64 b) := by
                intro hm
                have hq := HQ.out.1
                rw [hrv] at hq
                obtain ⟨q, cap, e1, hg1, hl1⟩ := hq.form hm
                cases e1
                have hBi := HB.out.hi
                refine ⟨q, rfl, hl1, fun e => ?_, by omega, by omega, fun k hk => ?_⟩
                · have := (HB.out.own.lt q e).2
                  omega
                · rw [hq.cellAt k (by omega)]
                  simp [hk]
              have HR := Lib.hid hrow
              clear hrow
              go_wp2_with (first
                | (at_builtin; refine wpList_append_lies _ rfl _ _ 23 rfl w.heap.size 22 i1 (.slice none 0 0) 1 24 Tryd.underlying23 hinf1 hz10 hz11 hz12 rfl (by decide) hv i _ rfl (HL.out.own.alloc _) ⟨wr.heap.size, 0, none⟩ 1 1 [u10] rfl rfl (fun j u hu => ?_) (by rw [hrv]; simp [Value.oneCell']) (by omega) (by unfold maxLen; omega) (by omega) (by have := HL.out.below.size; simp; omega) (wr.heap.size + 1) (by simp) ?_)
                | go_in)
              · rw [hrv] at hu
                exact hu
              · intro g cap w1 hown hgrow hat hl
                have HA := HL.out.later (below_alloc (Below.refl wr.heap.size wr) (.cells #[.slice ra Z.length rc] 22))
                have hrow : 0 < Z.length → ∃ q, ra = some ⟨q, 0, none⟩ ∧ q < (wr.alloc (.cells #[.slice ra Z.length rc] 22)).heap.size ∧ hv.ownBlock ≠ some q ∧ q ≠ w.heap.size ∧ w.heap.size ≤ q ∧ ∀ k, k < Z.length → (wr.alloc (.cells #[.slice ra Z.length rc] 22)).cell? ⟨q, k, none⟩ = some (.int .i64 b) := fun hm => by
                  obtain ⟨q, h1, h2, h3, h4, h5, h6⟩ := HR.out hm
                  exact ⟨q, h1, by simp; omega, h3, h4, h5, fun k hk => (World.cell?_alloc_past _ _ _ h2).trans (h6 k hk)⟩
                have HN := Lib.hid (HA.push hrow hown hgrow (by simpa using hat))
                have hblk := hgrow.block w.heap.size (by simp; omega) (fun e => HL.out.sh e.symm)
                have c1 : ∀ o, w1.cell? ⟨w.heap.size, o, none⟩ = (#[.slice ax X.length cx, .slice az Z.length cz, hv] : Array Value)[o]? := fun o => (World.cell?_of_block (a := ⟨w.heap.size, o, none⟩) hblk).trans (HA.cell o)
                have f1 : ∀ o, w1.frozen? ⟨w.heap.size, o, none⟩ = false := fun o => (World.frozen?_of_block (a := ⟨w.heap.size, o, none⟩) hblk).trans (HA.froz o)
                have z1 : w.heap.size < w1.heap.size := Nat.lt_of_lt_of_le HA.hi hgrow.size
                clear HA hrow hown hgrow hat hl hblk HL HQ HB bc bf bz HR hrv
                go_wp2
                go_roundg (X.length - (i + 1))
                case rel => exact ⟨i + 1, by omega, by omega, by go_num, _, _, _, HN⟩
                case measure => omega
        · obtain rfl : i = X.length := by omega
          have hlt' : ¬ (X.length : Int) < (X.length : Int) := by omega
          obtain ⟨a, c, rfl, hrs⟩ := HB.out.rows
          obtain ⟨H, hH⟩ : ∃ H, H = List.replicate X.length (List.replicate Z.length b) := ⟨_, rfl⟩
          have hl : H.length = X.length := by rw [hH]; simp
          rw [← hH] at hrs
          have HF := Lib.hid (show Frm W1 ax az a A C X Z H from ⟨HX.out.later HB.out.below, HZ.out.later HB.out.below, hrs⟩)
          have T1 := Lib.hid (HT.out.later HB.out.below)
          have HT0 := HT
          have HW := Lib.hid HB.out.below
          have bc := HB.out.cell
          have bhi := HB.out.hi
          have hi0 : ∀ i k, i < X.length → k < Z.length → ix (row H i) k = b := fun i k hi hk => by rw [hH, row_repl hi, ix_repl hk]
          have HI0 := Lib.hid hi0
          clear hrs HB hH hi0 HX HZ HT
          by_cases hs : chk X Z H = 0
          · have HP := Lib.hid (show ∀ W : World, Frm W ax az a A C X Z H → Calls Tryd.prog 11 #[.agg #[.slice ax X.length cx, .slice az Z.length cz, .slice a X.length c]] W fun e w' => e = .returned (.int .i64 0) ∧ Below W.heap.size W w' from by
              have K := fun W h => check_any ax az a cx cz c A C X Z H W h
              rw [hs, hl] at K
              exact K)
            have MA := Lib.hid (show ∀ W : World, Frm W ax az a A C X Z H → Calls Tryd.prog 20 #[.agg #[.slice ax X.length cx, .slice az Z.length cz, .slice a X.length c]] W fun e w' => ∃ pv fv np nf, e = .returned (.tuple #[.agg #[pv, fv], .int .i64 0]) ∧ Below W.heap.size W w' ∧ w'.ownsRow W.heap.size 82 3 pv np (ptsP X Z H 2) ∧ w'.ownsRow W.heap.size 84 3 fv nf (sidesF X.length Z.length (X.length - 1) ++ flatsF X.length Z.length (X.length - 1) ++ endsF X.length Z.length (Z.length - 1)) from by
              have K := fun W hF => Mesh_ok ax az a cx cz c A C X Z H hs W hF
              rw [hl] at K
              exact K)
            have v := chk_fine hs
            have x2 := v.x2
            have z2 := v.z2
            have hx0 : ((X.length : Int) == 0) = false := by simp only [beq_eq_false_iff_ne]; omega
            have hz0 : ((Z.length : Int) == 0) = false := by simp only [beq_eq_false_iff_ne]; omega
            have hxe : ¬ X = [] := by rintro rfl; simp at x2
            have hze : ¬ Z = [] := by rintro rfl; simp at z2
            obtain ⟨bx, ox, rfl, hxi⟩ := HF.out.x (by omega)
            obtain ⟨bz, oz, rfl, hzi⟩ := HF.out.z (by omega)
            have bxl := v.xr (X.length - 1) (by omega)
            have bx0 := v.xr 0 (by omega)
            have bzl := v.zr (Z.length - 1) (by omega)
            have cxl := hxi.cell (X.length - 1) (by omega)
            have cx0 := hxi.first (by omega)
            have czl := hzi.cell (Z.length - 1) (by omega)
            have lx := hxi.lt
            have lz := hzi.lt
            have hxn : (X.length : Int) - 1 < (X.length : Int) := by omega
            have hS := Lib.hid (show ∀ np nf P F, Surf X Z H np nf P F → ps (detF P F) (fun _ => 1) nf = 12 * (ix X (X.length - 1) - ix X 0) * b * ix Z (Z.length - 1) from fun np nf P F S => by
              rw [S.box b HI0.out]
              grind)
            have HS := Lib.hid hs
            generalize ix X (X.length - 1) = xl at *
            generalize ix X 0 = x0 at *
            generalize ix Z (Z.length - 1) = zl at *
            have m1 := abs_mul_le (a := 12 * (xl - x0)) (b := b) (m := 786432) (k := 4096) (by omega) (by omega) (by omega) (by omega)
            have m2 := abs_mul_le (a := 12 * (xl - x0) * b) (b := zl) (m := 3221225472) (k := 4096) ⟨by omega, by omega⟩ ⟨by omega, by omega⟩ (by omega) (by omega)
            clear hs v hxi hzi HI0 hl
            go_wp2_with fail
            ((with_reducible refine (HP.out _ HF.out).mono ?_); rintro e w2 ⟨rfl, hb2⟩)
            obtain ⟨hc2, hf2⟩ := bcell hb2
            have d1 := (hb2.cell (p := ⟨bx, ox + (X.length - 1), none⟩) lx).trans cxl
            have d2 := (hb2.cell (p := ⟨bx, ox, none⟩) lx).trans cx0
            have d3 := (hb2.cell (p := ⟨bz, oz + (Z.length - 1), none⟩) lz).trans czl
            have bc2 := keep_cell hb2 bhi bc
            have bz2 := keep_lt hb2 bhi
            have HF2 := Lib.hid (HF.out.later hb2)
            have T2 := Lib.hid (T1.out.later hb2)
            have HW2 := Lib.hid (below_after HW.out hb2)
            clear cxl cx0 czl hc2 hf2 hb2 HF T1 HW bc
            go_upto_region 16 with (fail)
            go_region
            go_upto_region 17 with (fail)
            go_wp2_with fail
            ((with_reducible refine (MA.out _ (HF2.out.later (by (repeat' (first | (with_reducible exact Below.refl _ _) | (with_reducible assumption) | (with_reducible refine below_alloc ?_ _) | (with_reducible refine Below.drew ?_) | (with_reducible refine Below.setCell ?_ ?_ _) | (with_reducible refine below_after ?_ (by assumption)) | go_size))))).mono ?_); rintro e w3 ⟨pv, fv, np, nf, rfl, hb3, op, of⟩)
            obtain ⟨g, c1, k, d, P, F, rfl, rfl, l1, l2, r1, r2, S⟩ := mesh_surf HS.out op of
            have hb03 : Below w.heap.size w w3 := by have := HW2.out; (repeat' (first | (with_reducible exact Below.refl _ _) | (with_reducible assumption) | (with_reducible refine below_alloc ?_ _) | (with_reducible refine Below.drew ?_) | (with_reducible refine Below.setCell ?_ ?_ _) | (with_reducible refine below_after ?_ (by assumption)) | go_size))
            have T3 := Lib.hid (HT0.out.later hb03)
            have ht := hS.out np nf P F S
            have tb := ps_abs (detF P F) (fun _ => 1) nf (detF_abs S.inn S.abs) (fun _ _ => by omega) nf (Nat.le_refl _)
            have hfb := S.hf
            have VO := Lib.hid (show ∀ W, Below w3.heap.size w3 W → Calls Tryd.prog 23 #[.agg #[.slice (some ⟨g, 0, none⟩) np c1, .slice (some ⟨k, 0, none⟩) nf d]] W fun e w' => e = .returned (.tuple #[(.agg #[.bool (zs (ps (detF P F) (fun _ => 1) nf)), .int .u64 (wd (Int.natAbs (ps (detF P F) (fun _ => 1) nf)) 0), .int .u64 (wd (Int.natAbs (ps (detF P F) (fun _ => 1) nf)) 1), .int .u64 (wd (Int.natAbs (ps (detF P F) (fun _ => 1) nf)) 2), .int .u64 (wd (Int.natAbs (ps (detF P F) (fun _ => 1) nf)) 3)]), .int .i64 0]) ∧ Below W.heap.size W w' from
              fun W hb => vol6_in g k np nf c1 d P F S.inn S.hp S.hf S.abs S.shut S.vol W (fun q hq => (hb.cell (p := ⟨g, q, none⟩) l1).trans (r1 q hq)) (keep_lt hb l1) (fun q hq => (hb.cell (p := ⟨k, q, none⟩) l2).trans (r2 q hq)) (keep_lt hb l2))
            generalize ps (detF P F) (fun _ => 1) nf = t at *
            have OF := Lib.hid (show ∀ x, Calls Tryd.prog 24 #[.int .i64 (12 * (xl - x0) * b * zl)] x fun e w' => e = .returned (.agg #[.bool (zs (t)), .int .u64 (wd (Int.natAbs (t)) 0), .int .u64 (wd (Int.natAbs (t)) 1), .int .u64 (wd (Int.natAbs (t)) 2), .int .u64 (wd (Int.natAbs (t)) 3)]) ∧ Below x.heap.size x w' from by rw [ht]; exact fun x => of_any _ (by omega) (by omega) x)
            have EQ := fun x => eq_wide (zs t) (zs t) t.natAbs t.natAbs (by omega) (by omega) x
            have eb : (zs t == zs t && eqN t.natAbs t.natAbs) = true := by unfold eqN; simp
            simp only [eb] at EQ
            clear op of r1 r2 l1 l2 HS S eb ht tb hfb hS d1 d2 d3 bc2 bz2
            go_upto_region 18 with (fail)
            refine wp_world (fun x => (∀ o, x.cell? ⟨w3.heap.size, o, none⟩ = (#[.slice (some ⟨g, 0, none⟩) np c1, .slice (some ⟨k, 0, none⟩) nf d] : Array Value)[o]?) ∧ (∀ o, x.frozen? ⟨w3.heap.size, o, none⟩ = false) ∧ w3.heap.size < x.heap.size ∧ Below w3.heap.size w3 x) ⟨fun o => by simp [go_sem], fun o => by simp [go_sem], by (first | omega | (simp [go_sem]; done) | (simp [go_sem]; omega)), by (repeat' (first | (with_reducible exact Below.refl _ _) | (with_reducible assumption) | (with_reducible refine below_alloc ?_ _) | (with_reducible refine Below.drew ?_) | (with_reducible refine Below.setCell ?_ ?_ _) | (with_reducible refine below_after ?_ (by assumption)) | go_size))⟩ ?_
            rintro E ⟨hEc0, hEf0, hEz0, hEb⟩
            go_wp2_with fail
            ((with_reducible refine (VO.out _ (by (repeat' (first | (with_reducible exact Below.refl _ _) | (with_reducible assumption) | (with_reducible refine below_alloc ?_ _) | (with_reducible refine Below.drew ?_) | (with_reducible refine Below.setCell ?_ ?_ _) | (with_reducible refine below_after ?_ (by assumption)) | go_size)))).mono ?_); rintro e w4 ⟨rfl, hb4⟩)
            have hk4 : Kp E.heap.size [] E w4 := (by (repeat (first | (with_reducible assumption) | (with_reducible exact Kp.refl (Nat.le_refl _)) | (with_reducible refine Kp.drew ?_) | (with_reducible refine Kp.alloc ?_ _) | ((with_reducible refine Kp.put ?_ ?_ _); focus (first | (left; go_size; done) | (right; simp; done))) | ((with_reducible apply Kp.later); (with_reducible assumption)))))
            have h4c0 := fun o => (hk4.cell _ o hEz0 (by simp)).trans (hEc0 o)
            have h4f0 := fun o => (hk4.froz _ o hEz0).trans (hEf0 o)
            have h4z0 := Nat.lt_of_lt_of_le hEz0 hk4.size
            go_upto_region 19 with (fail)
            have p1 : IntKind.i64.wrap (12 * (xl - x0)) = 12 * (xl - x0) := by rw [IntKind.wrap_i64]; omega
            have p2 : IntKind.i64.wrap (12 * (xl - x0) * b) = 12 * (xl - x0) * b := by rw [IntKind.wrap_i64]; omega
            have p3 : IntKind.i64.wrap (12 * (xl - x0) * b * zl) = 12 * (xl - x0) * b * zl := by rw [IntKind.wrap_i64]; omega
            refine wp_world (fun x => (∀ o, x.cell? ⟨w4.heap.size, o, none⟩ = (#[.bool (zs (t)), .int .u64 (wd (Int.natAbs (t)) 0), .int .u64 (wd (Int.natAbs (t)) 1), .int .u64 (wd (Int.natAbs (t)) 2), .int .u64 (wd (Int.natAbs (t)) 3)] : Array Value)[o]?) ∧ w4.heap.size < x.heap.size ∧ Below w3.heap.size w3 x) ⟨fun o => by first | (simp [go_sem, h4c0, h4z0]; done) | (rcases o with _ | _ | _ | _ | _ | o <;> simp [go_sem, h4c0, h4z0]), by (first | omega | (simp [go_sem, h4c0, h4z0]; done) | (simp [go_sem, h4c0, h4z0]; omega)), by (repeat' (first | (with_reducible exact Below.refl _ _) | (with_reducible assumption) | (with_reducible refine below_alloc ?_ _) | (with_reducible refine Below.drew ?_) | (with_reducible refine Below.setCell ?_ ?_ _) | (with_reducible refine below_after ?_ (by assumption)) | go_size))⟩ ?_
            rintro V ⟨hVc0, hVz0, hVb⟩
            have hVK := Lib.hid (show ∀ x : World, Kp V.heap.size [] V x → ((∀ o, x.cell? ⟨w4.heap.size, o, none⟩ = (#[.bool (zs (t)), .int .u64 (wd (Int.natAbs (t)) 0), .int .u64 (wd (Int.natAbs (t)) 1), .int .u64 (wd (Int.natAbs (t)) 2), .int .u64 (wd (Int.natAbs (t)) 3)] : Array Value)[o]?) ∧ w4.heap.size < x.heap.size ∧ V.heap.size ≤ x.heap.size) from fun x k => ⟨fun o => (k.cell _ o hVz0 (by first | (simp; done) | (simp; omega))).trans (hVc0 o), Nat.lt_of_lt_of_le hVz0 k.size, k.size⟩)
            go_region_held3 (fun x => (∀ o, x.cell? ⟨w4.heap.size, o, none⟩ = (#[.bool (zs (t)), .int .u64 (wd (Int.natAbs (t)) 0), .int .u64 (wd (Int.natAbs (t)) 1), .int .u64 (wd (Int.natAbs (t)) 2), .int .u64 (wd (Int.natAbs (t)) 3)] : Array Value)[o]?) ∧ w4.heap.size < x.heap.size ∧ V.heap.size ≤ x.heap.size) ((refine hVK.out _ ?_; (repeat (first | (with_reducible assumption) | (with_reducible exact Kp.refl (Nat.le_refl _)) | (with_reducible refine Kp.drew ?_) | (with_reducible refine Kp.alloc ?_ _) | ((with_reducible refine Kp.put ?_ ?_ _); focus (first | (left; go_size; done) | (right; simp; done))) | ((with_reducible apply Kp.later); (with_reducible assumption)))))) ((first | (go_at_call 24; (with_reducible refine (OF.out _).mono ?_); rintro e V_1 ⟨rfl, hbV_1⟩; have hkV_1 : Kp V.heap.size [] V V_1 := (by (repeat (first | (with_reducible assumption) | (with_reducible exact Kp.refl (Nat.le_refl _)) | (with_reducible refine Kp.drew ?_) | (with_reducible refine Kp.alloc ?_ _) | ((with_reducible refine Kp.put ?_ ?_ _); focus (first | (left; go_size; done) | (right; simp; done))) | ((with_reducible apply Kp.later); (with_reducible assumption)))))) | (go_at_call 10; (with_reducible refine (awake54 _ ((T3.out.later hVb).kp (by (repeat (first | (with_reducible assumption) | (with_reducible exact Kp.refl (Nat.le_refl _)) | (with_reducible refine Kp.drew ?_) | (with_reducible refine Kp.alloc ?_ _) | ((with_reducible refine Kp.put ?_ ?_ _); focus (first | (left; go_size; done) | (right; simp; done))) | ((with_reducible apply Kp.later); (with_reducible assumption))))))).mono ?_); rintro e V_2 ⟨rfl, hbV_2⟩; have hkV_2 : Kp V.heap.size [] V V_2 := (by (repeat (first | (with_reducible assumption) | (with_reducible exact Kp.refl (Nat.le_refl _)) | (with_reducible refine Kp.drew ?_) | (with_reducible refine Kp.alloc ?_ _) | ((with_reducible refine Kp.put ?_ ?_ _); focus (first | (left; go_size; done) | (right; simp; done))) | ((with_reducible apply Kp.later); (with_reducible assumption))))))))
            all_goals go_wp2
            all_goals have hbV := below_after hb03 hVb
            all_goals go_returns
            all_goals exact ⟨rfl, by (repeat' (first | (with_reducible exact Below.refl _ _) | (with_reducible assumption) | (with_reducible refine below_alloc ?_ _) | (with_reducible refine Below.drew ?_) | (with_reducible refine Below.setCell ?_ ?_ _) | (with_reducible refine below_after ?_ (by assumption)) | go_size))⟩
          · have HP := Lib.hid (show ∀ W : World, Frm W ax az a A C X Z H → Calls Tryd.prog 11 #[.agg #[.slice ax X.length cx, .slice az Z.length cz, .slice a X.length c]] W fun e w' => e = .returned (.int .i64 (chk X Z H)) ∧ Below W.heap.size W w' from by
              have K := fun W h => check_any ax az a cx cz c A C X Z H W h
              rw [hl] at K
              exact K)
            generalize chk X Z H = r at *
            clear HI0 hl
            go_wp2_with fail
            ((with_reducible refine (HP.out _ HF.out).mono ?_); rintro e w2 ⟨rfl, hb2⟩)
            obtain ⟨hc2, hf2⟩ := bcell hb2
            have bc2 := keep_cell hb2 bhi bc
            have bz2 := keep_lt hb2 bhi
            have HW2 := Lib.hid (below_after HW.out hb2)
            clear hc2 hf2 HF
            go_wp2_with fail
            ((with_reducible refine (awake54 _ (T1.out.later (by (repeat' (first | (with_reducible exact Below.refl _ _) | (with_reducible assumption) | (with_reducible refine below_alloc ?_ _) | (with_reducible refine Below.drew ?_) | (with_reducible refine Below.setCell ?_ ?_ _) | (with_reducible refine below_after ?_ (by assumption)) | go_size))))).mono ?_); rintro e w3 ⟨rfl, hb3⟩)
            obtain ⟨hc3, hf3⟩ := bcell hb3
            go_wp2
            go_returns
            exact ⟨rfl, by have := HW2.out; (repeat' (first | (with_reducible exact Below.refl _ _) | (with_reducible assumption) | (with_reducible refine below_alloc ?_ _) | (with_reducible refine Below.drew ?_) | (with_reducible refine Below.setCell ?_ ?_ _) | (with_reducible refine below_after ?_ (by assumption)) | go_size))⟩
    · have hz16' : 16 < (Z.length : Int) := by omega
      have hx24' : ¬ 24 < (X.length : Int) := by omega
      clear hT hX hZ
      go_enter Tryd.func7, Tryd.ntmps7
      go_wp2_with fail
      ((with_reducible refine (awake54 _ HT.out).mono ?_); rintro e w1 ⟨rfl, hb1⟩)
      obtain ⟨hc1, hf1⟩ := bcell hb1
      go_wp2
      go_returns
      exact ⟨rfl, by (repeat' (first | (with_reducible exact Below.refl _ _) | (with_reducible assumption) | (with_reducible refine below_alloc ?_ _) | (with_reducible refine Below.drew ?_) | (with_reducible refine Below.setCell ?_ ?_ _) | (with_reducible refine below_after ?_ (by assumption)) | go_size))⟩
  · have hx24' : 24 < (X.length : Int) := by omega
    clear hT hX hZ
    go_enter Tryd.func7, Tryd.ntmps7
    go_wp2_with fail
    ((with_reducible refine (awake54 _ HT.out).mono ?_); rintro e w1 ⟨rfl, hb1⟩)
    obtain ⟨hc1, hf1⟩ := bcell hb1
    go_wp2
    go_returns
    exact ⟨rfl, by (repeat' (first | (with_reducible exact Below.refl _ _) | (with_reducible assumption) | (with_reducible refine below_alloc ?_ _) | (with_reducible refine Below.drew ?_) | (with_reducible refine Below.setCell ?_ ?_ _) | (with_reducible refine below_after ?_ (by assumption)) | go_size))⟩
end Go.Proofs.YtfmmnnodihpgmaaDoor
