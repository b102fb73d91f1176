/-
  What the reference's Check and Light of hull forms return.
  (Written by wip/pack.py out of XFHRefB.)
-/
import Derived.Test.YthikaimhmpenhaaDoorK35

namespace Go.Proofs.YthikaimhmpenhaaDoor
set_option linter.all false
open Go Go.RowKit Wd
set_option maxRecDepth 100000
theorem out0 (l : List Int) : anyOut 0 l = !nil0 l := by
  unfold anyOut nil0
  rw [Bool.eq_iff_iff, List.any_eq_true, Bool.not_eq_true', List.all_eq_false]
  constructor
  · rintro ⟨x, hx, h⟩
    refine ⟨x, hx, ?_⟩
    intro h0
    have : x = 0 := by simpa using h0
    subst this
    rw [out_in (by omega) (by omega)] at h
    exact absurd h (by simp)
  · rintro ⟨x, hx, h⟩
    refine ⟨x, hx, ?_⟩
    have h0 : x ≠ 0 := by simpa using h
    rcases Int.lt_or_lt_of_ne h0 with h1 | h1
    · exact out_neg h1
    · exact out_big h1
theorem rowsNil_no {H : List (List Int)} {k : Nat} (hk : k < H.length) (h : nil0 (row H k) = false) : rowsNil H H.length = false := by
  unfold rowsNil
  rw [List.take_length, List.all_eq_false]
  exact ⟨H[k], List.getElem_mem hk, by rw [← row_get hk, h]; simp⟩
set_option maxHeartbeats 4000000 in
theorem rcheck_any (ax az ah : Option Addr) (cx cz ch : Nat) (A : Nat → Option Addr) (C : Nat → Nat) (X Z : List Int) (H : List (List Int)) (w : World) (hf : Frm w ax az ah A C X Z H) :
    Calls Tryd.prog 12 #[.agg #[.slice ax X.length cx, .slice az Z.length cz, .slice ah H.length ch]] w fun e w' => e = .returned (.int .i64 (chk X Z H)) ∧ Below w.heap.size w w' := by
  by_cases g1 : X.length < 2 ∨ Z.length < 2
  · rw [show chk X Z H = 3 by unfold chk; rw [if_pos g1]]
    rcases (by omega : X.length < 2 ∨ (¬ X.length < 2 ∧ Z.length < 2)) with h | ⟨h, h'⟩
    · have HF := Lib.hid hf
      clear hf
      go_enter Tryd.func12, Tryd.ntmps12
      go_wp2_with ((with_reducible show bodyPost _ _ _ _ _ _); refine bodyPost_ret (by simp [results, Tryd.results12, go_sem, ]; try rfl) rfl ?_; exact ⟨rfl, by (repeat' first | (with_reducible first | exact Bq0 | assumption | refine Bq1 ?_ | refine Bq2 ?_ | refine Bq3 ?_ ?_ | refine Bq4 ?_ (by assumption)) | go_size)⟩)
    · have HF := Lib.hid hf
      clear hf
      go_enter Tryd.func12, Tryd.ntmps12
      go_wp2_with ((with_reducible show bodyPost _ _ _ _ _ _); refine bodyPost_ret (by simp [results, Tryd.results12, go_sem, ]; try rfl) rfl ?_; exact ⟨rfl, by (repeat' first | (with_reducible first | exact Bq0 | assumption | refine Bq1 ?_ | refine Bq2 ?_ | refine Bq3 ?_ ?_ | refine Bq4 ?_ (by assumption)) | go_size)⟩)
  by_cases g2 : 24 < X.length ∨ 16 < Z.length
  · rw [show chk X Z H = 4 by unfold chk; rw [if_neg g1, if_pos g2]]
    rcases (by omega : (24 < X.length ∧ 2 ≤ X.length ∧ 2 ≤ Z.length) ∨ (X.length ≤ 24 ∧ 2 ≤ X.length ∧ 2 ≤ Z.length ∧ 16 < Z.length)) with ⟨h1, h2, h3⟩ | ⟨h1, h2, h3, h4⟩
    · clear g1 g2
      have HF := Lib.hid hf
      clear hf
      go_enter Tryd.func12, Tryd.ntmps12
      go_wp2_with ((with_reducible show bodyPost _ _ _ _ _ _); refine bodyPost_ret (by simp [results, Tryd.results12, go_sem, ]; try rfl) rfl ?_; exact ⟨rfl, by (repeat' first | (with_reducible first | exact Bq0 | assumption | refine Bq1 ?_ | refine Bq2 ?_ | refine Bq3 ?_ ?_ | refine Bq4 ?_ (by assumption)) | go_size)⟩)
    · clear g1 g2
      have HF := Lib.hid hf
      clear hf
      go_enter Tryd.func12, Tryd.ntmps12
      go_wp2_with ((with_reducible show bodyPost _ _ _ _ _ _); refine bodyPost_ret (by simp [results, Tryd.results12, go_sem, ]; try rfl) rfl ?_; exact ⟨rfl, by (repeat' first | (with_reducible first | exact Bq0 | assumption | refine Bq1 ?_ | refine Bq2 ?_ | refine Bq3 ?_ ?_ | refine Bq4 ?_ (by assumption)) | go_size)⟩)
  have h1 : 2 ≤ X.length := by omega
  have h2 : 2 ≤ Z.length := by omega
  have h3 : X.length ≤ 24 := by omega
  have h4 : Z.length ≤ 16 := by omega
  obtain ⟨r, hr⟩ : ∃ r, r = chk X Z H := ⟨_, rfl⟩
  have R := hr
  unfold chk at R
  rw [if_neg g1, if_neg g2] at R
  rw [← hr]
  clear hr g1 g2
  have C1 := Lib.hid (fun (W : World) (h : Frm W ax az ah A C X Z H) => rows_any ax az ah cx cz ch A C X Z H (by omega) W h)
  have C2 := Lib.hid (fun (W : World) (h : Frm W ax az ah A C X Z H) => ranged_any 32768 X ax cx (by omega) W h.x)
  have C3 := Lib.hid (fun (W : World) (h : Frm W ax az ah A C X Z H) => ranged_any 4096 Z az cz (by omega) W h.z)
  have C4 := Lib.hid (fun (W : World) (h : Frm W ax az ah A C X Z H) => rasc_any X ax cx (by omega) W h.x)
  have C5 := Lib.hid (fun (W : World) (h : Frm W ax az ah A C X Z H) => rasc_any Z az cz (by omega) W h.z)
  have K1 := C1.out
  obtain ⟨b1, e1⟩ : ∃ b1, b1 = (decide (H.length = X.length) && !badRows Z.length H) := ⟨_, rfl⟩
  rw [← e1] at K1
  have KK1 := Lib.hid K1
  have E1 := Lib.hid e1
  have RR := Lib.hid R
  clear K1 e1 R C1
  cases b1
  case false =>
    obtain rfl : r = 17 := by
      have := RR.out
      rw [if_pos (by
        have h := E1.out
        by_cases g : H.length = X.length
        · exact Or.inr (by rw [show decide (H.length = X.length) = true by simpa using g, Bool.true_and] at h; simpa using h.symm)
        · exact Or.inl g)] at this
      exact this
    have HF := Lib.hid hf
    clear hf
    go_enter Tryd.func12, Tryd.ntmps12
    go_wp2_with fail
    ((with_reducible refine (KK1.out _ (HF.out.later (by (repeat' first | (with_reducible first | exact Bq0 | assumption | refine Bq1 ?_ | refine Bq2 ?_ | refine Bq3 ?_ ?_ | refine Bq4 ?_ (by assumption)) | go_size)))).mono ?_); rintro e w1 ⟨rfl, hb1⟩)
    obtain ⟨hc1, hf1⟩ := bcell hb1
    have hz1_w_0 : w.heap.size < w1.heap.size := by have h := hb1.size; (try simp at h); omega
    go_wp2_with ((with_reducible show bodyPost _ _ _ _ _ _); refine bodyPost_ret (by simp [results, Tryd.results12, go_sem, ]; try rfl) rfl ?_; exact ⟨rfl, by (repeat' first | (with_reducible first | exact Bq0 | assumption | refine Bq1 ?_ | refine Bq2 ?_ | refine Bq3 ?_ ?_ | refine Bq4 ?_ (by assumption)) | go_size)⟩)
  have hE := E1.out.symm
  rw [Bool.and_eq_true] at hE
  have hl : H.length = X.length := by simpa using hE.1
  have hbad : badRows Z.length H = false := by simpa using hE.2
  have RT := RR.out
  rw [if_neg (by simp [hl, hbad])] at RT
  clear E1 RR hE
  have BR := Lib.hid hbad
  have HL := Lib.hid hl
  clear hbad hl
  have hH24 : H.length ≤ 24 := by have := HL.out; omega
  obtain ⟨b2, e2⟩ : ∃ b2, b2 = anyOut 32768 X := ⟨_, rfl⟩
  obtain ⟨b3, e3⟩ : ∃ b3, b3 = anyOut 4096 Z := ⟨_, rfl⟩
  rw [← e2, ← e3] at RT
  rw [← e2] at C2
  rw [← e3] at C3
  clear e2 e3
  obtain ⟨bz, oz, rfl, hzi⟩ := hf.z (by omega)
  obtain ⟨bh, oh, rfl, hri⟩ := hf.h (by have := HL.out; omega)
  have HRI := Lib.hid hri
  have HZI := Lib.hid hzi
  have lh := hri.lt
  have lz := hzi.lt
  clear hri hzi
  have R3 := Lib.hid RT
  clear RT
  have HF := Lib.hid hf
  clear hf
  go_enter Tryd.func12, Tryd.ntmps12
  go_wp2_with fail
  ((with_reducible refine (KK1.out _ (HF.out.later (by (repeat' first | (with_reducible first | exact Bq0 | assumption | refine Bq1 ?_ | refine Bq2 ?_ | refine Bq3 ?_ ?_ | refine Bq4 ?_ (by assumption)) | go_size)))).mono ?_); rintro e w1 ⟨rfl, hb1⟩)
  obtain ⟨hc1, hf1⟩ := bcell hb1
  have hz1_w_0 : w.heap.size < w1.heap.size := by have h := hb1.size; (try simp at h); omega
  go_wp2_with fail
  ((with_reducible refine (C2.out _ (HF.out.later (by (repeat' first | (with_reducible first | exact Bq0 | assumption | refine Bq1 ?_ | refine Bq2 ?_ | refine Bq3 ?_ ?_ | refine Bq4 ?_ (by assumption)) | go_size)))).mono ?_); rintro e w2 ⟨rfl, hb2⟩)
  obtain ⟨hc2, hf2⟩ := bcell hb2
  have hz2_w_0 : w.heap.size < w2.heap.size := by have h := hb2.size; (try simp at h); omega
  cases b2
  case true =>
    obtain rfl : r = 9 := by have := R3.out; rw [if_pos (Or.inl rfl)] at this; exact this
    go_wp2_with ((with_reducible show bodyPost _ _ _ _ _ _); refine bodyPost_ret (by simp [results, Tryd.results12, go_sem, ]; try rfl) rfl ?_; exact ⟨rfl, by (repeat' first | (with_reducible first | exact Bq0 | assumption | refine Bq1 ?_ | refine Bq2 ?_ | refine Bq3 ?_ ?_ | refine Bq4 ?_ (by assumption)) | go_size)⟩)
  go_wp2_with fail
  ((with_reducible refine (C3.out _ (HF.out.later (by (repeat' first | (with_reducible first | exact Bq0 | assumption | refine Bq1 ?_ | refine Bq2 ?_ | refine Bq3 ?_ ?_ | refine Bq4 ?_ (by assumption)) | go_size)))).mono ?_); rintro e w3 ⟨rfl, hb3⟩)
  obtain ⟨hc3, hf3⟩ := bcell hb3
  have hz3_w_0 : w.heap.size < w3.heap.size := by have h := hb3.size; (try simp at h); omega
  cases b3
  case true =>
    obtain rfl : r = 9 := by have := R3.out; rw [if_pos (Or.inr rfl)] at this; exact this
    go_wp2_with ((with_reducible show bodyPost _ _ _ _ _ _); refine bodyPost_ret (by simp [results, Tryd.results12, go_sem, ]; try rfl) rfl ?_; exact ⟨rfl, by (repeat' first | (with_reducible first | exact Bq0 | assumption | refine Bq1 ?_ | refine Bq2 ?_ | refine Bq3 ?_ ?_ | refine Bq4 ?_ (by assumption)) | go_size)⟩)
  have RT2 := R3.out
  rw [if_neg (by simp)] at RT2
  have RU := Lib.hid RT2
  clear RT2 R3 C2 C3 KK1
  go_upto_region 9 with (fail)
  refine wp_world (fun x => (∀ o, x.cell? ⟨w.heap.size, o, none⟩ = (#[.slice ax X.length cx, .slice (some ⟨bz, oz, none⟩) Z.length cz, .slice (some ⟨bh, oh, none⟩) H.length ch] : Array Value)[o]?) ∧ (∀ o, x.frozen? ⟨w.heap.size, o, none⟩ = false) ∧ w.heap.size < x.heap.size ∧ Below w.heap.size w x) (by (repeat' apply And.intro) <;> first | (intro o; simp [go_sem, hc1, hf1, hz1_w_0, hc2, hf2, hz2_w_0, hc3, hf3, hz3_w_0]; done) | ((repeat' first | (with_reducible first | exact Bq0 | assumption | refine Bq1 ?_ | refine Bq2 ?_ | refine Bq3 ?_ ?_ | refine Bq4 ?_ (by assumption)) | go_size); done) | omega | (simp [go_sem, hc1, hf1, hz1_w_0, hc2, hf2, hz2_w_0, hc3, hf3, hz3_w_0]; done) | (simp [go_sem, hc1, hf1, hz1_w_0, hc2, hf2, hz2_w_0, hc3, hf3, hz3_w_0]; omega)) ?_
  rintro G ⟨hGc0, hGf0, hGz0, hGb⟩
  clear hb1 hc1 hf1 hb2 hc2 hf2 hb3 hc3 hf3
  go_wp2
  go_loopg [3] H.length (fun gg i wr => ∃ k : Nat, k ≤ H.length ∧ H.length - k ≤ gg ∧ i = .int .i64 (k : Int) ∧ Hid (rowsOut 4096 H k = false) ∧ Hid (Below G.heap.size G wr))
  case atStart => exact ⟨0, by omega, by omega, rfl, Lib.hid (rowsOut_zero _ _), Lib.hid (Below.refl _ _)⟩
  case round =>
    obtain ⟨k, hk, hgk, rfl, HO, HB⟩ := hrel
    have c0 := keep_cell HB.out hGz0 hGc0
    have z0 := keep_lt HB.out hGz0
    have hWr : Below w.heap.size w wr := below_after hGb HB.out
    have hBG := HB.out.size
    by_cases hlt : k < H.length
    · have hri := HRI.out.later hWr
      have hcell := hri.cell k hlt
      have hlen : (row H k).length = Z.length := badRows_at BR.out hlt
      have hrow := hri.row k hlt
      have K0 := ranged_any 4096 (row H k) (A k) (C k) (by omega)
      have HS1 := Lib.hid (rowsOut_succ 4096 hlt)
      have HE := Lib.hid (fun h : rowsOut 4096 H (k + 1) = true => rowsOut_more (by omega) h)
      have lh' := keep_lt hWr lh
      rw [hlen] at hcell K0
      obtain ⟨b5, e5⟩ : ∃ b5, b5 = anyOut 4096 (row H k) := ⟨_, rfl⟩
      rw [← e5] at HS1 K0
      have HRW := Lib.hid hrow
      have K0' := Lib.hid K0
      clear hri hrow hlen K0 e5 hGc0 hGf0
      go_wp2_with fail
      ((with_reducible refine (K0'.out _ HRW.out).mono ?_); rintro e w2 ⟨rfl, hb2⟩)
      cases b5
      case true =>
        obtain rfl : r = 9 := by have := RU.out; rw [if_pos (HE.out (by rw [HS1.out]; simp))] at this; exact this
        go_wp2_with ((with_reducible show bodyPost _ _ _ _ _ _); refine bodyPost_ret (by simp [results, Tryd.results12, go_sem, ]; try rfl) rfl ?_; exact ⟨rfl, by (repeat' first | (with_reducible first | exact Bq0 | assumption | refine Bq1 ?_ | refine Bq2 ?_ | refine Bq3 ?_ ?_ | refine Bq4 ?_ (by assumption)) | go_size)⟩)
      have HB2 := Lib.hid (below_after HB.out hb2)
      go_wp2
      go_roundg (H.length - (k + 1))
      case rel => exact ⟨k + 1, by omega, by omega, by go_num, Lib.hid (by rw [HS1.out, HO.out]; rfl), HB2⟩
      case measure => omega
    · obtain rfl : k = H.length := by omega
      have RU2 := RU.out
      rw [if_neg (by rw [HO.out]; simp)] at RU2
      have HFW := Lib.hid (HF.out.later hWr)
      have HZ := Lib.hid (HZI.out.later hWr)
      have lz' := keep_lt hWr lz
      obtain ⟨b7, e7⟩ : ∃ b7, b7 = asc X := ⟨_, rfl⟩
      obtain ⟨b8, e8⟩ : ∃ b8, b8 = asc Z := ⟨_, rfl⟩
      rw [← e7] at C4
      rw [← e8] at C5
      rw [← e7, ← e8] at RU2
      have RV := Lib.hid RU2
      clear RU2 RU e7 e8 hGc0 hGf0
      go_wp2_with fail
      ((with_reducible refine (C4.out _ HFW.out).mono ?_); rintro e w1 ⟨rfl, hb1⟩)
      have HF2 := Lib.hid (HFW.out.later hb1)
      have c1 := keep_cell hb1 z0 c0
      have z1 := keep_lt hb1 z0
      have hW1 := below_after hWr hb1
      cases b7
      case false =>
        obtain rfl : r = 11 := by have := RV.out; rw [if_pos (Or.inl rfl)] at this; exact this
        go_wp2_with ((with_reducible show bodyPost _ _ _ _ _ _); refine bodyPost_ret (by simp [results, Tryd.results12, go_sem, ]; try rfl) rfl ?_; exact ⟨rfl, by (repeat' first | (with_reducible first | exact Bq0 | assumption | refine Bq1 ?_ | refine Bq2 ?_ | refine Bq3 ?_ ?_ | refine Bq4 ?_ (by assumption)) | go_size)⟩)
      go_wp2_with fail
      ((with_reducible refine (C5.out _ HF2.out).mono ?_); rintro e w2 ⟨rfl, hb2⟩)
      have c2 := keep_cell hb2 z1 c1
      have z2 := keep_lt hb2 z1
      have hW2 := below_after hW1 hb2
      have cz0 := (HZ.out.later (below_after hb1 hb2)).first (by omega)
      have lz2 := keep_lt hW2 lz
      cases b8
      case false =>
        obtain rfl : r = 11 := by have := RV.out; rw [if_pos (Or.inr (Or.inl rfl))] at this; exact this
        go_wp2_with ((with_reducible show bodyPost _ _ _ _ _ _); refine bodyPost_ret (by simp [results, Tryd.results12, go_sem, ]; try rfl) rfl ?_; exact ⟨rfl, by (repeat' first | (with_reducible first | exact Bq0 | assumption | refine Bq1 ?_ | refine Bq2 ?_ | refine Bq3 ?_ ?_ | refine Bq4 ?_ (by assumption)) | go_size)⟩)
      by_cases h0 : ix Z 0 = 0
      · rw [h0] at cz0
        have RW1 := RV.out
        rw [if_neg (by simp [h0])] at RW1
        have RX := Lib.hid RW1
        clear RW1 RV h0 c0 c1 z0 z1 hb1 hb2 HB hWr hW1 HFW HF2 HZ lz'
        go_wp2
        go_loopg [4] H.length (fun gg i wy => ∃ k : Nat, k ≤ H.length ∧ H.length - k ≤ gg ∧ i = .int .i64 (k : Int) ∧ Hid (rowsNil H k = true) ∧ Hid (Below w2.heap.size w2 wy))
        case atStart => exact ⟨0, by omega, by omega, rfl, Lib.hid (rowsNil_zero _), Lib.hid (Below.refl _ _)⟩
        case round =>
          obtain ⟨q, hq, hgq, rfl, HN, HY⟩ := hrel
          have d0 := keep_cell HY.out z2 c2
          have dz0 := keep_lt HY.out z2
          have hWy : Below w.heap.size w wr := below_after hW2 HY.out
          clear c2 z2 cz0
          by_cases hltq : q < H.length
          · have hri := HRI.out.later hWy
            have hcell := hri.cell q hltq
            have hlen : (row H q).length = Z.length := badRows_at BR.out hltq
            have hrow := hri.row q hltq
            have K0 := ranged_any 0 (row H q) (A q) (C q) (by omega)
            have HS1 := Lib.hid (rowsNil_succ hltq)
            have hNo := Lib.hid (fun h : nil0 (row H q) = false => rowsNil_no hltq h)
            have lh' := keep_lt hWy lh
            rw [hlen] at hcell K0
            rw [out0] at K0
            obtain ⟨b5, e5⟩ : ∃ b5, b5 = nil0 (row H q) := ⟨_, rfl⟩
            rw [← e5] at HS1 K0 hNo
            have HRW := Lib.hid hrow
            have K0' := Lib.hid K0
            clear hri hrow hlen K0 e5
            go_wp2_with fail
            ((with_reducible refine (K0'.out _ HRW.out).mono ?_); rintro e w4 ⟨rfl, hb4⟩)
            cases b5
            case false =>
              obtain rfl : r = 0 := by have := RX.out; rw [if_neg (by rw [hNo.out rfl]; simp)] at this; exact this
              go_wp2_with ((with_reducible show bodyPost _ _ _ _ _ _); refine bodyPost_ret (by simp [results, Tryd.results12, go_sem, ]; try rfl) rfl ?_; exact ⟨rfl, by (repeat' first | (with_reducible first | exact Bq0 | assumption | refine Bq1 ?_ | refine Bq2 ?_ | refine Bq3 ?_ ?_ | refine Bq4 ?_ (by assumption)) | go_size)⟩)
            have HB2 := Lib.hid (below_after HY.out hb4)
            go_wp2
            go_roundg (H.length - (q + 1))
            case rel => exact ⟨q + 1, by omega, by omega, by go_num, Lib.hid (by rw [HS1.out, HN.out]; rfl), HB2⟩
            case measure => omega
          · obtain rfl : q = H.length := by omega
            obtain rfl : r = 17 := by have := RX.out; rw [if_pos HN.out] at this; exact this
            go_wp2_with ((with_reducible show bodyPost _ _ _ _ _ _); refine bodyPost_ret (by simp [results, Tryd.results12, go_sem, ]; try rfl) rfl ?_; exact ⟨rfl, by (repeat' first | (with_reducible first | exact Bq0 | assumption | refine Bq1 ?_ | refine Bq2 ?_ | refine Bq3 ?_ ?_ | refine Bq4 ?_ (by assumption)) | go_size)⟩)
      · obtain rfl : r = 11 := by have := RV.out; rw [if_pos (Or.inr (Or.inr h0))] at this; exact this
        go_wp2_with ((with_reducible show bodyPost _ _ _ _ _ _); refine bodyPost_ret (by simp [results, Tryd.results12, go_sem, ]; try rfl) rfl ?_; exact ⟨rfl, by (repeat' first | (with_reducible first | exact Bq0 | assumption | refine Bq1 ?_ | refine Bq2 ?_ | refine Bq3 ?_ ?_ | refine Bq4 ?_ (by assumption)) | go_size)⟩)
end Go.Proofs.YthikaimhmpenhaaDoor
