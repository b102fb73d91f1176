/-
  What package hydro's Volume and Moments return of a valid form.
  What the reference's small functions on hull forms return: ranged, ascending, rows, Light.
  (Written by wip/pack.py out of XFHyN, XFHRefA.)
-/
import Derived.Test.YthikaimhmpenhaaDoorK33
import Derived.Test.YthikaimhmpenhaaDoorK25
import Derived.Laws.EntriesVeiled

namespace Go.Proofs.YthikaimhmpenhaaDoor
set_option linter.all false
open Go Go.RowKit Wd
set_option maxRecDepth 100000
theorem areaF (w : World) : Calls Tryd.prog 19 #[] w fun e w' => e = .returned (.agg #[.func (.func 43) #[] #[]]) ∧ Below w.heap.size w w' := by
  go_enter Tryd.func19, Tryd.ntmps19
  go_wp2_with ((with_reducible show bodyPost _ _ _ _ _ _); refine bodyPost_ret (by simp [results, Tryd.results19, go_sem, ]; try rfl) rfl ?_; exact ⟨rfl, by (repeat' first | (with_reducible first | exact Bq0 | assumption | refine Bq1 ?_ | refine Bq2 ?_ | refine Bq3 ?_ ?_ | refine Bq4 ?_ (by assumption)) | go_size)⟩)
theorem longF (w : World) : Calls Tryd.prog 24 #[] w fun e w' => e = .returned (.agg #[.func (.func 49) #[] #[]]) ∧ Below w.heap.size w w' := by
  go_enter Tryd.func24, Tryd.ntmps24
  go_wp2_with ((with_reducible show bodyPost _ _ _ _ _ _); refine bodyPost_ret (by simp [results, Tryd.results24, go_sem, ]; try rfl) rfl ?_; exact ⟨rfl, by (repeat' first | (with_reducible first | exact Bq0 | assumption | refine Bq1 ?_ | refine Bq2 ?_ | refine Bq3 ?_ ?_ | refine Bq4 ?_ (by assumption)) | go_size)⟩)
theorem Fm.frm {w : World} {bX oX bZ oZ bH oH : Nat} {A : Nat → Option Addr} {C : Nat → Nat} {X Z : List Int} {H : List (List Int)} (h : Fm w bX oX bZ oZ bH oH A C X Z H) : Frm w (some ⟨bX, oX, none⟩) (some ⟨bZ, oZ, none⟩) (some ⟨bH, oH, none⟩) A C X Z H :=
  ⟨fun _ => ⟨bX, oX, rfl, h.x⟩, fun _ => ⟨bZ, oZ, rfl, h.z⟩, fun _ => ⟨bH, oH, rfl, h.h⟩⟩
set_option maxHeartbeats 4000000 in
theorem limitsH {X Z : List Int} {H : List (List Int)} {z : Int} (hc : chk X Z H = 0) (hz0 : 0 ≤ z) (hz1 : z ≤ ix Z (Z.length - 1)) (hl : 1 ≤ Z.length) (hl' : Z.length ≤ 16) (bX oX cX bZ oZ cZ bH oH cH : Nat) (A : Nat → Option Addr) (C : Nat → Nat) (w : World) (hF : Fm w bX oX bZ oZ bH oH A C X Z H) :
    Calls Tryd.prog 17 #[.agg #[.slice (some ⟨bX, oX, none⟩) X.length cX, .slice (some ⟨bZ, oZ, none⟩) Z.length cZ, .slice (some ⟨bH, oH, none⟩) H.length cH], .int .i64 z] w fun e w' => e = .returned (.int .i64 0) ∧ Below w.heap.size w w' := by
  have HK := Lib.hid (fun x (hb : Below w.heap.size w x) => check_any (some ⟨bX, oX, none⟩) (some ⟨bZ, oZ, none⟩) (some ⟨bH, oH, none⟩) cX cZ cH A C X Z H x ((hF.later hb).frm))
  have HF := Lib.hid hF
  rw [hc] at HK
  have hlI : (1 : Int) ≤ (Z.length : Int) := by omega
  have hlI' : (Z.length : Int) ≤ 16 := by omega
  have e1 : ((Z.length : Int) - 1).toNat = Z.length - 1 := by omega
  have e2 : (0 : Int) ≤ (Z.length : Int) - 1 := by omega
  have e3 : ((Z.length : Int) - 1) < (Z.length : Int) := by omega
  have hZ := Lib.hid (show ∀ x, Below w.heap.size w x → x.cell? ⟨bZ, oZ + (Z.length - 1), none⟩ = some (.int .i64 (ix Z (Z.length - 1))) from fun x hb => (hF.later hb).z.cell (Z.length - 1) (by omega))
  clear hF hc
  generalize ix Z (Z.length - 1) = zl at *
  go_enter Tryd.func17, Tryd.ntmps17
  go_wp2_with fail
  ((with_reducible refine (HK.out _ (by (repeat' first | (with_reducible first | exact Bq0 | assumption | refine Bq1 ?_ | refine Bq2 ?_ | refine Bq3 ?_ ?_ | refine Bq4 ?_ (by assumption)) | go_size))).mono ?_); rintro e w0 ⟨rfl, hb0⟩)
  obtain ⟨hc0, hf0⟩ := bcell hb0
  have hz0_w_0 : w.heap.size < w0.heap.size := by have h := hb0.size; (try simp at h); omega
  have q := hZ.out w0 (by (repeat' first | (with_reducible first | exact Bq0 | assumption | refine Bq1 ?_ | refine Bq2 ?_ | refine Bq3 ?_ ?_ | refine Bq4 ?_ (by assumption)) | go_size))
  have h1 : ¬ z < 0 := by omega
  have h2 : ¬ zl < z := by omega
  clear HF HK hZ
  go_wp2_with ((with_reducible show bodyPost _ _ _ _ _ _); refine bodyPost_ret (by simp [results, Tryd.results17, go_sem, hc0, hf0, hz0_w_0]; try rfl) rfl ?_; exact ⟨rfl, by (repeat' first | (with_reducible first | exact Bq0 | assumption | refine Bq1 ?_ | refine Bq2 ?_ | refine Bq3 ?_ ?_ | refine Bq4 ?_ (by assumption)) | go_size)⟩)
def VolC (X Z : List Int) (H : List (List Int)) (z : Int) (r : Fr) : Prop := ∀ (bX oX cX bZ oZ cZ bH oH cH : Nat) (A : Nat → Option Addr) (C : Nat → Nat) (w : World), Tab64 w → Fm w bX oX bZ oZ bH oH A C X Z H →
  Calls Tryd.prog 7 #[.agg #[.slice (some ⟨bX, oX, none⟩) X.length cX, .slice (some ⟨bZ, oZ, none⟩) Z.length cZ, .slice (some ⟨bH, oH, none⟩) H.length cH], .int .i64 z] w fun e w' => e = .returned (.tuple #[(.agg #[.bool ((r).s), .int .u64 ↑r.a, .int .u64 0, .int .u64 0, .int .u64 0, .bool false, .int .u64 ↑r.d, .int .u64 0, .int .u64 0, .int .u64 0]), .int .i64 0]) ∧ Below w.heap.size w w'
set_option maxHeartbeats 4000000 in
theorem volumeH {X Z : List Int} {H : List (List Int)} {z : Int} {r : Fr} (hc : chk X Z H = 0) (hz0 : 0 ≤ z) (hz1 : z ≤ ix Z (Z.length - 1)) (hl : 1 ≤ Z.length) (hl' : Z.length ≤ 16) (hb : BelC 43 X Z H false z r) : VolC X Z H z r := by
  intro bX oX cX bZ oZ cZ bH oH cH A C w hT hF
  have HL := Lib.hid (fun x (hb : Below w.heap.size w x) => limitsH hc hz0 hz1 hl hl' bX oX cX bZ oZ cZ bH oH cH A C x (hF.later hb))
  have HB := Lib.hid (fun x (h : Below w.heap.size w x) => hb bX oX cX bZ oZ cZ bH oH cH A C x (hT.later h) (hF.later h))
  clear hc hz0 hz1 hl hl' hb hT hF
  go_enter Tryd.func7, Tryd.ntmps7
  go_wp2_with fail
  ((with_reducible refine (HL.out _ (by (repeat' first | (with_reducible first | exact Bq0 | assumption | refine Bq1 ?_ | refine Bq2 ?_ | refine Bq3 ?_ ?_ | refine Bq4 ?_ (by assumption)) | go_size))).mono ?_); rintro e w0 ⟨rfl, hb0⟩)
  obtain ⟨hc0, hf0⟩ := bcell hb0
  have hz0_w_0 : w.heap.size < w0.heap.size := by have h := hb0.size; (try simp at h); omega
  have hz0_w_1 : w.heap.size + 1 < w0.heap.size := by have h := hb0.size; (try simp at h); omega
  go_upto_region 4 with (fail)
  refine wp_world (fun x => (∀ o, x.cell? ⟨w.heap.size, o, none⟩ = (#[.slice (some ⟨bX, oX, none⟩) X.length cX, .slice (some ⟨bZ, oZ, none⟩) Z.length cZ, .slice (some ⟨bH, oH, none⟩) H.length cH] : Array Value)[o]?) ∧ (∀ o, x.cell? ⟨w.heap.size + 1, o, none⟩ = (#[.bool false, .int .u64 0, .int .u64 0, .int .u64 0, .int .u64 0, .bool false, .int .u64 0, .int .u64 0, .int .u64 0, .int .u64 0] : Array Value)[o]?) ∧ (∀ o, x.frozen? ⟨w.heap.size, o, none⟩ = false) ∧ (∀ o, x.frozen? ⟨w.heap.size + 1, o, none⟩ = false) ∧ w.heap.size < x.heap.size ∧ w.heap.size + 1 < x.heap.size ∧ Below w.heap.size w x) (by (repeat' apply And.intro) <;> first | (intro o; simp [go_sem, hc0, hf0, hz0_w_0, hz0_w_1]; done) | ((repeat' first | (with_reducible first | exact Bq0 | assumption | refine Bq1 ?_ | refine Bq2 ?_ | refine Bq3 ?_ ?_ | refine Bq4 ?_ (by assumption)) | go_size); done) | omega | (simp [go_sem, hc0, hf0, hz0_w_0, hz0_w_1]; done) | (simp [go_sem, hc0, hf0, hz0_w_0, hz0_w_1]; omega)) ?_
  rintro G ⟨hGc0, hGc1, hGf0, hGf1, hGz0, hGz1, hGb⟩
  have KA := fun (x : World) (hx : Below G.heap.size G x) => And.intro (keep_cell hx hGz0 hGc0) (And.intro (keep_cell hx hGz1 hGc1) (And.intro (keep_frozen hx hGz1 hGf1) (keep_lt hx hGz1)))
  refine wp_region_kn 4 [.val (.agg #[.slice (some ⟨bX, oX, none⟩) X.length cX, .slice (some ⟨bZ, oZ, none⟩) Z.length cZ, .slice (some ⟨bH, oH, none⟩) H.length cH]), .val (.int .i64 z), .val (.agg #[.func (.func 43) #[] #[]]), .val ((.agg #[.bool ((r).s), .int .u64 ↑r.a, .int .u64 0, .int .u64 0, .int .u64 0, .bool false, .int .u64 ↑r.d, .int .u64 0, .int .u64 0, .int .u64 0]))] G (by kernel_rfl) (by kernel_rfl) (by kernel_rfl) (by kernel_rfl) (by kernel_rfl) (by decide) (Below.refl _ _) ?_ ?_
  · refine steps_next (n := 0) ⟨_, by rfl, fun vals x hx hj => ?_⟩ ?_
    · have hk := KA x hx; clear hj; refine kn_val hx ?_; simp only [putF, dstO, Act.put]; go_simp
    refine steps_next (n := 1) ⟨_, by rfl, fun vals x hx hj => ?_⟩ ?_
    · have hk := KA x hx; clear hj; refine kn_val hx ?_; simp only [putF, dstO, Act.put]; go_simp; (try first | with_reducible rfl | (intros; omega) | (simp only [IntKind.wrap_i64]; omega))
    refine steps_next (n := 2) ⟨_, by rfl, fun vals x hx hj => ?_⟩ ?_
    · have hk := KA x hx; clear hj; refine kn_call hx (areaF x) ?_; simp only [putF, dstO, Act.put]; go_simp
    refine steps_next (n := 3) ⟨_, by rfl, fun vals x hx hj => ?_⟩ ?_
    · have hk := KA x hx; have e0 : _ = _ := hj 0 (by decide +kernel); have e1 : _ = _ := hj 1 (by decide +kernel); have e2 : _ = _ := hj 2 (by decide +kernel); clear hj; refine kn_call hx (HB.out x (below_after hGb hx)) ?_; simp only [putF, dstO, Act.put]; (try simp only [e0, e1, e2]); go_simp
    exact steps_end
  intro vals Gx hGx hv
  have hkGx := KA Gx hGx
  have e0 : _ = _ := hv 0 (by omega)
  have e1 : _ = _ := hv 1 (by omega)
  have e2 : _ = _ := hv 2 (by omega)
  have e3 : _ = _ := hv 3 (by omega)
  clear hv
  simp only [putF, dstO, Act.put]
  (try simp only [e0, e1, e2, e3])
  refine wpAny_ready (rs := [4]) (by decide +kernel) (by simp) (AllReady.cons rfl (fun KK hKK => ?_) AllReady.nil)
  go_simp
  (refine hKK _ _ ?_); clear hKK KK; (try simp only [Nq1, Nq2, Nq3, Act.put, Nq4, Nq5, Nq6])
  refine wpAny_ready (rs := [5]) (by decide +kernel) (by simp) (AllReady.cons rfl (fun KK hKK => ?_) AllReady.nil)
  go_simp
  (refine hKK _ _ ?_); clear hKK KK; (try simp only [Nq1, Nq2, Nq3, Act.put, Nq4, Nq5, Nq6])
  refine wpAny_done (by kernel_rfl) ?_ _
  have q1 := keep_cell hGx hGz1 hGc1
  have f1 := keep_frozen hGx hGz1 hGf1
  have l1 := keep_lt hGx hGz1
  have hB := below_after hGb hGx
  clear KA hkGx HL HB hb0 hc0 hf0
  go_wp2_with ((with_reducible show bodyPost _ _ _ _ _ _); refine bodyPost_ret (by simp [results, Tryd.results7, go_sem, q1, f1, l1]; try rfl) rfl ?_; exact ⟨rfl, by (repeat' first | (with_reducible first | exact Bq0 | assumption | refine Bq1 ?_ | refine Bq2 ?_ | refine Bq3 ?_ ?_ | refine Bq4 ?_ (by assumption)) | go_size)⟩)
def MomC (X Z : List Int) (H : List (List Int)) (z : Int) (r s : Fr) : Prop := ∀ (bX oX cX bZ oZ cZ bH oH cH : Nat) (A : Nat → Option Addr) (C : Nat → Nat) (w : World), Tab64 w → Fm w bX oX bZ oZ bH oH A C X Z H →
  Calls Tryd.prog 11 #[.agg #[.slice (some ⟨bX, oX, none⟩) X.length cX, .slice (some ⟨bZ, oZ, none⟩) Z.length cZ, .slice (some ⟨bH, oH, none⟩) H.length cH], .int .i64 z] w fun e w' => e = .returned (.tuple #[(.agg #[.bool ((r).s), .int .u64 ↑r.a, .int .u64 0, .int .u64 0, .int .u64 0, .bool false, .int .u64 ↑r.d, .int .u64 0, .int .u64 0, .int .u64 0]), (.agg #[.bool ((s).s), .int .u64 ↑s.a, .int .u64 0, .int .u64 0, .int .u64 0, .bool false, .int .u64 ↑s.d, .int .u64 0, .int .u64 0, .int .u64 0]), .int .i64 0]) ∧ Below w.heap.size w w'
set_option maxHeartbeats 4000000 in
theorem momentsH {X Z : List Int} {H : List (List Int)} {z : Int} {r s : Fr} (hc : chk X Z H = 0) (hz0 : 0 ≤ z) (hz1 : z ≤ ix Z (Z.length - 1)) (hl : 1 ≤ Z.length) (hl' : Z.length ≤ 16) (hb : BelC 49 X Z H false z r) (hh : BelC 43 X Z H true z s) : MomC X Z H z r s := by
  intro bX oX cX bZ oZ cZ bH oH cH A C w hT hF
  have HL := Lib.hid (fun x (hb : Below w.heap.size w x) => limitsH hc hz0 hz1 hl hl' bX oX cX bZ oZ cZ bH oH cH A C x (hF.later hb))
  have HB := Lib.hid (fun x (h : Below w.heap.size w x) => hb bX oX cX bZ oZ cZ bH oH cH A C x (hT.later h) (hF.later h))
  have HH := Lib.hid (fun x (h : Below w.heap.size w x) => hh bX oX cX bZ oZ cZ bH oH cH A C x (hT.later h) (hF.later h))
  clear hc hz0 hz1 hl hl' hb hh hT hF
  go_enter Tryd.func11, Tryd.ntmps11
  go_wp2_with fail
  ((with_reducible refine (HL.out _ (by (repeat' first | (with_reducible first | exact Bq0 | assumption | refine Bq1 ?_ | refine Bq2 ?_ | refine Bq3 ?_ ?_ | refine Bq4 ?_ (by assumption)) | go_size))).mono ?_); rintro e w0 ⟨rfl, hb0⟩)
  obtain ⟨hc0, hf0⟩ := bcell hb0
  have hz0_w_0 : w.heap.size < w0.heap.size := by have h := hb0.size; (try simp at h); omega
  have hz0_w_1 : w.heap.size + 1 < w0.heap.size := by have h := hb0.size; (try simp at h); omega
  have hz0_w_2 : w.heap.size + 1 + 1 < w0.heap.size := by have h := hb0.size; (try simp at h); omega
  go_upto_region 4 with (fail)
  refine wp_world (fun x => (∀ o, x.cell? ⟨w.heap.size, o, none⟩ = (#[.slice (some ⟨bX, oX, none⟩) X.length cX, .slice (some ⟨bZ, oZ, none⟩) Z.length cZ, .slice (some ⟨bH, oH, none⟩) H.length cH] : Array Value)[o]?) ∧ (∀ o, x.cell? ⟨w.heap.size + 1, o, none⟩ = (#[.bool false, .int .u64 0, .int .u64 0, .int .u64 0, .int .u64 0, .bool false, .int .u64 0, .int .u64 0, .int .u64 0, .int .u64 0] : Array Value)[o]?) ∧ (∀ o, x.cell? ⟨w.heap.size + 1 + 1, o, none⟩ = (#[.bool false, .int .u64 0, .int .u64 0, .int .u64 0, .int .u64 0, .bool false, .int .u64 0, .int .u64 0, .int .u64 0, .int .u64 0] : Array Value)[o]?) ∧ (∀ o, x.frozen? ⟨w.heap.size, o, none⟩ = false) ∧ (∀ o, x.frozen? ⟨w.heap.size + 1, o, none⟩ = false) ∧ (∀ o, x.frozen? ⟨w.heap.size + 1 + 1, o, none⟩ = false) ∧ w.heap.size < x.heap.size ∧ w.heap.size + 1 < x.heap.size ∧ w.heap.size + 1 + 1 < x.heap.size ∧ Below w.heap.size w x) (by (repeat' apply And.intro) <;> first | (intro o; simp [go_sem, hc0, hf0, hz0_w_0, hz0_w_1, hz0_w_2]; done) | ((repeat' first | (with_reducible first | exact Bq0 | assumption | refine Bq1 ?_ | refine Bq2 ?_ | refine Bq3 ?_ ?_ | refine Bq4 ?_ (by assumption)) | go_size); done) | omega | (simp [go_sem, hc0, hf0, hz0_w_0, hz0_w_1, hz0_w_2]; done) | (simp [go_sem, hc0, hf0, hz0_w_0, hz0_w_1, hz0_w_2]; omega)) ?_
  rintro G ⟨hGc0, hGc1, hGc2, hGf0, hGf1, hGf2, hGz0, hGz1, hGz2, hGb⟩
  have KA := fun (x : World) (hx : Below G.heap.size G x) => And.intro (keep_cell hx hGz0 hGc0) (And.intro (keep_cell hx hGz1 hGc1) (And.intro (keep_frozen hx hGz1 hGf1) (And.intro (keep_lt hx hGz1) (And.intro (keep_cell hx hGz2 hGc2) (And.intro (keep_frozen hx hGz2 hGf2) (keep_lt hx hGz2))))))
  refine wp_region_kn 8 [.val (.agg #[.slice (some ⟨bX, oX, none⟩) X.length cX, .slice (some ⟨bZ, oZ, none⟩) Z.length cZ, .slice (some ⟨bH, oH, none⟩) H.length cH]), .val (.int .i64 z), .val (.agg #[.func (.func 49) #[] #[]]), .val ((.agg #[.bool ((r).s), .int .u64 ↑r.a, .int .u64 0, .int .u64 0, .int .u64 0, .bool false, .int .u64 ↑r.d, .int .u64 0, .int .u64 0, .int .u64 0])), .val (.agg #[.slice (some ⟨bX, oX, none⟩) X.length cX, .slice (some ⟨bZ, oZ, none⟩) Z.length cZ, .slice (some ⟨bH, oH, none⟩) H.length cH]), .val (.int .i64 z), .val (.agg #[.func (.func 43) #[] #[]]), .val ((.agg #[.bool ((s).s), .int .u64 ↑s.a, .int .u64 0, .int .u64 0, .int .u64 0, .bool false, .int .u64 ↑s.d, .int .u64 0, .int .u64 0, .int .u64 0]))] G (by kernel_rfl) (by kernel_rfl) (by kernel_rfl) (by kernel_rfl) (by kernel_rfl) (by decide) (Below.refl _ _) ?_ ?_
  · refine steps_next (n := 0) ⟨_, by rfl, fun vals x hx hj => ?_⟩ ?_
    · have hk := KA x hx; clear hj; refine kn_val hx ?_; simp only [putF, dstO, Act.put]; go_simp
    refine steps_next (n := 1) ⟨_, by rfl, fun vals x hx hj => ?_⟩ ?_
    · have hk := KA x hx; clear hj; refine kn_val hx ?_; simp only [putF, dstO, Act.put]; go_simp; (try first | with_reducible rfl | (intros; omega) | (simp only [IntKind.wrap_i64]; omega))
    refine steps_next (n := 2) ⟨_, by rfl, fun vals x hx hj => ?_⟩ ?_
    · have hk := KA x hx; clear hj; refine kn_call hx (longF x) ?_; simp only [putF, dstO, Act.put]; go_simp
    refine steps_next (n := 3) ⟨_, by rfl, fun vals x hx hj => ?_⟩ ?_
    · have hk := KA x hx; have e0 : _ = _ := hj 0 (by decide +kernel); have e1 : _ = _ := hj 1 (by decide +kernel); have e2 : _ = _ := hj 2 (by decide +kernel); clear hj; refine kn_call hx (HB.out x (below_after hGb hx)) ?_; simp only [putF, dstO, Act.put]; (try simp only [e0, e1, e2]); go_simp
    refine steps_next (n := 4) ⟨_, by rfl, fun vals x hx hj => ?_⟩ ?_
    · have hk := KA x hx; clear hj; refine kn_val hx ?_; simp only [putF, dstO, Act.put]; go_simp
    refine steps_next (n := 5) ⟨_, by rfl, fun vals x hx hj => ?_⟩ ?_
    · have hk := KA x hx; clear hj; refine kn_val hx ?_; simp only [putF, dstO, Act.put]; go_simp; (try first | with_reducible rfl | (intros; omega) | (simp only [IntKind.wrap_i64]; omega))
    refine steps_next (n := 6) ⟨_, by rfl, fun vals x hx hj => ?_⟩ ?_
    · have hk := KA x hx; clear hj; refine kn_call hx (areaF x) ?_; simp only [putF, dstO, Act.put]; go_simp
    refine steps_next (n := 7) ⟨_, by rfl, fun vals x hx hj => ?_⟩ ?_
    · have hk := KA x hx; have e4 : _ = _ := hj 4 (by decide +kernel); have e5 : _ = _ := hj 5 (by decide +kernel); have e6 : _ = _ := hj 6 (by decide +kernel); clear hj; refine kn_call hx (HH.out x (below_after hGb hx)) ?_; simp only [putF, dstO, Act.put]; (try simp only [e4, e5, e6]); go_simp
    exact steps_end
  intro vals Gx hGx hv
  have hkGx := KA Gx hGx
  have e0 : _ = _ := hv 0 (by omega)
  have e1 : _ = _ := hv 1 (by omega)
  have e2 : _ = _ := hv 2 (by omega)
  have e3 : _ = _ := hv 3 (by omega)
  have e4 : _ = _ := hv 4 (by omega)
  have e5 : _ = _ := hv 5 (by omega)
  have e6 : _ = _ := hv 6 (by omega)
  have e7 : _ = _ := hv 7 (by omega)
  clear hv
  simp only [putF, dstO, Act.put]
  (try simp only [e0, e1, e2, e3, e4, e5, e6, e7])
  refine wpAny_ready (rs := [8]) (by decide +kernel) (by simp) (AllReady.cons rfl (fun KK hKK => ?_) AllReady.nil)
  go_simp
  (refine hKK _ _ ?_); clear hKK KK; (try simp only [Nq1, Nq2, Nq3, Act.put, Nq4, Nq5, Nq6])
  refine wpAny_ready (rs := [9]) (by decide +kernel) (by simp) (AllReady.cons rfl (fun KK hKK => ?_) AllReady.nil)
  go_simp
  (refine hKK _ _ ?_); clear hKK KK; (try simp only [Nq1, Nq2, Nq3, Act.put, Nq4, Nq5, Nq6])
  refine wpAny_ready (rs := [10]) (by decide +kernel) (by simp) (AllReady.cons rfl (fun KK hKK => ?_) AllReady.nil)
  go_simp
  (refine hKK _ _ ?_); clear hKK KK; (try simp only [Nq1, Nq2, Nq3, Act.put, Nq4, Nq5, Nq6])
  refine wpAny_done (by kernel_rfl) ?_ _
  have q1 := keep_cell hGx hGz1 hGc1
  have f1 := keep_frozen hGx hGz1 hGf1
  have l1 := keep_lt hGx hGz1
  have q2 := keep_cell hGx hGz2 hGc2
  have f2 := keep_frozen hGx hGz2 hGf2
  have l2 := keep_lt hGx hGz2
  have hB := below_after hGb hGx
  clear KA hkGx HL HB HH hb0 hc0 hf0
  go_wp2_with ((with_reducible show bodyPost _ _ _ _ _ _); refine bodyPost_ret (by simp [results, Tryd.results11, go_sem, q1, f1, l1, q2, f2, l2]; try rfl) rfl ?_; exact ⟨rfl, by (repeat' first | (with_reducible first | exact Bq0 | assumption | refine Bq1 ?_ | refine Bq2 ?_ | refine Bq3 ?_ ?_ | refine Bq4 ?_ (by assumption)) | go_size)⟩)
end Go.Proofs.YthikaimhmpenhaaDoor

namespace Go.Proofs.YthikaimhmpenhaaDoor
set_option linter.all false
open Go Go.RowKit Wd
set_option maxRecDepth 100000
@[irreducible] def anyTo (m : Int) (l : List Int) (k : Nat) : Bool := (l.take k).any (out m)
theorem anyTo_zero (m : Int) (l : List Int) : anyTo m l 0 = false := by unfold anyTo; rfl
theorem anyTo_succ {m : Int} {l : List Int} {k : Nat} (hk : k < l.length) : anyTo m l (k + 1) = (anyTo m l k || out m (ix l k)) := by
  unfold anyTo; rw [List.take_succ_eq_append_getElem hk, List.any_append, ix_get hk]; simp
theorem anyTo_all (m : Int) (l : List Int) : anyTo m l l.length = anyOut m l := by unfold anyTo anyOut; rw [List.take_length]
theorem anyOut_of {m : Int} {l : List Int} {k : Nat} (hk : k < l.length) (h : out m (ix l k) = true) : anyOut m l = true := by
  unfold anyOut
  rw [List.any_eq_true]
  exact ⟨l[k], List.getElem_mem hk, by rw [← ix_get hk]; exact h⟩
set_option maxHeartbeats 1000000 in
theorem ranged_any (m : Int) (l : List Int) (a : Option Addr) (c : Nat) (hl : l.length ≤ 1000000) (w : World) (h : Has w a l) :
    Calls Tryd.prog 26 #[.slice a l.length c, .int .i64 m] w fun e w' => e = .returned (.bool (!anyOut m l)) ∧ Below w.heap.size w w' := by
  obtain ⟨r, hr⟩ : ∃ r, r = anyOut m l := ⟨_, rfl⟩
  rw [← hr]
  have HR := Lib.hid hr
  have HH := Lib.hid h
  clear h hr
  have S1 := Lib.hid (fun k (hk : k < l.length) => anyTo_succ (m := m) hk)
  have S2 := Lib.hid (fun k (hk : k < l.length) (h : out m (ix l k) = true) => HR.out.trans (anyOut_of hk h))
  have S3 := Lib.hid (anyTo_all m l)
  have hat : 0 < l.length → ∃ b o, a = some ⟨b, o, none⟩ := fun h0 => by obtain ⟨b, o, e, _⟩ := HH.out h0; exact ⟨b, o, e⟩
  by_cases hlen : 0 < l.length
  · obtain ⟨b, o, rfl, hi⟩ := HH.out hlen
    have HC := Lib.hid hi.cell
    clear hat hi HH
    generalize hn : l.length = n at *
    clear hn
    go_enter Tryd.func26, Tryd.ntmps26
    go_wp2
    go_loopw [5] (fun i wr => ∃ k : Nat, k ≤ n ∧ i = .int .i64 (k : Int) ∧ Hid (anyTo m l k = false) ∧ wr = w) (fun i _ => n - (intOf i).toNat)
    case atStart => exact ⟨0, by omega, rfl, Lib.hid (anyTo_zero _ _), rfl⟩
    case round =>
      obtain ⟨k, hk, rfl, hA, rfl⟩ := hrel
      by_cases hlt : k < n
      · have c1 := HC.out k hlt
        have s1 := S1.out k hlt
        have s2 := S2.out k hlt
        rw [hA.out] at s1
        generalize ix l k = x at *
        rcases (by omega : x < 0 ∨ (0 ≤ x ∧ m < x) ∨ (0 ≤ x ∧ x ≤ m)) with h | ⟨h, h'⟩ | ⟨h, h'⟩
        · have e1 := s2 (out_neg h)
          subst e1
          clear s1 s2
          go_wp2
          go_returns
          exact ⟨rfl, by go_grown⟩
        · have e1 := s2 (out_big h')
          subst e1
          clear s1 s2
          go_wp2
          go_returns
          exact ⟨rfl, by go_grown⟩
        · rw [out_in h h'] at s1
          have SS := Lib.hid s1
          clear s1 s2
          go_wp2
          go_roundw
          case rel => exact ⟨k + 1, by omega, by go_num, Lib.hid (by rw [SS.out]; rfl), by first | rfl | trivial⟩
          case measure => simp [intOf]; omega
      · obtain rfl : k = n := by omega
        have e1 : r = false := by rw [HR.out, ← S3.out]; exact hA.out
        subst e1
        go_wp2
        go_returns
        exact ⟨rfl, by go_grown⟩
  · have e0 : l = [] := List.length_eq_zero_iff.1 (by omega)
    subst e0
    have e1 : r = false := by rw [HR.out]; unfold anyOut; rfl
    subst e1
    go_enter Tryd.func26, Tryd.ntmps26
    go_wp2
    go_loopw [5] (fun i wr => i = .int .i64 0 ∧ wr = w) (fun i _ => 0)
    case atStart => exact ⟨rfl, rfl⟩
    case round =>
      obtain ⟨rfl, rfl⟩ := hrel
      go_wp2
      go_returns
      exact ⟨rfl, by go_grown⟩
set_option maxHeartbeats 1000000 in
theorem rasc_any (l : List Int) (a : Option Addr) (c : Nat) (hl : l.length ≤ 1000000) (w : World) (h : Has w a l) :
    Calls Tryd.prog 27 #[.slice a l.length c] w fun e w' => e = .returned (.bool (asc l)) ∧ Below w.heap.size w w' := by
  by_cases h0 : 0 < l.length
  · obtain ⟨b, o, rfl, hi⟩ := h h0
    have hcl := Lib.hid hi.cell
    have hlt := hi.lt
    clear hi h
    generalize hn : l.length = n at *
    have HN := Lib.hid hn
    clear hn
    go_enter Tryd.func27, Tryd.ntmps27
    go_wp2
    go_loopw [3] (fun i wr => ∃ k : Nat, 1 ≤ k ∧ k ≤ n ∧ i = .int .i64 (k : Int) ∧ Hid (ascTo l (k - 1) = true) ∧ Hid (Below w.heap.size w wr)) (fun i _ => n - (intOf i).toNat)
    case atStart => exact ⟨1, by omega, by omega, rfl, Lib.hid (ascTo_zero l), Lib.hid (by go_grown)⟩
    case round =>
      obtain ⟨k, hk1, hk, rfl, hA, hW⟩ := hrel
      obtain ⟨k, rfl⟩ : ∃ j, k = j + 1 := ⟨k - 1, by omega⟩
      by_cases hlt2 : k + 1 < n
      · have c1 : wr.cell? ⟨b, o + k, none⟩ = some (.int .i64 (ix l k)) := (hW.out.cell (p := ⟨b, o + k, none⟩) hlt).trans (hcl.out k (by omega))
        have c2 : wr.cell? ⟨b, o + (k + 1), none⟩ = some (.int .i64 (ix l (k + 1))) := (hW.out.cell (p := ⟨b, o + (k + 1), none⟩) hlt).trans (hcl.out (k + 1) hlt2)
        have H1 : ix l (k + 1) ≤ ix l k → false = asc l := fun h => (asc_not (by rw [HN.out]; exact hlt2) h).symm
        have h1 := Lib.hid H1
        have H2 : ix l k < ix l (k + 1) → ascTo l (k + 1) = true := fun h => by rw [ascTo_succ, show ascTo l k = true from hA.out]; simpa using h
        have h2 := Lib.hid H2
        clear H1 H2
        generalize ix l k = x at *
        generalize ix l (k + 1) = y at *
        go_wp2
        go_region
        go_wp2
        · go_returns
          exact ⟨ret_bool (h1.out (by assumption)), by have := hW.out; (repeat' first | (with_reducible first | exact Bq0 | assumption | refine Bq1 ?_ | refine Bq2 ?_ | refine Bq3 ?_ ?_ | refine Bq4 ?_ (by assumption)) | go_size)⟩
        · go_roundw
          case rel => exact ⟨k + 1 + 1, by omega, by omega, by go_num, Lib.hid (h2.out (by assumption)), Lib.hid (by have := hW.out; (repeat' first | (with_reducible first | exact Bq0 | assumption | refine Bq1 ?_ | refine Bq2 ?_ | refine Bq3 ?_ ?_ | refine Bq4 ?_ (by assumption)) | go_size))⟩
          case measure => simp [intOf]; omega
      · have e1 : k + 1 = n := by omega
        have hA' : ascTo l k = true := hA.out
        go_wp2
        go_returns
        exact ⟨ret_bool (asc_all (by rw [HN.out, ← e1]; exact hA')).symm, hW.out⟩
  · have e0 : l = [] := List.length_eq_zero_iff.1 (by omega)
    subst e0
    have h1 : asc [] = true := by unfold asc ascTo; rfl
    rw [h1]
    go_enter Tryd.func27, Tryd.ntmps27
    go_wp2
    go_loopw [3] (fun i wr => i = .int .i64 1 ∧ wr = w) (fun i _ => 0)
    case atStart => exact ⟨rfl, rfl⟩
    case round =>
      obtain ⟨rfl, rfl⟩ := hrel
      go_wp2
      go_returns
      exact ⟨rfl, by go_grown⟩
@[irreducible] def badTo (m : Nat) (H : List (List Int)) (k : Nat) : Bool := (H.take k).any fun l => !decide (l.length = m)
theorem badTo_zero (m : Nat) (H : List (List Int)) : badTo m H 0 = false := by unfold badTo; rfl
theorem badTo_succ {m : Nat} {H : List (List Int)} {k : Nat} (hk : k < H.length) : badTo m H (k + 1) = (badTo m H k || !decide ((row H k).length = m)) := by
  unfold badTo; rw [List.take_succ_eq_append_getElem hk, List.any_append, row_get hk]; simp
theorem badTo_all (m : Nat) (H : List (List Int)) : badTo m H H.length = badRows m H := by unfold badTo badRows; rw [List.take_length]
theorem badRows_of {m : Nat} {H : List (List Int)} {k : Nat} (hk : k < H.length) (h : (row H k).length ≠ m) : badRows m H = true := by
  unfold badRows
  rw [List.any_eq_true]
  exact ⟨H[k], List.getElem_mem hk, by rw [← row_get hk]; simpa using h⟩
set_option maxHeartbeats 1000000 in
theorem rows_any (ax az ah : Option Addr) (cx cz ch : Nat) (A : Nat → Option Addr) (C : Nat → Nat) (X Z : List Int) (H : List (List Int)) (hx : X.length ≤ 1000) (w : World) (hf : Frm w ax az ah A C X Z H) :
    Calls Tryd.prog 25 #[.agg #[.slice ax X.length cx, .slice az Z.length cz, .slice ah H.length ch]] w fun e w' => e = .returned (.bool (decide (H.length = X.length) && !badRows Z.length H)) ∧ Below w.heap.size w w' := by
  by_cases hl : H.length = X.length
  · obtain ⟨r, hr⟩ : ∃ r, r = badRows Z.length H := ⟨_, rfl⟩
    rw [← hr, show decide (H.length = X.length) = true by simpa using hl, Bool.true_and]
    have HR := Lib.hid hr
    clear hr
    have hl' : (H.length : Int) = (X.length : Int) := by omega
    have S1 := Lib.hid (fun k (hk : k < H.length) => badTo_succ (m := Z.length) hk)
    have S2 := Lib.hid (fun k (hk : k < H.length) (h : (row H k).length ≠ Z.length) => HR.out.trans (badRows_of hk h))
    have S3 := Lib.hid (badTo_all Z.length H)
    have HL := Lib.hid hl
    clear hl
    by_cases h0 : 0 < H.length
    · obtain ⟨bh, oh, rfl, hri⟩ := hf.h h0
      have HC := Lib.hid hri.cell
      have lh := hri.lt
      clear hri
      have HF := Lib.hid hf
      clear hf
      go_enter Tryd.func25, Tryd.ntmps25
      go_wp2
      go_loopw [3] (fun i wr => ∃ k : Nat, k ≤ H.length ∧ i = .int .i64 (k : Int) ∧ Hid (badTo Z.length H k = false) ∧ Hid (Below w.heap.size w wr) ∧ (∀ o, wr.cell? ⟨w.heap.size, o, none⟩ = (#[.slice ax X.length cx, .slice az Z.length cz, .slice (some ⟨bh, oh, none⟩) H.length ch] : Array Value)[o]?) ∧ w.heap.size < wr.heap.size) (fun i _ => H.length - (intOf i).toNat)
      case atStart => exact ⟨0, by omega, rfl, Lib.hid (badTo_zero _ _), Lib.hid (by go_grown), fun o => by simp [go_sem], by simp⟩
      case round =>
        obtain ⟨k, hk, rfl, hA, hB, hc, hz⟩ := hrel
        by_cases hlt : k < H.length
        · have c1 : wr.cell? ⟨bh, oh + k, none⟩ = some (.slice (A k) (row H k).length (C k)) := (hB.out.cell (p := ⟨bh, oh + k, none⟩) lh).trans (HC.out k hlt)
          have s1 := S1.out k hlt
          have s2 := S2.out k hlt
          have hltX : k < X.length := by have := HL.out; omega
          have hzr : bh < wr.heap.size := keep_lt hB.out lh
          rw [hA.out] at s1
          generalize (row H k).length = ln at *
          by_cases he : ln = Z.length
          · have SS := Lib.hid (s1.trans (show (false || !decide (ln = Z.length)) = false by simp [he]))
            have he' : (ln : Int) = (Z.length : Int) := by omega
            clear s1 s2 he
            go_wp2
            go_region
            go_wp2
            go_roundw
            case rel => exact ⟨k + 1, by omega, by go_num, Lib.hid SS.out, Lib.hid (by have := hB.out; (repeat' first | (with_reducible first | exact Bq0 | assumption | refine Bq1 ?_ | refine Bq2 ?_ | refine Bq3 ?_ ?_ | refine Bq4 ?_ (by assumption)) | go_size)), hc, hz⟩
            case measure => simp [intOf]; omega
          · have e1 := s2 he
            subst e1
            have he' : ¬ ((ln : Int) = (Z.length : Int)) := by omega
            clear s1 s2 he
            go_wp2
            go_region
            go_wp2
            go_returns
            exact ⟨rfl, by have := hB.out; (repeat' first | (with_reducible first | exact Bq0 | assumption | refine Bq1 ?_ | refine Bq2 ?_ | refine Bq3 ?_ ?_ | refine Bq4 ?_ (by assumption)) | go_size)⟩
        · obtain rfl : k = H.length := by omega
          have hgX : ¬ H.length < X.length := by have := HL.out; omega
          have e1 : r = false := by rw [HR.out, ← S3.out]; exact hA.out
          subst e1
          go_wp2
          go_returns
          exact ⟨rfl, hB.out⟩
    · have e0 : H = [] := List.length_eq_zero_iff.1 (by omega)
      subst e0
      have e1 : r = false := by rw [HR.out]; unfold badRows; rfl
      subst e1
      have hX0 : X.length = 0 := by simpa using HL.out.symm
      have HF := Lib.hid hf
      clear hf
      go_enter Tryd.func25, Tryd.ntmps25
      go_wp2
      go_loopw [3] (fun i wr => i = .int .i64 0 ∧ Hid (Below w.heap.size w wr) ∧ (∀ o, wr.cell? ⟨w.heap.size, o, none⟩ = (#[.slice ax X.length cx, .slice az Z.length cz, .slice ah 0 ch] : Array Value)[o]?) ∧ w.heap.size < wr.heap.size) (fun i _ => 0)
      case atStart => exact ⟨rfl, Lib.hid (by go_grown), fun o => by simp [go_sem, hX0], by simp⟩
      case round =>
        obtain ⟨rfl, hB, hc, hz⟩ := hrel
        go_wp2
        go_returns
        exact ⟨rfl, hB.out⟩
  · rw [show decide (H.length = X.length) = false by simpa using hl, Bool.false_and]
    have hl' : ¬ ((H.length : Int) = (X.length : Int)) := by omega
    clear hl
    have HF := Lib.hid hf
    clear hf
    go_enter Tryd.func25, Tryd.ntmps25
    go_wp2_with ((with_reducible show bodyPost _ _ _ _ _ _); refine bodyPost_ret (by simp [results, Tryd.results25, go_sem, ]; try rfl) rfl ?_; exact ⟨rfl, by (repeat' first | (with_reducible first | exact Bq0 | assumption | refine Bq1 ?_ | refine Bq2 ?_ | refine Bq3 ?_ ?_ | refine Bq4 ?_ (by assumption)) | go_size)⟩)
end Go.Proofs.YthikaimhmpenhaaDoor
