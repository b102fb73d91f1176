/-
  What the integrand long of package hydro returns of a strip.
  (Written by wip/pack.py out of XFHyE.)
-/
import Derived.Test.YthikaimhmpenhaaDoorK21

namespace Go.Proofs.YthikaimhmpenhaaDoor
set_option linter.all false
open Go Go.RowKit Wd
set_option maxRecDepth 100000
set_option maxHeartbeats 8000000 in
theorem longH {x0 y0 x1 y1 u c t1 t2 m s r p0 p1 : Fr} (h1 : SumC 2 (pk2 x0 x1) t1) (h2 : SumC 2 (pk2 y0 y1) t2) (hm : TimC 2 (pk2 t1 t2) m)
    (hu : LessC x1 x0 u) (hc : OfC 1 3 c) (hp0 : TimC 2 (pk2 x0 y0) p0) (hp1 : TimC 2 (pk2 x1 y1) p1) (hs : SumC 3 (pk3 p0 m p1) s) (hr : TimC 3 (pk3 u c s) r) : StripC 49 x0 y0 x1 y1 r := fun w hT => by
  have H1 := Lib.hid h1
  have H2 := Lib.hid h2
  have HM := Lib.hid hm
  have HU := Lib.hid hu
  have HC := Lib.hid hc
  have HP0 := Lib.hid hp0
  have HP1 := Lib.hid hp1
  have HS := Lib.hid hs
  have HR := Lib.hid hr
  have HT := Lib.hid hT
  clear h1 h2 hm hu hc hp0 hp1 hs hr hT
  go_enter Tryd.func49, Tryd.ntmps49
  go_upto_region 1 with (fail)
  refine wp_world (fun x => (∀ o, x.cell? ⟨w.heap.size, o, none⟩ = (#[.bool ((x0).s), .int .u64 ↑x0.a, .int .u64 0, .int .u64 0, .int .u64 0, .bool false, .int .u64 ↑x0.d, .int .u64 0, .int .u64 0, .int .u64 0] : Array Value)[o]?) ∧ (∀ o, x.cell? ⟨w.heap.size + 1, o, none⟩ = (#[.bool ((y0).s), .int .u64 ↑y0.a, .int .u64 0, .int .u64 0, .int .u64 0, .bool false, .int .u64 ↑y0.d, .int .u64 0, .int .u64 0, .int .u64 0] : Array Value)[o]?) ∧ (∀ o, x.cell? ⟨w.heap.size + 1 + 1, o, none⟩ = (#[.bool ((x1).s), .int .u64 ↑x1.a, .int .u64 0, .int .u64 0, .int .u64 0, .bool false, .int .u64 ↑x1.d, .int .u64 0, .int .u64 0, .int .u64 0] : Array Value)[o]?) ∧ (∀ o, x.cell? ⟨w.heap.size + 1 + 1 + 1, o, none⟩ = (#[.bool ((y1).s), .int .u64 ↑y1.a, .int .u64 0, .int .u64 0, .int .u64 0, .bool false, .int .u64 ↑y1.d, .int .u64 0, .int .u64 0, .int .u64 0] : Array Value)[o]?) ∧ (∀ o, x.cell? ⟨w.heap.size + 1 + 1 + 1 + 1, o, none⟩ = (#[.bool (false), .int .u64 (((0) : Nat) : Int), .int .u64 0, .int .u64 0, .int .u64 0, .bool false, .int .u64 (((0) : Nat) : Int), .int .u64 0, .int .u64 0, .int .u64 0] : Array Value)[o]?) ∧ (∀ o, x.frozen? ⟨w.heap.size, o, none⟩ = false) ∧ (∀ o, x.frozen? ⟨w.heap.size + 1, o, none⟩ = false) ∧ (∀ o, x.frozen? ⟨w.heap.size + 1 + 1, o, none⟩ = false) ∧ (∀ o, x.frozen? ⟨w.heap.size + 1 + 1 + 1, o, none⟩ = false) ∧ (∀ o, x.frozen? ⟨w.heap.size + 1 + 1 + 1 + 1, o, none⟩ = false) ∧ w.heap.size < x.heap.size ∧ w.heap.size + 1 < x.heap.size ∧ w.heap.size + 1 + 1 < x.heap.size ∧ w.heap.size + 1 + 1 + 1 < x.heap.size ∧ w.heap.size + 1 + 1 + 1 + 1 < x.heap.size ∧ Below w.heap.size w x) (by (repeat' apply And.intro) <;> first | (intro o; simp [go_sem]; done) | ((repeat' first | (with_reducible first | exact Bq0 | assumption | refine Bq1 ?_ | refine Bq2 ?_ | refine Bq3 ?_ ?_ | refine Bq4 ?_ (by assumption)) | go_size); done) | omega | (simp [go_sem]; done) | (simp [go_sem]; omega)) ?_
  rintro A ⟨hAc0, hAc1, hAc2, hAc3, hAc4, hAf0, hAf1, hAf2, hAf3, hAf4, hAz0, hAz1, hAz2, hAz3, hAz4, hAb⟩
  have KA := fun (x : World) (hx : Below A.heap.size A x) => And.intro (keep_cell hx hAz0 hAc0) (And.intro (keep_cell hx hAz1 hAc1) (And.intro (keep_cell hx hAz2 hAc2) (keep_cell hx hAz3 hAc3)))
  have J4 := fun (x : World) (hx : Below A.heap.size A x) => And.intro (keep_cell hx hAz4 hAc4) (And.intro (keep_frozen hx hAz4 hAf4) (And.intro (keep_frozen hx hAz0 hAf0) (And.intro (keep_frozen hx hAz1 hAf1) (And.intro (keep_frozen hx hAz2 hAf2) (keep_frozen hx hAz3 hAf3)))))
  have TA := Lib.hid (HT.out.later hAb)
  refine wp_region_kn 11 [.val ((.agg #[.bool ((x0).s), .int .u64 ↑x0.a, .int .u64 0, .int .u64 0, .int .u64 0, .bool false, .int .u64 ↑x0.d, .int .u64 0, .int .u64 0, .int .u64 0])), .val ((.agg #[.bool ((x1).s), .int .u64 ↑x1.a, .int .u64 0, .int .u64 0, .int .u64 0, .bool false, .int .u64 ↑x1.d, .int .u64 0, .int .u64 0, .int .u64 0])), .row (2) (pk2 x0 x1), .val ((.agg #[.bool ((t1).s), .int .u64 ↑t1.a, .int .u64 0, .int .u64 0, .int .u64 0, .bool false, .int .u64 ↑t1.d, .int .u64 0, .int .u64 0, .int .u64 0])), .val ((.agg #[.bool ((y0).s), .int .u64 ↑y0.a, .int .u64 0, .int .u64 0, .int .u64 0, .bool false, .int .u64 ↑y0.d, .int .u64 0, .int .u64 0, .int .u64 0])), .val ((.agg #[.bool ((y1).s), .int .u64 ↑y1.a, .int .u64 0, .int .u64 0, .int .u64 0, .bool false, .int .u64 ↑y1.d, .int .u64 0, .int .u64 0, .int .u64 0])), .row (2) (pk2 y0 y1), .val ((.agg #[.bool ((t2).s), .int .u64 ↑t2.a, .int .u64 0, .int .u64 0, .int .u64 0, .bool false, .int .u64 ↑t2.d, .int .u64 0, .int .u64 0, .int .u64 0])), .row (2) (pk2 t1 t2), .val ((.agg #[.bool ((m).s), .int .u64 ↑m.a, .int .u64 0, .int .u64 0, .int .u64 0, .bool false, .int .u64 ↑m.d, .int .u64 0, .int .u64 0, .int .u64 0])), .new (A.heap.size) (#[.bool false, .int .u64 0, .int .u64 0, .int .u64 0, .int .u64 0, .bool false, .int .u64 0, .int .u64 0, .int .u64 0, .int .u64 0])] A (by kernel_rfl) (by kernel_rfl) (by kernel_rfl) (by kernel_rfl) (by kernel_rfl) (by decide) (Below.refl _ _) ?_ ?_
  · refine steps_next (n := 0) ⟨_, by rfl, fun vals x hx hj => ?_⟩ ?_
    · have hk := KA x hx; clear hj; refine kn_val hx ?_; simp only [putF, dstO, Act.put]; go_simp
    refine steps_next (n := 1) ⟨_, by rfl, fun vals x hx hj => ?_⟩ ?_
    · have hk := KA x hx; clear hj; refine kn_val hx ?_; simp only [putF, dstO, Act.put]; go_simp
    refine steps_next (n := 2) ⟨_, by rfl, fun vals x hx hj => ?_⟩ ?_
    · have hk := KA x hx; have e0 : _ = _ := hj 0 (by decide +kernel); have e1 : _ = _ := hj 1 (by decide +kernel); clear hj; refine kn_row (c := 2) hx (rf2_new x 39 x0 x1) ?_; simp only [putF, dstO, Act.put]; (try simp only [e0, e1]); go_simp
    refine steps_next (n := 3) ⟨_, by rfl, fun vals x hx hj => ?_⟩ ?_
    · have hk := KA x hx; obtain ⟨b2, c2, e2, R2⟩ := hj 2 (by decide +kernel); clear hj; refine kn_call hx (H1.out b2 c2 x (TA.out.later hx) R2) ?_; simp only [putF, dstO, Act.put]; (try simp only [e2]); go_simp
    refine steps_next (n := 4) ⟨_, by rfl, fun vals x hx hj => ?_⟩ ?_
    · have hk := KA x hx; clear hj; refine kn_val hx ?_; simp only [putF, dstO, Act.put]; go_simp
    refine steps_next (n := 5) ⟨_, by rfl, fun vals x hx hj => ?_⟩ ?_
    · have hk := KA x hx; clear hj; refine kn_val hx ?_; simp only [putF, dstO, Act.put]; go_simp
    refine steps_next (n := 6) ⟨_, by rfl, fun vals x hx hj => ?_⟩ ?_
    · have hk := KA x hx; have e4 : _ = _ := hj 4 (by decide +kernel); have e5 : _ = _ := hj 5 (by decide +kernel); clear hj; refine kn_row (c := 2) hx (rf2_new x 39 y0 y1) ?_; simp only [putF, dstO, Act.put]; (try simp only [e4, e5]); go_simp
    refine steps_next (n := 7) ⟨_, by rfl, fun vals x hx hj => ?_⟩ ?_
    · have hk := KA x hx; obtain ⟨b6, c6, e6, R6⟩ := hj 6 (by decide +kernel); clear hj; refine kn_call hx (H2.out b6 c6 x (TA.out.later hx) R6) ?_; simp only [putF, dstO, Act.put]; (try simp only [e6]); go_simp
    refine steps_next (n := 8) ⟨_, by rfl, fun vals x hx hj => ?_⟩ ?_
    · have hk := KA x hx; have e3 : _ = _ := hj 3 (by decide +kernel); have e7 : _ = _ := hj 7 (by decide +kernel); clear hj; refine kn_row (c := 2) hx (rf2_new x 39 t1 t2) ?_; simp only [putF, dstO, Act.put]; (try simp only [e3, e7]); go_simp
    refine steps_next (n := 9) ⟨_, by rfl, fun vals x hx hj => ?_⟩ ?_
    · have hk := KA x hx; obtain ⟨b8, c8, e8, R8⟩ := hj 8 (by decide +kernel); clear hj; refine kn_call hx (HM.out b8 c8 x (TA.out.later hx) R8) ?_; simp only [putF, dstO, Act.put]; (try simp only [e8]); go_simp
    refine steps_next (n := 10) ⟨_, by rfl, fun vals x hx hj => ?_⟩ ?_
    · have hk := KA x hx; clear hj; refine kn_new (T := 39) hx (hx.size) ?_; simp only [putF, dstO, Act.put]; go_simp
    exact steps_end
  intro vals Ax hAx hv
  have hkAx := KA Ax hAx
  have e0 : _ = _ := hv 0 (by omega)
  have e1 : _ = _ := hv 1 (by omega)
  obtain ⟨b2, c2, e2, R2⟩ := hv 2 (by omega)
  have e3 : _ = _ := hv 3 (by omega)
  have e4 : _ = _ := hv 4 (by omega)
  have e5 : _ = _ := hv 5 (by omega)
  obtain ⟨b6, c6, e6, R6⟩ := hv 6 (by omega)
  have e7 : _ = _ := hv 7 (by omega)
  obtain ⟨b8, c8, e8, R8⟩ := hv 8 (by omega)
  have e9 : _ = _ := hv 9 (by omega)
  obtain ⟨b10, e10, y10, z10, C10, F10⟩ := hv 10 (by omega)
  clear hv
  simp only [putF, dstO, Act.put]
  (try simp only [e0, e1, e2, e3, e4, e5, e6, e7, e8, e9, e10])
  refine wpAny_ready (rs := [11]) (by decide +kernel) (by simp) (AllReady.cons rfl (fun KK hKK => ?_) AllReady.nil)
  go_simp
  (refine hKK _ _ ?_); clear hKK KK; (try simp only [Nq1, Nq2, Nq3, Act.put, Nq4, Nq5, Nq6])
  refine wpAny_done (by kernel_rfl) ?_ _
  obtain ⟨k4, f4, f0, f1, f2, f3⟩ := J4 Ax hAx
  obtain ⟨k0, k1, k2, k3⟩ := hkAx
  have hAs := hAx.size
  have hB := below_after hAb hAx
  have yw := hAb.size
  have n0 : b10 ≠ w.heap.size := by omega
  have n1 : b10 ≠ w.heap.size + 1 := by omega
  have n2 : b10 ≠ w.heap.size + 1 + 1 := by omega
  have n3 : b10 ≠ w.heap.size + 1 + 1 + 1 := by omega
  have n4 : b10 ≠ w.heap.size + 1 + 1 + 1 + 1 := by omega
  have y11 : w.heap.size ≤ b10 := by omega
  clear J4 KA R2 R6 R8
  go_upto_region 2 with (fail)
  refine wp_world (fun x => (∀ o, x.cell? ⟨w.heap.size, o, none⟩ = (#[.bool ((x0).s), .int .u64 ↑x0.a, .int .u64 0, .int .u64 0, .int .u64 0, .bool false, .int .u64 ↑x0.d, .int .u64 0, .int .u64 0, .int .u64 0] : Array Value)[o]?) ∧ (∀ o, x.cell? ⟨w.heap.size + 1, o, none⟩ = (#[.bool ((y0).s), .int .u64 ↑y0.a, .int .u64 0, .int .u64 0, .int .u64 0, .bool false, .int .u64 ↑y0.d, .int .u64 0, .int .u64 0, .int .u64 0] : Array Value)[o]?) ∧ (∀ o, x.cell? ⟨w.heap.size + 1 + 1, o, none⟩ = (#[.bool ((x1).s), .int .u64 ↑x1.a, .int .u64 0, .int .u64 0, .int .u64 0, .bool false, .int .u64 ↑x1.d, .int .u64 0, .int .u64 0, .int .u64 0] : Array Value)[o]?) ∧ (∀ o, x.cell? ⟨w.heap.size + 1 + 1 + 1, o, none⟩ = (#[.bool ((y1).s), .int .u64 ↑y1.a, .int .u64 0, .int .u64 0, .int .u64 0, .bool false, .int .u64 ↑y1.d, .int .u64 0, .int .u64 0, .int .u64 0] : Array Value)[o]?) ∧ (∀ o, x.cell? ⟨w.heap.size + 1 + 1 + 1 + 1, o, none⟩ = (#[.bool (false), .int .u64 (((0) : Nat) : Int), .int .u64 0, .int .u64 0, .int .u64 0, .bool false, .int .u64 (((0) : Nat) : Int), .int .u64 0, .int .u64 0, .int .u64 0] : Array Value)[o]?) ∧ (∀ o, x.cell? ⟨b10, o, none⟩ = (#[.bool ((m).s), .int .u64 ↑m.a, .int .u64 0, .int .u64 0, .int .u64 0, .bool false, .int .u64 ↑m.d, .int .u64 0, .int .u64 0, .int .u64 0] : Array Value)[o]?) ∧ (∀ o, x.frozen? ⟨w.heap.size, o, none⟩ = false) ∧ (∀ o, x.frozen? ⟨w.heap.size + 1, o, none⟩ = false) ∧ (∀ o, x.frozen? ⟨w.heap.size + 1 + 1, o, none⟩ = false) ∧ (∀ o, x.frozen? ⟨w.heap.size + 1 + 1 + 1, o, none⟩ = false) ∧ (∀ o, x.frozen? ⟨w.heap.size + 1 + 1 + 1 + 1, o, none⟩ = false) ∧ (∀ o, x.frozen? ⟨b10, o, none⟩ = false) ∧ w.heap.size < x.heap.size ∧ w.heap.size + 1 < x.heap.size ∧ w.heap.size + 1 + 1 < x.heap.size ∧ w.heap.size + 1 + 1 + 1 < x.heap.size ∧ w.heap.size + 1 + 1 + 1 + 1 < x.heap.size ∧ b10 < x.heap.size ∧ Below w.heap.size w x) ⟨set10_far n0 k0, set10_far n1 k1, set10_far n2 k2, set10_far n3 k3, set10_far n4 k4, set10_at C10, fun o => by simp [go_sem, f0, f1, f2, f3, f4, F10], fun o => by simp [go_sem, f0, f1, f2, f3, f4, F10], fun o => by simp [go_sem, f0, f1, f2, f3, f4, F10], fun o => by simp [go_sem, f0, f1, f2, f3, f4, F10], fun o => by simp [go_sem, f0, f1, f2, f3, f4, F10], fun o => by simp [go_sem, f0, f1, f2, f3, f4, F10], by (first | omega | (simp [go_sem, f0, f1, f2, f3, f4, F10]; done) | (simp [go_sem, f0, f1, f2, f3, f4, F10]; omega)), by (first | omega | (simp [go_sem, f0, f1, f2, f3, f4, F10]; done) | (simp [go_sem, f0, f1, f2, f3, f4, F10]; omega)), by (first | omega | (simp [go_sem, f0, f1, f2, f3, f4, F10]; done) | (simp [go_sem, f0, f1, f2, f3, f4, F10]; omega)), by (first | omega | (simp [go_sem, f0, f1, f2, f3, f4, F10]; done) | (simp [go_sem, f0, f1, f2, f3, f4, F10]; omega)), by (first | omega | (simp [go_sem, f0, f1, f2, f3, f4, F10]; done) | (simp [go_sem, f0, f1, f2, f3, f4, F10]; omega)), by (first | omega | (simp [go_sem, f0, f1, f2, f3, f4, F10]; done) | (simp [go_sem, f0, f1, f2, f3, f4, F10]; omega)), by (repeat' first | (with_reducible first | exact Bq0 | assumption | refine Bq1 ?_ | refine Bq2 ?_ | refine Bq3 ?_ ?_ | refine Bq4 ?_ (by assumption)) | go_size)⟩ ?_
  rintro B ⟨hBc0, hBc1, hBc2, hBc3, hBc4, hBc5, hBf0, hBf1, hBf2, hBf3, hBf4, hBf5, hBz0, hBz1, hBz2, hBz3, hBz4, hBz5, hBb⟩
  have KB := fun (x : World) (hx : Below B.heap.size B x) => And.intro (keep_cell hx hBz0 hBc0) (And.intro (keep_cell hx hBz1 hBc1) (And.intro (keep_cell hx hBz2 hBc2) (And.intro (keep_cell hx hBz3 hBc3) (keep_cell hx hBz5 hBc5))))
  have J4 := fun (x : World) (hx : Below B.heap.size B x) => And.intro (keep_cell hx hBz4 hBc4) (And.intro (keep_frozen hx hBz4 hBf4) (keep_lt hx hBz4))
  have TB := Lib.hid (HT.out.later hBb)
  clear TA k0 k1 k2 k3 k4 f0 f1 f2 f3 f4 C10 F10 hAb hAx hB hAs hAz0 hAz1 hAz2 hAz3 hAz4 hAc0 hAc1 hAc2 hAc3 hAc4 hAf0 hAf1 hAf2 hAf3 hAf4
  refine wp_region_kn 17 [.val ((.agg #[.bool ((x1).s), .int .u64 ↑x1.a, .int .u64 0, .int .u64 0, .int .u64 0, .bool false, .int .u64 ↑x1.d, .int .u64 0, .int .u64 0, .int .u64 0])), .val ((.agg #[.bool ((x0).s), .int .u64 ↑x0.a, .int .u64 0, .int .u64 0, .int .u64 0, .bool false, .int .u64 ↑x0.d, .int .u64 0, .int .u64 0, .int .u64 0])), .val ((.agg #[.bool ((u).s), .int .u64 ↑u.a, .int .u64 0, .int .u64 0, .int .u64 0, .bool false, .int .u64 ↑u.d, .int .u64 0, .int .u64 0, .int .u64 0])), .val ((.agg #[.bool ((c).s), .int .u64 ↑c.a, .int .u64 0, .int .u64 0, .int .u64 0, .bool false, .int .u64 ↑c.d, .int .u64 0, .int .u64 0, .int .u64 0])), .val ((.agg #[.bool ((x0).s), .int .u64 ↑x0.a, .int .u64 0, .int .u64 0, .int .u64 0, .bool false, .int .u64 ↑x0.d, .int .u64 0, .int .u64 0, .int .u64 0])), .val ((.agg #[.bool ((y0).s), .int .u64 ↑y0.a, .int .u64 0, .int .u64 0, .int .u64 0, .bool false, .int .u64 ↑y0.d, .int .u64 0, .int .u64 0, .int .u64 0])), .row (2) (pk2 x0 y0), .val ((.agg #[.bool ((p0).s), .int .u64 ↑p0.a, .int .u64 0, .int .u64 0, .int .u64 0, .bool false, .int .u64 ↑p0.d, .int .u64 0, .int .u64 0, .int .u64 0])), .val ((.agg #[.bool ((m).s), .int .u64 ↑m.a, .int .u64 0, .int .u64 0, .int .u64 0, .bool false, .int .u64 ↑m.d, .int .u64 0, .int .u64 0, .int .u64 0])), .val ((.agg #[.bool ((x1).s), .int .u64 ↑x1.a, .int .u64 0, .int .u64 0, .int .u64 0, .bool false, .int .u64 ↑x1.d, .int .u64 0, .int .u64 0, .int .u64 0])), .val ((.agg #[.bool ((y1).s), .int .u64 ↑y1.a, .int .u64 0, .int .u64 0, .int .u64 0, .bool false, .int .u64 ↑y1.d, .int .u64 0, .int .u64 0, .int .u64 0])), .row (2) (pk2 x1 y1), .val ((.agg #[.bool ((p1).s), .int .u64 ↑p1.a, .int .u64 0, .int .u64 0, .int .u64 0, .bool false, .int .u64 ↑p1.d, .int .u64 0, .int .u64 0, .int .u64 0])), .row (3) (pk3 p0 m p1), .val ((.agg #[.bool ((s).s), .int .u64 ↑s.a, .int .u64 0, .int .u64 0, .int .u64 0, .bool false, .int .u64 ↑s.d, .int .u64 0, .int .u64 0, .int .u64 0])), .row (3) (pk3 u c s), .val ((.agg #[.bool ((r).s), .int .u64 ↑r.a, .int .u64 0, .int .u64 0, .int .u64 0, .bool false, .int .u64 ↑r.d, .int .u64 0, .int .u64 0, .int .u64 0]))] B (by kernel_rfl) (by kernel_rfl) (by kernel_rfl) (by kernel_rfl) (by kernel_rfl) (by decide) (Below.refl _ _) ?_ ?_
  · refine steps_next (n := 0) ⟨_, by rfl, fun vals x hx hj => ?_⟩ ?_
    · have hk := KB x hx; clear hj; refine kn_val hx ?_; simp only [putF, dstO, Act.put]; go_simp
    refine steps_next (n := 1) ⟨_, by rfl, fun vals x hx hj => ?_⟩ ?_
    · have hk := KB x hx; clear hj; refine kn_val hx ?_; simp only [putF, dstO, Act.put]; go_simp
    refine steps_next (n := 2) ⟨_, by rfl, fun vals x hx hj => ?_⟩ ?_
    · have hk := KB x hx; have e0 : _ = _ := hj 0 (by decide +kernel); have e1 : _ = _ := hj 1 (by decide +kernel); clear hj; refine kn_call hx (HU.out x (TB.out.later hx)) ?_; simp only [putF, dstO, Act.put]; (try simp only [e0, e1]); go_simp
    refine steps_next (n := 3) ⟨_, by rfl, fun vals x hx hj => ?_⟩ ?_
    · have hk := KB x hx; clear hj; refine kn_call hx (HC.out x (TB.out.later hx)) ?_; simp only [putF, dstO, Act.put]; go_simp
    refine steps_next (n := 4) ⟨_, by rfl, fun vals x hx hj => ?_⟩ ?_
    · have hk := KB x hx; clear hj; refine kn_val hx ?_; simp only [putF, dstO, Act.put]; go_simp
    refine steps_next (n := 5) ⟨_, by rfl, fun vals x hx hj => ?_⟩ ?_
    · have hk := KB x hx; clear hj; refine kn_val hx ?_; simp only [putF, dstO, Act.put]; go_simp
    refine steps_next (n := 6) ⟨_, by rfl, fun vals x hx hj => ?_⟩ ?_
    · have hk := KB x hx; have e4 : _ = _ := hj 4 (by decide +kernel); have e5 : _ = _ := hj 5 (by decide +kernel); clear hj; refine kn_row (c := 2) hx (rf2_new x 39 x0 y0) ?_; simp only [putF, dstO, Act.put]; (try simp only [e4, e5]); go_simp
    refine steps_next (n := 7) ⟨_, by rfl, fun vals x hx hj => ?_⟩ ?_
    · have hk := KB x hx; obtain ⟨b6, c6, e6, R6⟩ := hj 6 (by decide +kernel); clear hj; refine kn_call hx (HP0.out b6 c6 x (TB.out.later hx) R6) ?_; simp only [putF, dstO, Act.put]; (try simp only [e6]); go_simp
    refine steps_next (n := 8) ⟨_, by rfl, fun vals x hx hj => ?_⟩ ?_
    · have hk := KB x hx; clear hj; refine kn_val hx ?_; simp only [putF, dstO, Act.put]; go_simp
    refine steps_next (n := 9) ⟨_, by rfl, fun vals x hx hj => ?_⟩ ?_
    · have hk := KB x hx; clear hj; refine kn_val hx ?_; simp only [putF, dstO, Act.put]; go_simp
    refine steps_next (n := 10) ⟨_, by rfl, fun vals x hx hj => ?_⟩ ?_
    · have hk := KB x hx; clear hj; refine kn_val hx ?_; simp only [putF, dstO, Act.put]; go_simp
    refine steps_next (n := 11) ⟨_, by rfl, fun vals x hx hj => ?_⟩ ?_
    · have hk := KB x hx; have e9 : _ = _ := hj 9 (by decide +kernel); have e10 : _ = _ := hj 10 (by decide +kernel); clear hj; refine kn_row (c := 2) hx (rf2_new x 39 x1 y1) ?_; simp only [putF, dstO, Act.put]; (try simp only [e9, e10]); go_simp
    refine steps_next (n := 12) ⟨_, by rfl, fun vals x hx hj => ?_⟩ ?_
    · have hk := KB x hx; obtain ⟨b11, c11, e11, R11⟩ := hj 11 (by decide +kernel); clear hj; refine kn_call hx (HP1.out b11 c11 x (TB.out.later hx) R11) ?_; simp only [putF, dstO, Act.put]; (try simp only [e11]); go_simp
    refine steps_next (n := 13) ⟨_, by rfl, fun vals x hx hj => ?_⟩ ?_
    · have hk := KB x hx; have e7 : _ = _ := hj 7 (by decide +kernel); have e8 : _ = _ := hj 8 (by decide +kernel); have e12 : _ = _ := hj 12 (by decide +kernel); clear hj; refine kn_row (c := 3) hx (rf3_new x 39 p0 m p1) ?_; simp only [putF, dstO, Act.put]; (try simp only [e7, e8, e12]); go_simp
    refine steps_next (n := 14) ⟨_, by rfl, fun vals x hx hj => ?_⟩ ?_
    · have hk := KB x hx; obtain ⟨b13, c13, e13, R13⟩ := hj 13 (by decide +kernel); clear hj; refine kn_call hx (HS.out b13 c13 x (TB.out.later hx) R13) ?_; simp only [putF, dstO, Act.put]; (try simp only [e13]); go_simp
    refine steps_next (n := 15) ⟨_, by rfl, fun vals x hx hj => ?_⟩ ?_
    · have hk := KB x hx; have e2 : _ = _ := hj 2 (by decide +kernel); have e3 : _ = _ := hj 3 (by decide +kernel); have e14 : _ = _ := hj 14 (by decide +kernel); clear hj; refine kn_row (c := 3) hx (rf3_new x 39 u c s) ?_; simp only [putF, dstO, Act.put]; (try simp only [e2, e3, e14]); go_simp
    refine steps_next (n := 16) ⟨_, by rfl, fun vals x hx hj => ?_⟩ ?_
    · have hk := KB x hx; obtain ⟨b15, c15, e15, R15⟩ := hj 15 (by decide +kernel); clear hj; refine kn_call hx (HR.out b15 c15 x (TB.out.later hx) R15) ?_; simp only [putF, dstO, Act.put]; (try simp only [e15]); go_simp
    exact steps_end
  intro vals Bx hBx hv
  have hkBx := KB Bx hBx
  have e0 : _ = _ := hv 0 (by omega)
  have e1 : _ = _ := hv 1 (by omega)
  have e2 : _ = _ := hv 2 (by omega)
  have e3 : _ = _ := hv 3 (by omega)
  have e4 : _ = _ := hv 4 (by omega)
  have e5 : _ = _ := hv 5 (by omega)
  obtain ⟨b6, c6, e6, R6⟩ := hv 6 (by omega)
  have e7 : _ = _ := hv 7 (by omega)
  have e8 : _ = _ := hv 8 (by omega)
  have e9 : _ = _ := hv 9 (by omega)
  have e10 : _ = _ := hv 10 (by omega)
  obtain ⟨b11, c11, e11, R11⟩ := hv 11 (by omega)
  have e12 : _ = _ := hv 12 (by omega)
  obtain ⟨b13, c13, e13, R13⟩ := hv 13 (by omega)
  have e14 : _ = _ := hv 14 (by omega)
  obtain ⟨b15, c15, e15, R15⟩ := hv 15 (by omega)
  have e16 : _ = _ := hv 16 (by omega)
  clear hv
  simp only [putF, dstO, Act.put]
  (try simp only [e0, e1, e2, e3, e4, e5, e6, e7, e8, e9, e10, e11, e12, e13, e14, e15, e16])
  refine wpAny_ready (rs := [17]) (by decide +kernel) (by simp) (AllReady.cons rfl (fun KK hKK => ?_) AllReady.nil)
  go_simp
  (refine hKK _ _ ?_); clear hKK KK; (try simp only [Nq1, Nq2, Nq3, Act.put, Nq4, Nq5, Nq6])
  refine wpAny_done (by kernel_rfl) ?_ _
  obtain ⟨hDc4, hDf4, hDz4⟩ := J4 Bx hBx
  have hB := below_after hBb hBx
  clear J4 KB TB hkBx R6 R11 R13 R15
  go_wp2_with ((with_reducible show bodyPost _ _ _ _ _ _); refine bodyPost_ret (by simp [results, Tryd.results49, go_sem, hDc4, hDf4, hDz4]; try rfl) rfl ?_; exact ⟨rfl, by (repeat' first | (with_reducible first | exact Bq0 | assumption | refine Bq1 ?_ | refine Bq2 ?_ | refine Bq3 ?_ ?_ | refine Bq4 ?_ (by assumption)) | go_size)⟩)
end Go.Proofs.YthikaimhmpenhaaDoor
